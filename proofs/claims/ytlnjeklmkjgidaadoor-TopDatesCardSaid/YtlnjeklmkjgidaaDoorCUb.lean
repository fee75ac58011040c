/- The walk of TopDates. -/
import Derived.Test.YtlnjeklmkjgidaaDoorT5
import Derived.Test.YtlnjeklmkjgidaaDoorT6
namespace Go.Proofs.YtlnjeklmkjgidaaDoor
open Go Go.RowKit Go.Shelf
attribute [local go_sem] gv_yes
attribute [local go_sem high] neq_trace

theorem info_trT : (Tryd.prog.info? 34).map (fun i => (i.zero, i.size, i.bytes)) = some (some (.agg #[.int .i64 0, .bool false, .int .i64 0, .bool false, .string ⟨#[]⟩, .int .i64 0, .string ⟨#[]⟩]), 7, 72) := by kernel_rfl
theorem info_intT : (Tryd.prog.info? 3).map (fun i => (i.zero, i.size, i.bytes)) = some (some (.int .i64 0), 1, 8) := by kernel_rfl
structure TopI (c : Cal) (ts : List Tr) (gs : List Int) (la : Int) (k : Nat) : Prop where
  len : ts.length = gs.length
  lek : ts.length ≤ k
  ok : ∀ i, i < ts.length → (ts.getD i zTr).ok = true
  inn : ∀ i, i < ts.length → inS (c.spans (ts.getD i zTr)) (gs.getD i 0)
  srt : ∀ i, i + 1 < ts.length → gs.getD i 0 ≤ gs.getD (i + 1) 0
  top : ∀ i, i < ts.length → gs.getD i 0 ≤ la
  one : 1 ≤ la
  bd : la ≤ 9223372036854775807
theorem getD_old {α : Type} {l : List α} {x z : α} {i : Nat} (h : i < l.length) : (l ++ [x]).getD i z = l.getD i z := by
  simp [List.getD_eq_getElem?_getD, List.getElem?_append, h]
theorem getD_new {α : Type} {l : List α} {x z : α} : (l ++ [x]).getD l.length z = x := by
  simp [List.getD_eq_getElem?_getD]
theorem TopI.skip {c : Cal} {ts : List Tr} {gs : List Int} {la : Int} {k : Nat} (h : TopI c ts gs la k) : TopI c ts gs la (k + 1) := ⟨h.len, by have := h.lek; omega, h.ok, h.inn, h.srt, h.top, h.one, h.bd⟩
theorem TopI.snoc {c : Cal} {ts : List Tr} {gs : List Int} {la m : Int} {k : Nat} {t : Tr} (h : TopI c ts gs la k) (ht : t.ok = true) (hin : inS (c.spans t) m) (hm : la ≤ m) (hb : m ≤ 9223372036854775807) : TopI c (ts ++ [t]) (gs ++ [m]) m (k + 1) := by
  have hl := h.len
  have hk := h.lek
  have ho := h.one
  have one : ∀ i, i < (ts ++ [t]).length → i < ts.length ∨ i = ts.length := fun i hi => by simp at hi; omega
  refine ⟨by simp [hl], by simp; omega, fun i hi => ?_, fun i hi => ?_, fun i hi => ?_, fun i hi => ?_, by omega, hb⟩
  · rcases one i hi with h1 | rfl
    · rw [getD_old h1]; exact h.ok i h1
    · rw [getD_new]; exact ht
  · rcases one i hi with h1 | rfl
    · rw [getD_old h1, getD_old (by omega)]; exact h.inn i h1
    · rw [getD_new, hl, getD_new]; exact hin
  · have h2 : i + 1 < ts.length ∨ i + 1 = ts.length := one (i + 1) hi
    rcases h2 with h1 | h1
    · rw [getD_old (by omega), getD_old (by omega)]; exact h.srt i h1
    · rw [getD_old (by omega), show i + 1 = gs.length by omega, getD_new]
      have := h.top i (by omega); omega
  · rcases one i hi with h1 | rfl
    · rw [getD_old (by omega)]; have := h.top i h1; omega
    · rw [hl, getD_new]; omega
theorem flat_tr (l : List Tr) : l.flatMap Tr.cells = flatL (fun i => (l.getD i zTr).cells) l.length := by
  have e : l = (List.range l.length).map fun i => l.getD i zTr := by
    refine List.ext_getElem (by simp) fun i h1 h2 => ?_
    simp [List.getD_eq_getElem?_getD, h1]
  conv => lhs; rw [e]
  unfold flatL
  rw [List.flatMap_map]
def intL (l : List Int) : List Value := l.map fun z => .int .i64 z
theorem flat_int (l : List Int) : intL l = flatL (fun i => [.int .i64 (l.getD i 0)]) l.length := by
  have e : l = (List.range l.length).map fun i => l.getD i 0 := by
    refine List.ext_getElem (by simp) fun i h1 h2 => ?_
    simp [List.getD_eq_getElem?_getD, h1]
  conv => lhs; rw [e]
  unfold flatL intL
  rw [List.map_map]
  induction List.range l.length with
  | nil => rfl
  | cons a t ih => rw [List.map_cons, List.flatMap_cons, ih]; rfl
theorem tr_rows {w : World} {base k : Nat} {v : Value} {l : List Tr} (h : w.ownsRow base 34 7 v k (l.flatMap Tr.cells)) : ∃ F m, v = .slice F l.length m ∧ RowsAt w F l.length 7 (fun i => (l.getD i zTr).cells) ∧ l.length ≤ m ∧ m ≤ maxLen := by
  have hl := flatL_len (f := fun i => (l.getD i zTr).cells) (sz := 7) (fun _ => rfl) l.length
  rw [flat_tr] at h
  have hk := h.1
  obtain rfl : k = l.length := by omega
  obtain ⟨F, c, h1, h2, h3, h4, _⟩ := flat_rows (f := fun i => (l.getD i zTr).cells) (fun _ => rfl) h
  exact ⟨F, c, h1, h2, h3, h4⟩
theorem int_rows {w : World} {base k : Nat} {v : Value} {l : List Int} (h : w.ownsRow base 3 1 v k (intL l)) : ∃ F m, v = .slice F l.length m ∧ RowsAt w F l.length 1 (fun i => [.int .i64 (l.getD i 0)]) ∧ l.length ≤ m ∧ m ≤ maxLen := by
  have hl := flatL_len (f := fun i => [Value.int .i64 (l.getD i 0)]) (sz := 1) (fun _ => rfl) l.length
  rw [flat_int] at h
  have hk := h.1
  obtain rfl : k = l.length := by omega
  obtain ⟨F, c, h1, h2, h3, h4, _⟩ := flat_rows (f := fun i => [Value.int .i64 (l.getD i 0)]) (fun _ => rfl) h
  exact ⟨F, c, h1, h2, h3, h4⟩
theorem sp_getT {w : World} {b off n k : Nat} {l : List Sp} (h : RowsAt w (some ⟨b, off, none⟩) n 2 (fun i => (l.getD i ⟨0, 0⟩).cells)) (hk : k < n) : b < w.heap.size ∧ w.cell? ⟨b, off + k * 2, none⟩ = some (.int .i64 (l.getD k ⟨0, 0⟩).a) ∧ w.cell? ⟨b, off + k * 2 + 1, none⟩ = some (.int .i64 (l.getD k ⟨0, 0⟩).b) := by
  obtain ⟨b', off', e, hb, hc⟩ := h (by omega)
  cases e
  exact ⟨hb, by simpa [Sp.cells] using hc k 0 _ hk rfl, hc k 1 _ hk rfl⟩
theorem held_u7 {W : World} {b : Nat} {t : TypeId} {v0 v1 v2 v3 v4 v5 v6 : Value} (h : Held W b t #[v0, v1, v2, v3, v4, v5, v6]) : W.cell? ⟨b, 0, none⟩ = some v0 ∧ W.cell? ⟨b, 1, none⟩ = some v1 ∧ W.cell? ⟨b, 2, none⟩ = some v2 ∧ W.cell? ⟨b, 3, none⟩ = some v3 ∧ W.cell? ⟨b, 4, none⟩ = some v4 ∧ W.cell? ⟨b, 5, none⟩ = some v5 ∧ W.cell? ⟨b, 6, none⟩ = some v6 := ⟨h.cell 0, h.cell 1, h.cell 2, h.cell 3, h.cell 4, h.cell 5, h.cell 6⟩
theorem held7_0 {W : World} {b : Nat} {t : TypeId} {v0 v1 v2 v3 v4 v5 v6 : Value} (h : Held W b t #[v0, v1, v2, v3, v4, v5, v6]) (u : Value) : Held (W.setCell ⟨b, 0, none⟩ u) b t #[u, v1, v2, v3, v4, v5, v6] := by unfold Held at h ⊢; simp [World.setCell, Array.getElem?_modify, h]
theorem held7_2 {W : World} {b : Nat} {t : TypeId} {v0 v1 v2 v3 v4 v5 v6 : Value} (h : Held W b t #[v0, v1, v2, v3, v4, v5, v6]) (u : Value) : Held (W.setCell ⟨b, 2, none⟩ u) b t #[v0, v1, u, v3, v4, v5, v6] := by unfold Held at h ⊢; simp [World.setCell, Array.getElem?_modify, h]
theorem held7_3 {W : World} {b : Nat} {t : TypeId} {v0 v1 v2 v3 v4 v5 v6 : Value} (h : Held W b t #[v0, v1, v2, v3, v4, v5, v6]) (u : Value) : Held (W.setCell ⟨b, 3, none⟩ u) b t #[v0, v1, v2, u, v4, v5, v6] := by unfold Held at h ⊢; simp [World.setCell, Array.getElem?_modify, h]
theorem held7_4 {W : World} {b : Nat} {t : TypeId} {v0 v1 v2 v3 v4 v5 v6 : Value} (h : Held W b t #[v0, v1, v2, v3, v4, v5, v6]) (u : Value) : Held (W.setCell ⟨b, 4, none⟩ u) b t #[v0, v1, v2, v3, u, v5, v6] := by unfold Held at h ⊢; simp [World.setCell, Array.getElem?_modify, h]
theorem held7_6 {W : World} {b : Nat} {t : TypeId} {v0 v1 v2 v3 v4 v5 v6 : Value} (h : Held W b t #[v0, v1, v2, v3, v4, v5, v6]) (u : Value) : Held (W.setCell ⟨b, 6, none⟩ u) b t #[v0, v1, v2, v3, v4, v5, u] := by unfold Held at h ⊢; simp [World.setCell, Array.getElem?_modify, h]
theorem int_getT {w : World} {b off n k : Nat} {g : Nat → Int} (h : RowsAt w (some ⟨b, off, none⟩) n 1 (fun i => [.int .i64 (g i)])) (hk : k < n) : b < w.heap.size ∧ w.cell? ⟨b, off + k, none⟩ = some (.int .i64 (g k)) := by
  obtain ⟨b', off', e, hb, hc⟩ := h (by omega)
  cases e
  exact ⟨hb, by simpa using hc k 0 _ hk rfl⟩
theorem own_apart {w : World} {base base' size size' n n' : Nat} {e e' : TypeId} {v v' : Value} {xs xs' : List Value} (h : w.ownsRow base e size v n xs) (h' : w.ownsRow base' e' size' v' n' xs') (hne : e ≠ e') : v'.ownBlock = none ∨ v'.ownBlock ≠ v.ownBlock := by
  cases hb : v'.ownBlock with
  | none => exact .inl rfl
  | some q =>
    refine .inr fun h2 => ?_
    obtain ⟨_, c1, e1⟩ := row_type h' q hb
    obtain ⟨_, c2, e2⟩ := row_type h q h2.symm
    rw [e1] at e2
    simp at e2
    exact hne e2.2.symm
set_option maxRecDepth 100000 in
set_option maxHeartbeats 40000000 in
theorem topDates_walk (A A' : Option Addr) (ca cb : Nat) (c : Cal) (DA HA : Option Addr) (nd capd nh caph : Nat) (g hh : Nat → Int) (w : World) (hC : CalAt w A ca A' cb c) (hD : RowsAt w DA nd 1 (fun i => [.int .i64 (g i)])) (hG : RowsAt w HA nh 1 (fun i => [.int .i64 (hh i)])) (hnd : nd ≤ 9223372036854775807) (hnh : nh ≤ 9223372036854775807) (hg : ∀ i, i < nd → -9223372036854775808 ≤ g i ∧ g i ≤ 9223372036854775807) (hZ : Zro w) :
    Calls Tryd.prog 3 #[.agg #[.slice A c.nk ca, .slice A' c.ny cb], .slice DA nd capd, .slice HA nh caph] w fun e w' => e = .returned (.bool true) ∧ Ext w w' := by
  have NA := fun m w hC (h1 : -9223372036854775808 ≤ m) (h2 : m ≤ 9223372036854775807) => atX_any A A' ca cb c m w hC h1 h2
  have NW := fun d w hC => wholeD_any A A' ca cb c d w hC
  have NS := fun B n cap f w hC hT hn => seriesX_any A A' ca cb c B n cap f w hC hT hn
  have NK := fun w hC => check_any A A' ca cb c w hC
  go_enter Tryd.func3, Tryd.ntmps3
  go_upto_region 1 with (fail)
  obtain ⟨v, hv⟩ : ∃ v, v = (w.alloc (.cells #[.slice A c.nk ca, .slice A' c.ny cb] 25)) := ⟨_, rfl⟩
  rw [← hv]
  have E : Ext w v := by rw [hv]; exact (Ext.refl _).alloc _
  have B1 : Held v w.heap.size 25 #[.slice A c.nk ca, .slice A' c.ny cb] := by rw [hv]; exact (Held.new _ _ _)
  clear hv
  obtain ⟨b1, hb1⟩ : ∃ b, b = w.heap.size := ⟨_, rfl⟩
  rw [← hb1] at B1 ⊢
  have hbr : w.heap.size ≤ b1 := by omega
  clear hb1
  have Z := hZ.ext E
  have C := hC.ext E
  have D := hD.ext E
  have G := hG.ext E
  obtain ⟨k0, k1⟩ := B1.c2
  have kl := B1.lt
  clear hC hD hG hZ
  have hwv := E.size
  have C0 := C
  have Z0 := Z
  have D0 := D
  have G0 := G
  have B10 := B1
  go_upto_region 5 with (fail)
  go_loopw [7, 8, 9, 10] (fun lv inv lav iv wr => ∃ (k : Nat) (ts : List Tr) (gs : List Int) (la : Int), k ≤ nd ∧ k ≤ 20 ∧ iv = .int .i64 (k : Int) ∧ lav = .int .i64 la ∧ wr.ownsRow v.heap.size 34 7 lv ts.length (ts.flatMap Tr.cells) ∧ wr.ownsRow v.heap.size 3 1 inv gs.length (intL gs) ∧ TopI c ts gs la k ∧ Ext v wr) (fun _ _ _ iv _ => nd - (intOf iv).toNat)
  case atStart => exact ⟨0, [], [], 1, Nat.zero_le _, by decide, rfl, rfl, World.ownsRow_nil _ _ _ _, World.ownsRow_nil _ _ _ _, ⟨rfl, Nat.le_refl _, fun i h => absurd h (by simp), fun i h => absurd h (by simp), fun i h => absurd h (by simp), fun i h => absurd h (by simp), by decide, by decide⟩, Ext.refl _⟩
  case round =>
    obtain ⟨k, ts, gs, la, hkn, hk20, rfl, rfl, hL, hI, hT, hE⟩ := hrel
    obtain ⟨F1, m1, rfl⟩ := own_sl hL
    obtain ⟨F2, m2, rfl⟩ := own_sl hI
    obtain ⟨wo, rfl⟩ : ∃ wo : World, wo = wr := ⟨_, rfl⟩

    replace E := E.trans hE
    replace Z := Z.ext hE
    replace C := C.ext hE
    replace D := D.ext hE
    replace G := G.ext hE
    replace B1 := B1.ext hE
    clear k0 k1 kl
    obtain ⟨k0, k1⟩ := B1.c2
    have kl := B1.lt

    by_cases hlt : k < nd
    rotate_left
    · clear NA NW hE G D
      obtain ⟨F3, m3, e3, R1, _, _⟩ := tr_rows hL
      cases e3
      obtain ⟨F4, m4, e4, R2, _, _⟩ := int_rows hI
      cases e4
      have hgn := hT.len.symm
      have h20 : ts.length ≤ 20 := by have := hT.lek; omega
      rw [hgn] at R2 ⊢
      have TS := Lib.hid fun hv => top_series (c := c) (f := fun i => ts.getD i zTr) (n := ts.length) (g := fun i => gs.getD i 0) hv (by omega) hT.ok hT.inn hT.srt
      have TB := Lib.hid fun hv => top_bad (c := c) (f := fun i => ts.getD i zTr) (n := ts.length) hv
      have NSE := fun w hC hR => NS F1 ts.length m1 (fun i => ts.getD i zTr) w hC hR (by omega)
      clear hL hI hgn NS C0 Z0 D0 G0 B10 hwv
      generalize ts.length = n at *
      generalize hfg : (fun i => ts.getD i zTr) = ff at *
      clear hfg
      obtain ⟨gg, hgg⟩ : ∃ g : Nat → Int, g = fun i => gs.getD i 0 := ⟨_, rfl⟩
      have R3 : RowsAt wo F2 n 1 (fun i => [.int .i64 (gg i)]) := by rw [hgg]; exact R2
      have TS2 : Hid (c.valid = true → c.serE ff n = 0 ∧ (c.serV ff n).length = n ∧ ∀ i, i < n → ((c.serV ff n).getD i ⟨0, 0⟩).a ≤ gg i ∧ gg i ≤ ((c.serV ff n).getD i ⟨0, 0⟩).b) := by rw [hgg]; exact TS
      clear R2 TS hgg hT
      go_upto_region 30 with (fail)
      cases hv : c.valid
      · have he := TB.out hv
        have hck : c.chk = 70 := by unfold Cal.chk; rw [hv]; rfl
        simp only [he] at NSE
        simp only [hck] at NK
        clear TS2 TB he hck hv
        go_wp2_with (first | (go_at_call 16; (with_reducible refine Calls.mono (NSE _ C R1) ?_); rintro e wa ⟨sv, rfl, hx, _⟩; replace E := E.trans hx; replace Z := Z.ext hx; replace C := C.ext hx; replace R1 := R1.ext hx; replace R3 := R3.ext hx; replace B1 := B1.ext hx; clear hx; clear k0 k1 kl; obtain ⟨k0, k1⟩ := B1.c2; have kl := B1.lt) | (go_at_call 17; (with_reducible refine Calls.mono (NK _ C) ?_); rintro e wb ⟨rfl, hx⟩; replace E := E.trans hx; replace Z := Z.ext hx; replace C := C.ext hx; replace R1 := R1.ext hx; replace R3 := R3.ext hx; replace B1 := B1.ext hx; clear hx; clear k0 k1 kl; obtain ⟨k0, k1⟩ := B1.c2; have kl := B1.lt) | (go_at_call 18; (with_reducible refine Calls.mono (lent_any _ Z) ?_); rintro e wk ⟨rfl, hk⟩))
        go_ret
        exact ⟨rfl, E.trans hk⟩

      obtain ⟨he, hln, hbd⟩ := TS2.out hv
      have hck : c.chk = 0 := by unfold Cal.chk; rw [hv]; rfl
      simp only [he] at NSE
      simp only [hck] at NK
      replace hbd := Lib.hid hbd
      clear TS2 TB he hck hv
      generalize c.serV ff n = sp at *
      go_upto_region 31 with (go_at_call 16; (with_reducible refine Calls.mono (NSE _ C R1) ?_); rintro e wa ⟨sv, rfl, hx, hsv⟩; replace E := E.trans hx; replace Z := Z.ext hx; replace C := C.ext hx; replace R1 := R1.ext hx; replace R3 := R3.ext hx; replace B1 := B1.ext hx; clear hx; clear k0 k1 kl; obtain ⟨k0, k1⟩ := B1.c2; have kl := B1.lt)
      obtain ⟨SA, sc, rfl, hS, _, _⟩ := hsv
      rw [hln] at hS ⊢
      clear hln NSE

      go_upto_region 36 with (go_at_call 17; (with_reducible refine Calls.mono (NK _ C) ?_); rintro e wb ⟨rfl, hx⟩; replace E := E.trans hx; replace Z := Z.ext hx; replace C := C.ext hx; replace R1 := R1.ext hx; replace R3 := R3.ext hx; replace hS := hS.ext hx; replace B1 := B1.ext hx; clear hx; clear k0 k1 kl; obtain ⟨k0, k1⟩ := B1.c2; have kl := B1.lt)
      clear NK
      go_loopw [22] (fun iv wr => ∃ j : Nat, j ≤ n ∧ iv = .int .i64 (j : Int) ∧ Ext wb wr) (fun iv _ => n - (intOf iv).toNat)
      case atStart => exact ⟨0, Nat.zero_le _, rfl, Ext.refl _⟩
      case round =>
        obtain ⟨j, hj, rfl, hE⟩ := hrel
        obtain ⟨wp, rfl⟩ : ∃ wo : World, wo = wr := ⟨_, rfl⟩
        replace E := E.trans hE
        replace Z := Z.ext hE
        replace C := C.ext hE
        replace R1 := R1.ext hE
        replace R3 := R3.ext hE
        replace hS := hS.ext hE
        replace B1 := B1.ext hE
        clear k0 k1 kl
        by_cases hjl : j < n
        · obtain ⟨bi, oi, rfl, _, _⟩ := id (R3 (by omega))
          obtain ⟨bs, os, rfl, _, _⟩ := id (hS (by omega))
          obtain ⟨l1, g0⟩ := int_getT R3 hjl
          obtain ⟨l2, s0, s1⟩ := sp_getT hS hjl
          obtain ⟨b1', b2'⟩ := hbd.out j hjl
          generalize sp.getD j ⟨0, 0⟩ = S at *
          have c1 : decide (gg j < S.a) = false := decide_eq_false (by omega)
          have c2 : decide (S.b < gg j) = false := decide_eq_false (by omega)
          clear b1' b2'
          go_upto_region 38 with (fail)
          refine wp_region_xw wp mixed (by kernel_rfl) (by repeat (first | exact Ext.refl _ | (refine Ext.alloc ?_ _) | (refine Ext.trans ?_ (by assumption)))) ?_
          intro hne hrx hry
          try simp only []
          try simp only [List.append_eq, List.cons_append, List.nil_append]
          skip
          repeat (first
            | go_big_quiet_skip
            | (go_big_quiet_want; go_big_quiet_op; go_big_quiet_on))
          clear hne hry hrx
          refine wpQuiet_nil ?_
          intro v38 hx
          obtain ⟨hcv38, hfv38, hzv38⟩ := Ext.rules hx
          try simp only [World.size_alloc] at hzv38
          obtain ⟨hcbv38, hfbv38, hzbv38⟩ := Ext.rules (show Ext wp v38 from (by repeat (first | exact Ext.refl _ | (refine Ext.alloc ?_ _) | (refine Ext.trans ?_ (by assumption)))))
          clear hcv38 hfv38
          go_wp2
          exact ⟨⟨j + 1, by omega, by go_num, hE.trans hx⟩, by simp [intOf]; omega⟩
        · obtain rfl : j = n := by omega
          go_wp2_with (go_at_call 18; (with_reducible refine Calls.mono (lent_any _ Z) ?_); rintro e wk ⟨rfl, hk⟩)
          go_ret
          exact ⟨rfl, E.trans hk⟩
    by_cases hl2 : k < 20
    rotate_left
    · clear NA NW hE G D
      obtain ⟨F3, m3, e3, R1, _, _⟩ := tr_rows hL
      cases e3
      obtain ⟨F4, m4, e4, R2, _, _⟩ := int_rows hI
      cases e4
      have hgn := hT.len.symm
      have h20 : ts.length ≤ 20 := by have := hT.lek; omega
      rw [hgn] at R2 ⊢
      have TS := Lib.hid fun hv => top_series (c := c) (f := fun i => ts.getD i zTr) (n := ts.length) (g := fun i => gs.getD i 0) hv (by omega) hT.ok hT.inn hT.srt
      have TB := Lib.hid fun hv => top_bad (c := c) (f := fun i => ts.getD i zTr) (n := ts.length) hv
      have NSE := fun w hC hR => NS F1 ts.length m1 (fun i => ts.getD i zTr) w hC hR (by omega)
      clear hL hI hgn NS C0 Z0 D0 G0 B10 hwv
      generalize ts.length = n at *
      generalize hfg : (fun i => ts.getD i zTr) = ff at *
      clear hfg
      obtain ⟨gg, hgg⟩ : ∃ g : Nat → Int, g = fun i => gs.getD i 0 := ⟨_, rfl⟩
      have R3 : RowsAt wo F2 n 1 (fun i => [.int .i64 (gg i)]) := by rw [hgg]; exact R2
      have TS2 : Hid (c.valid = true → c.serE ff n = 0 ∧ (c.serV ff n).length = n ∧ ∀ i, i < n → ((c.serV ff n).getD i ⟨0, 0⟩).a ≤ gg i ∧ gg i ≤ ((c.serV ff n).getD i ⟨0, 0⟩).b) := by rw [hgg]; exact TS
      clear R2 TS hgg hT
      go_upto_region 30 with (fail)
      cases hv : c.valid
      · have he := TB.out hv
        have hck : c.chk = 70 := by unfold Cal.chk; rw [hv]; rfl
        simp only [he] at NSE
        simp only [hck] at NK
        clear TS2 TB he hck hv
        go_wp2_with (first | (go_at_call 16; (with_reducible refine Calls.mono (NSE _ C R1) ?_); rintro e wa ⟨sv, rfl, hx, _⟩; replace E := E.trans hx; replace Z := Z.ext hx; replace C := C.ext hx; replace R1 := R1.ext hx; replace R3 := R3.ext hx; replace B1 := B1.ext hx; clear hx; clear k0 k1 kl; obtain ⟨k0, k1⟩ := B1.c2; have kl := B1.lt) | (go_at_call 17; (with_reducible refine Calls.mono (NK _ C) ?_); rintro e wb ⟨rfl, hx⟩; replace E := E.trans hx; replace Z := Z.ext hx; replace C := C.ext hx; replace R1 := R1.ext hx; replace R3 := R3.ext hx; replace B1 := B1.ext hx; clear hx; clear k0 k1 kl; obtain ⟨k0, k1⟩ := B1.c2; have kl := B1.lt) | (go_at_call 18; (with_reducible refine Calls.mono (lent_any _ Z) ?_); rintro e wk ⟨rfl, hk⟩))
        go_ret
        exact ⟨rfl, E.trans hk⟩

      obtain ⟨he, hln, hbd⟩ := TS2.out hv
      have hck : c.chk = 0 := by unfold Cal.chk; rw [hv]; rfl
      simp only [he] at NSE
      simp only [hck] at NK
      replace hbd := Lib.hid hbd
      clear TS2 TB he hck hv
      generalize c.serV ff n = sp at *
      go_upto_region 31 with (go_at_call 16; (with_reducible refine Calls.mono (NSE _ C R1) ?_); rintro e wa ⟨sv, rfl, hx, hsv⟩; replace E := E.trans hx; replace Z := Z.ext hx; replace C := C.ext hx; replace R1 := R1.ext hx; replace R3 := R3.ext hx; replace B1 := B1.ext hx; clear hx; clear k0 k1 kl; obtain ⟨k0, k1⟩ := B1.c2; have kl := B1.lt)
      obtain ⟨SA, sc, rfl, hS, _, _⟩ := hsv
      rw [hln] at hS ⊢
      clear hln NSE

      go_upto_region 36 with (go_at_call 17; (with_reducible refine Calls.mono (NK _ C) ?_); rintro e wb ⟨rfl, hx⟩; replace E := E.trans hx; replace Z := Z.ext hx; replace C := C.ext hx; replace R1 := R1.ext hx; replace R3 := R3.ext hx; replace hS := hS.ext hx; replace B1 := B1.ext hx; clear hx; clear k0 k1 kl; obtain ⟨k0, k1⟩ := B1.c2; have kl := B1.lt)
      clear NK
      go_loopw [22] (fun iv wr => ∃ j : Nat, j ≤ n ∧ iv = .int .i64 (j : Int) ∧ Ext wb wr) (fun iv _ => n - (intOf iv).toNat)
      case atStart => exact ⟨0, Nat.zero_le _, rfl, Ext.refl _⟩
      case round =>
        obtain ⟨j, hj, rfl, hE⟩ := hrel
        obtain ⟨wp, rfl⟩ : ∃ wo : World, wo = wr := ⟨_, rfl⟩
        replace E := E.trans hE
        replace Z := Z.ext hE
        replace C := C.ext hE
        replace R1 := R1.ext hE
        replace R3 := R3.ext hE
        replace hS := hS.ext hE
        replace B1 := B1.ext hE
        clear k0 k1 kl
        by_cases hjl : j < n
        · obtain ⟨bi, oi, rfl, _, _⟩ := id (R3 (by omega))
          obtain ⟨bs, os, rfl, _, _⟩ := id (hS (by omega))
          obtain ⟨l1, g0⟩ := int_getT R3 hjl
          obtain ⟨l2, s0, s1⟩ := sp_getT hS hjl
          obtain ⟨b1', b2'⟩ := hbd.out j hjl
          generalize sp.getD j ⟨0, 0⟩ = S at *
          have c1 : decide (gg j < S.a) = false := decide_eq_false (by omega)
          have c2 : decide (S.b < gg j) = false := decide_eq_false (by omega)
          clear b1' b2'
          go_upto_region 38 with (fail)
          refine wp_region_xw wp mixed (by kernel_rfl) (by repeat (first | exact Ext.refl _ | (refine Ext.alloc ?_ _) | (refine Ext.trans ?_ (by assumption)))) ?_
          intro hne hrx hry
          try simp only []
          try simp only [List.append_eq, List.cons_append, List.nil_append]
          skip
          repeat (first
            | go_big_quiet_skip
            | (go_big_quiet_want; go_big_quiet_op; go_big_quiet_on))
          clear hne hry hrx
          refine wpQuiet_nil ?_
          intro v38 hx
          obtain ⟨hcv38, hfv38, hzv38⟩ := Ext.rules hx
          try simp only [World.size_alloc] at hzv38
          obtain ⟨hcbv38, hfbv38, hzbv38⟩ := Ext.rules (show Ext wp v38 from (by repeat (first | exact Ext.refl _ | (refine Ext.alloc ?_ _) | (refine Ext.trans ?_ (by assumption)))))
          clear hcv38 hfv38
          go_wp2
          exact ⟨⟨j + 1, by omega, by go_num, hE.trans hx⟩, by simp [intOf]; omega⟩
        · obtain rfl : j = n := by omega
          go_wp2_with (go_at_call 18; (with_reducible refine Calls.mono (lent_any _ Z) ?_); rintro e wk ⟨rfl, hk⟩)
          go_ret
          exact ⟨rfl, E.trans hk⟩
    obtain ⟨bD, oD, rfl, _, _⟩ := id (D (by omega))
    obtain ⟨m, hm⟩ : ∃ m, m = max la (g k) := ⟨_, rfl⟩
    have hmb : la ≤ m ∧ m ≤ 9223372036854775807 ∧ 1 ≤ m := by
      have h1 := hT.bd
      have h2 := hT.one
      have h3 := hg k hlt
      rw [hm, Int.max_def]; split <;> omega
    have NAm := fun w hC => NA m w hC (by omega) hmb.2.1
    clear NA
    obtain ⟨d, hd⟩ : ∃ d, d = c.atV m := ⟨_, rfl⟩
    obtain ⟨de, hde⟩ : ∃ x, x = c.atE m := ⟨_, rfl⟩
    simp only [← hd, ← hde] at NAm
    replace NAm : ∀ w, CalAt w A ca A' cb c → Calls Tryd.prog 11 #[.agg #[.slice A c.nk ca, .slice A' c.ny cb], .int .i64 m] w fun e w' => e = .returned (.tuple #[.agg #[.int .i64 d.y, .int .i64 d.m, .bool d.s, .int .i64 d.d], .int .i64 de]) ∧ Ext w w' := NAm
    replace hm := Lib.hid hm
    replace hd := Lib.hid hd
    replace hde := Lib.hid hde
    go_upto_region 7 with (fail)
    clear k0 k1 kl
    apply wp_cut1y (S := fun w' r => Ext wo w' ∧ Held w' r 29 #[.int .i64 d.y, .int .i64 d.m, .bool d.s, .int .i64 d.d])
    · refine wp_region_z 14 [9, 10, 12, 13] (fun x => Ext wo x) mixed rfl ?_
      intro vz hvz
      have HC := hvz
      refine z_stills (g := 8) [0, 1, 2, 3, 4, 5] [_, _, _, _, _, _] ⟨rfl, rfl, rfl, rfl, rfl, rfl, trivial⟩ (by kernel_rfl) (by kernel_rfl) HC ?_
      simp only [List.getElem_toArray, List.getElem_cons_succ, List.getElem_cons_zero]
      apply Exists.intro
      refine ⟨fun u hu => ?_, ?_⟩
      · obtain ⟨k0, k1⟩ := (B1.ext hu).c2
        have kl := (B1.ext hu).lt
        obtain ⟨bl, d0⟩ := int_getT (D.ext hu) hlt
        repeat (first | go_big_quiet_skip | (go_big_quiet_want; go_big_quiet_op; go_big_quiet_on))
        refine wpQuiet_nil ?_
        rfl
      refine z_two 6 11 rfl rfl (by kernel_rfl) ?_ ?_
      · simp only [List.getElem_toArray, List.getElem_cons_succ, List.getElem_cons_zero]
        obtain ⟨bl, d0⟩ := int_getT (D.ext HC) hlt
        go_wp2
        rw [← hm.out]
        refine onQ_in HC ?_
        refine z_two 7 11 rfl rfl (by kernel_rfl) ?_ ?_
        · simp only [List.getElem_toArray, List.getElem_cons_succ, List.getElem_cons_zero]
          go_wp2_with (go_at_call 11; (with_reducible refine Calls.mono (NAm _ (C.ext HC)) ?_); rintro e wa ⟨rfl, hx⟩)
          replace HC := HC.trans hx
          try replace H5 := H5.ext hx
          clear hx
          refine onQ_in HC ?_
          refine z_stills (g := 5) [8] [_] ⟨rfl, trivial⟩ (by kernel_rfl) (by kernel_rfl) HC ?_
          simp only [List.getElem_toArray, List.getElem_cons_succ, List.getElem_cons_zero]
          apply Exists.intro
          refine ⟨fun u hu => ?_, ?_⟩
          · obtain ⟨k0, k1⟩ := (B1.ext hu).c2
            have kl := (B1.ext hu).lt
            obtain ⟨bl, d0⟩ := int_getT (D.ext hu) hlt
            repeat (first | go_big_quiet_skip | (go_big_quiet_want; go_big_quiet_op; go_big_quiet_on))
            refine wpQuiet_nil ?_
            rfl
          refine z_pures (g := 3) [9, 10] [_, _] ⟨rfl, rfl, trivial⟩ (by kernel_rfl) (by kernel_rfl) ?_
          simp only [List.getElem_toArray, List.getElem_cons_succ, List.getElem_cons_zero]
          apply Exists.intro
          refine ⟨fun u hu => ?_, ?_⟩
          · repeat (first | go_big_quiet_skip | (go_big_quiet_want; go_big_quiet_op; go_big_quiet_on))
            refine wpQuiet_nil ?_
            rfl
          refine z_one 11 rfl (by kernel_rfl) ?_
          simp only [List.getElem_toArray, List.getElem_cons_succ, List.getElem_cons_zero]
          go_wp2
          obtain ⟨b9, wb, hbq, hwb, H5, HC', hx, g5⟩ := ex_new2 HC 29 #[.int .i64 0, .int .i64 0, .bool false, .int .i64 0]
          rw [← hbq, ← hwb]
          replace HC := HC'
          clear hbq hwb hx HC'
          refine onQ_in HC ?_
          refine z_end 12 rfl (by kernel_rfl) ?_
          simp only [List.getElem_toArray, List.getElem_cons_succ, List.getElem_cons_zero]
          have z0 := H5.frozen 0
          have z1 := H5.frozen 1
          have z2 := H5.frozen 2
          have z3 := H5.frozen 3
          obtain ⟨x0, x1, x2, x3⟩ := H5.c4
          have lx := H5.lt
          go_wp2
          have H6 := held4 H5 (.int .i64 d.y) (.int .i64 d.m) (.bool d.s) (.int .i64 d.d)
          replace HC := (((HC.setCell (p := ⟨b9, 0, none⟩) g5 (.int .i64 d.y)).setCell (p := ⟨b9, 1, none⟩) g5 (.int .i64 d.m)).setCell (p := ⟨b9, 2, none⟩) g5 (.bool d.s)).setCell (p := ⟨b9, 3, none⟩) g5 (.int .i64 d.d)
          clear z0 z1 z2 z3 x0 x1 x2 x3 lx H5
          generalize World.setCell _ _ _ = wq at *
          refine onQ_last ?_
          refine z_end 13 rfl (by kernel_rfl) ?_
          simp only [List.getElem_toArray, List.getElem_cons_succ, List.getElem_cons_zero]
          go_wp2
          refine onQ_last ?_
          refine z_done (by kernel_rfl) ?_
          exact cut1y_is b9 ⟨HC, H6⟩ rfl
        · simp only [List.getElem_toArray, List.getElem_cons_succ, List.getElem_cons_zero]
          go_wp2
          obtain ⟨b9, wb, hbq, hwb, H5, HC', hx, g5⟩ := ex_new2 HC 29 #[.int .i64 0, .int .i64 0, .bool false, .int .i64 0]
          rw [← hbq, ← hwb]
          replace HC := HC'
          clear hbq hwb hx HC'
          refine onQ_in HC ?_
          refine z_one 7 rfl (by kernel_rfl) ?_
          simp only [List.getElem_toArray, List.getElem_cons_succ, List.getElem_cons_zero]
          go_wp2_with (go_at_call 11; (with_reducible refine Calls.mono (NAm _ (C.ext HC)) ?_); rintro e wa ⟨rfl, hx⟩)
          replace HC := HC.trans hx
          try replace H5 := H5.ext hx
          clear hx
          refine onQ_in HC ?_
          refine z_stills (g := 4) [8] [_] ⟨rfl, trivial⟩ (by kernel_rfl) (by kernel_rfl) HC ?_
          simp only [List.getElem_toArray, List.getElem_cons_succ, List.getElem_cons_zero]
          apply Exists.intro
          refine ⟨fun u hu => ?_, ?_⟩
          · obtain ⟨k0, k1⟩ := (B1.ext hu).c2
            have kl := (B1.ext hu).lt
            obtain ⟨bl, d0⟩ := int_getT (D.ext hu) hlt
            repeat (first | go_big_quiet_skip | (go_big_quiet_want; go_big_quiet_op; go_big_quiet_on))
            refine wpQuiet_nil ?_
            rfl
          refine z_pures (g := 2) [9, 10] [_, _] ⟨rfl, rfl, trivial⟩ (by kernel_rfl) (by kernel_rfl) ?_
          simp only [List.getElem_toArray, List.getElem_cons_succ, List.getElem_cons_zero]
          apply Exists.intro
          refine ⟨fun u hu => ?_, ?_⟩
          · repeat (first | go_big_quiet_skip | (go_big_quiet_want; go_big_quiet_op; go_big_quiet_on))
            refine wpQuiet_nil ?_
            rfl
          refine z_end 12 rfl (by kernel_rfl) ?_
          simp only [List.getElem_toArray, List.getElem_cons_succ, List.getElem_cons_zero]
          have z0 := H5.frozen 0
          have z1 := H5.frozen 1
          have z2 := H5.frozen 2
          have z3 := H5.frozen 3
          obtain ⟨x0, x1, x2, x3⟩ := H5.c4
          have lx := H5.lt
          go_wp2
          have H6 := held4 H5 (.int .i64 d.y) (.int .i64 d.m) (.bool d.s) (.int .i64 d.d)
          replace HC := (((HC.setCell (p := ⟨b9, 0, none⟩) g5 (.int .i64 d.y)).setCell (p := ⟨b9, 1, none⟩) g5 (.int .i64 d.m)).setCell (p := ⟨b9, 2, none⟩) g5 (.bool d.s)).setCell (p := ⟨b9, 3, none⟩) g5 (.int .i64 d.d)
          clear z0 z1 z2 z3 x0 x1 x2 x3 lx H5
          generalize World.setCell _ _ _ = wq at *
          refine onQ_last ?_
          refine z_end 13 rfl (by kernel_rfl) ?_
          simp only [List.getElem_toArray, List.getElem_cons_succ, List.getElem_cons_zero]
          go_wp2
          refine onQ_last ?_
          refine z_done (by kernel_rfl) ?_
          exact cut1y_is b9 ⟨HC, H6⟩ rfl
      · simp only [List.getElem_toArray, List.getElem_cons_succ, List.getElem_cons_zero]
        go_wp2
        obtain ⟨b9, wb, hbq, hwb, H5, HC', hx, g5⟩ := ex_new2 HC 29 #[.int .i64 0, .int .i64 0, .bool false, .int .i64 0]
        rw [← hbq, ← hwb]
        replace HC := HC'
        clear hbq hwb hx HC'
        refine onQ_in HC ?_
        refine z_one 6 rfl (by kernel_rfl) ?_
        simp only [List.getElem_toArray, List.getElem_cons_succ, List.getElem_cons_zero]
        obtain ⟨bl, d0⟩ := int_getT (D.ext HC) hlt
        go_wp2
        rw [← hm.out]
        refine onQ_in HC ?_
        refine z_one 7 rfl (by kernel_rfl) ?_
        simp only [List.getElem_toArray, List.getElem_cons_succ, List.getElem_cons_zero]
        go_wp2_with (go_at_call 11; (with_reducible refine Calls.mono (NAm _ (C.ext HC)) ?_); rintro e wa ⟨rfl, hx⟩)
        replace HC := HC.trans hx
        try replace H5 := H5.ext hx
        clear hx
        refine onQ_in HC ?_
        refine z_stills (g := 4) [8] [_] ⟨rfl, trivial⟩ (by kernel_rfl) (by kernel_rfl) HC ?_
        simp only [List.getElem_toArray, List.getElem_cons_succ, List.getElem_cons_zero]
        apply Exists.intro
        refine ⟨fun u hu => ?_, ?_⟩
        · obtain ⟨k0, k1⟩ := (B1.ext hu).c2
          have kl := (B1.ext hu).lt
          obtain ⟨bl, d0⟩ := int_getT (D.ext hu) hlt
          repeat (first | go_big_quiet_skip | (go_big_quiet_want; go_big_quiet_op; go_big_quiet_on))
          refine wpQuiet_nil ?_
          rfl
        refine z_pures (g := 2) [9, 10] [_, _] ⟨rfl, rfl, trivial⟩ (by kernel_rfl) (by kernel_rfl) ?_
        simp only [List.getElem_toArray, List.getElem_cons_succ, List.getElem_cons_zero]
        apply Exists.intro
        refine ⟨fun u hu => ?_, ?_⟩
        · repeat (first | go_big_quiet_skip | (go_big_quiet_want; go_big_quiet_op; go_big_quiet_on))
          refine wpQuiet_nil ?_
          rfl
        refine z_end 12 rfl (by kernel_rfl) ?_
        simp only [List.getElem_toArray, List.getElem_cons_succ, List.getElem_cons_zero]
        have z0 := H5.frozen 0
        have z1 := H5.frozen 1
        have z2 := H5.frozen 2
        have z3 := H5.frozen 3
        obtain ⟨x0, x1, x2, x3⟩ := H5.c4
        have lx := H5.lt
        go_wp2
        have H6 := held4 H5 (.int .i64 d.y) (.int .i64 d.m) (.bool d.s) (.int .i64 d.d)
        replace HC := (((HC.setCell (p := ⟨b9, 0, none⟩) g5 (.int .i64 d.y)).setCell (p := ⟨b9, 1, none⟩) g5 (.int .i64 d.m)).setCell (p := ⟨b9, 2, none⟩) g5 (.bool d.s)).setCell (p := ⟨b9, 3, none⟩) g5 (.int .i64 d.d)
        clear z0 z1 z2 z3 x0 x1 x2 x3 lx H5
        generalize World.setCell _ _ _ = wq at *
        refine onQ_last ?_
        refine z_end 13 rfl (by kernel_rfl) ?_
        simp only [List.getElem_toArray, List.getElem_cons_succ, List.getElem_cons_zero]
        go_wp2
        refine onQ_last ?_
        refine z_done (by kernel_rfl) ?_
        exact cut1y_is b9 ⟨HC, H6⟩ rfl
    rintro bd v7 ⟨hx, BD⟩
    replace E := E.trans hx
    replace hE := hE.trans hx
    replace hL := own_ext hL hx
    replace hI := own_ext hI hx
    replace Z := Z.ext hx
    replace C := C.ext hx
    replace D := D.ext hx
    replace G := G.ext hx
    replace B1 := B1.ext hx
    clear hx
    obtain ⟨k0, k1⟩ := B1.c2
    have kl := B1.lt
    obtain ⟨e0, e1, e2, e3⟩ := BD.c4
    have el := BD.lt
    by_cases e0' : de = 0
    rotate_left
    · have g0 : (de == 0) = false := beq_eq_false_iff_ne.2 e0'
      have g0n : (de != 0) = true := by rw [bne, g0]; rfl
      clear e0'
      go_wp2
      exact ⟨⟨k + 1, ts, gs, la, by omega, by omega, by go_num, rfl, hL, hI, hT.skip, hE⟩, by simp [intOf]; omega⟩
    subst e0'
    have hv : c.valid = true ∧ c.at? m = some d := by
      have h := hde.out
      unfold Cal.atE at h
      cases hv : c.valid <;> rw [hv] at h
      · cases h
      · cases ha : c.at? m with
        | none => rw [ha] at h; cases h
        | some y => exact ⟨rfl, by rw [hd.out]; unfold Cal.atV; rw [hv, ha]; rfl⟩
    obtain ⟨hv, hat⟩ := hv
    have hhas := (at_has hat).1
    have hinE : c.inE d = 0 := by unfold Cal.inE; rw [hv, hhas]; rfl
    have hwV : c.wholeV d = c.wholeT d := by unfold Cal.wholeV; rw [if_pos hinE]
    have NWd := fun w hC => NW d w hC
    simp only [hinE, hwV] at NWd
    obtain ⟨t, ht⟩ : ∃ t, t = c.wholeT d := ⟨_, rfl⟩
    simp only [← ht] at NWd
    replace NWd : ∀ w, CalAt w A ca A' cb c → Calls Tryd.prog 12 #[.agg #[.slice A c.nk ca, .slice A' c.ny cb], .agg #[.int .i64 d.y, .int .i64 d.m, .bool d.s, .int .i64 d.d]] w fun e w' => e = .returned (.tuple #[.agg #[.int .i64 t.d, .bool t.more, .int .i64 t.m, .bool t.s, .string t.nm, .int .i64 t.af, .string t.kg], .int .i64 0]) ∧ Ext w w' := NWd
    have hmk := Lib.hid fun b1 b2 b3 b4 => (⟨mask_ok hv hhas b1 b2 b3 b4, mask_in hv hat b1 b2 b3 b4⟩ : ((c.wholeT d).mask b1 b2 b3 b4).ok = true ∧ inS (c.spans ((c.wholeT d).mask b1 b2 b3 b4)) m)
    rw [← ht] at hmk
    clear NW hinE hwV ht hde hd NAm hhas
    replace hv := Lib.hid hv
    replace hat := Lib.hid hat
    obtain ⟨bl, d0⟩ := int_getT D hlt
    go_upto_region 10 with (fail)
    rw [← hm.out]
    clear bl d0
    go_upto_region 11 with (go_at_call 12; (with_reducible refine Calls.mono (NWd _ C) ?_); rintro e w9 ⟨rfl, hx⟩; replace E := E.trans hx; replace hE := hE.trans hx; replace hL := own_ext hL hx; replace hI := own_ext hI hx; replace Z := Z.ext hx; replace C := C.ext hx; replace D := D.ext hx; replace G := G.ext hx; replace B1 := B1.ext hx; replace BD := BD.ext hx; clear hx; clear k0 k1 kl e0 e1 e2 e3 el; obtain ⟨k0, k1⟩ := B1.c2; have kl := B1.lt; obtain ⟨e0, e1, e2, e3⟩ := BD.c4; have el := BD.lt)
    have hbw := E.size
    have hbv := hE.size
    have hb1 := B1.lt
    have hLb := Lib.hid fun q h => (hL.lt q h).2
    have hIb := Lib.hid fun q h => (hI.lt q h).2
    obtain ⟨vb31, hv⟩ : ∃ x, x = (w9.alloc (.cells #[.int .i64 t.d, .bool t.more, .int .i64 t.m, .bool t.s, .string t.nm, .int .i64 t.af, .string t.kg] 34)) := ⟨_, rfl⟩
    rw [← hv]
    have hx : Ext w9 vb31 := by rw [hv]; exact (Ext.refl _).alloc _
    have BT : Held vb31 w9.heap.size 34 #[.int .i64 t.d, .bool t.more, .int .i64 t.m, .bool t.s, .string t.nm, .int .i64 t.af, .string t.kg] := by rw [hv]; exact Held.new _ _ _
    clear hv
    generalize w9.heap.size = bb31 at *
    clear k0 k1 kl e0 e1 e2 e3 el
    replace E := E.trans hx
    replace hE := hE.trans hx
    replace hL := own_ext hL hx
    replace hI := own_ext hI hx
    replace Z := Z.ext hx
    replace C := C.ext hx
    replace D := D.ext hx
    replace G := G.ext hx
    replace B1 := B1.ext hx
    replace BD := BD.ext hx
    clear hx
    obtain ⟨k0, k1⟩ := B1.c2
    have kl := B1.lt
    obtain ⟨e0, e1, e2, e3⟩ := BD.c4
    have el := BD.lt
    obtain ⟨a0, a1, a2, a3, a4, a5, a6⟩ := held_u7 BT
    have al := BT.lt
    have NBR := fun w => bringT_any (hh k) 16 w (by decide) (by decide)
    have hbb := bringI_bd (n := hh k) (m := 16) (by decide)
    generalize bringI (hh k) 16 = h at *
    by_cases hkh : k < nh
    rotate_left
    · clear NBR hbb
      go_upto_region 24 with (fail)
      clear k0 k1 kl e0 e1 e2 e3 el a0 a1 a2 a3 a4 a5 a6 al
      clear BD
      obtain ⟨wm, rfl⟩ : ∃ x : World, x = vb31 := ⟨_, rfl⟩
      obtain ⟨u, hu⟩ : ∃ u : Tr, u = ⟨t.d, t.more, t.m, t.s, t.nm, t.af, t.kg⟩ := ⟨_, rfl⟩
      have hmu : u.ok = true ∧ inS (c.spans u) m := by rw [hu]; exact hmk.out false false false false
      replace BT : Held wm bb31 34 #[.int .i64 u.d, .bool u.more, .int .i64 u.m, .bool u.s, .string u.nm, .int .i64 u.af, .string u.kg] := by rw [hu]; exact BT
      clear hu hmk
      obtain ⟨k0, k1⟩ := B1.c2
      have kl := B1.lt
      obtain ⟨a0, a1, a2, a3, a4, a5, a6⟩ := held_u7 BT
      have al := BT.lt
      obtain ⟨S, hS⟩ : ∃ S, S = textS u := ⟨_, rfl⟩
      have NT := fun w => textX_any u w
      simp only [hmu.1, if_true, ← hS] at NT
      have NP := fun w => parseX_any S w (by rw [hS]; exact Nat.le_trans (text_small hmu.1) (by decide))
      have hpv : parseV S = u := by rw [hS]; unfold parseV; rw [parse_text hmu.1]; rfl
      have hpe : parseE S = 0 := by rw [hS]; unfold parseE; rw [parse_text hmu.1]; rfl
      simp only [hpv, hpe] at NP
      replace NP : ∀ w, Calls Tryd.prog 15 #[.string S] w fun e w' => e = .returned (.tuple #[.agg #[.int .i64 u.d, .bool u.more, .int .i64 u.m, .bool u.s, .string u.nm, .int .i64 u.af, .string u.kg], .int .i64 0]) ∧ Ext w w' := NP
      clear hS hpv hpe
      go_upto_region 25 with (go_at_call 14; (with_reducible refine Calls.mono (NT _) ?_); rintro e w24 ⟨rfl, hx⟩; replace E := E.trans hx; replace hE := hE.trans hx; replace hL := own_ext hL hx; replace hI := own_ext hI hx; replace Z := Z.ext hx; replace C := C.ext hx; replace D := D.ext hx; replace G := G.ext hx; replace B1 := B1.ext hx; replace BT := BT.ext hx; clear hx; clear k0 k1 kl a0 a1 a2 a3 a4 a5 a6 al; obtain ⟨k0, k1⟩ := B1.c2; have kl := B1.lt; obtain ⟨a0, a1, a2, a3, a4, a5, a6⟩ := held_u7 BT; have al := BT.lt)
      go_upto_region 26 with (go_at_call 15; (with_reducible refine Calls.mono (NP _) ?_); rintro e w25 ⟨rfl, hx⟩; replace E := E.trans hx; replace hE := hE.trans hx; replace hL := own_ext hL hx; replace hI := own_ext hI hx; replace Z := Z.ext hx; replace C := C.ext hx; replace D := D.ext hx; replace G := G.ext hx; replace B1 := B1.ext hx; replace BT := BT.ext hx; clear hx; clear k0 k1 kl a0 a1 a2 a3 a4 a5 a6 al; obtain ⟨k0, k1⟩ := B1.c2; have kl := B1.lt; obtain ⟨a0, a1, a2, a3, a4, a5, a6⟩ := held_u7 BT; have al := BT.lt)
      obtain ⟨vb61, hv⟩ : ∃ x, x = (w25.alloc (.cells #[.int .i64 u.d, .bool u.more, .int .i64 u.m, .bool u.s, .string u.nm, .int .i64 u.af, .string u.kg] 34)) := ⟨_, rfl⟩
      rw [← hv]
      have hx : Ext w25 vb61 := by rw [hv]; exact (Ext.refl _).alloc _
      have BU : Held vb61 w25.heap.size 34 #[.int .i64 u.d, .bool u.more, .int .i64 u.m, .bool u.s, .string u.nm, .int .i64 u.af, .string u.kg] := by rw [hv]; exact Held.new _ _ _
      clear hv
      generalize w25.heap.size = bb61 at *
      clear k0 k1 kl a0 a1 a2 a3 a4 a5 a6 al
      replace E := E.trans hx
      replace hE := hE.trans hx
      replace hL := own_ext hL hx
      replace hI := own_ext hI hx
      replace Z := Z.ext hx
      replace C := C.ext hx
      replace D := D.ext hx
      replace G := G.ext hx
      replace B1 := B1.ext hx
      replace BT := BT.ext hx
      clear hx
      obtain ⟨k0, k1⟩ := B1.c2
      have kl := B1.lt
      obtain ⟨a0, a1, a2, a3, a4, a5, a6⟩ := held_u7 BT
      have al := BT.lt
      obtain ⟨b0, b1, b2, b3, b4, b5, b6⟩ := held_u7 BU
      have bl := BU.lt
      clear NT NP
      go_upto_region 28 with (fail)
      obtain ⟨i7, hi, hz0, hz1, hz2⟩ := info_parts info_trT
      have hlk := hT.lek
      have hgl : gs.length ≤ 20 := by have := hT.len; have := hT.lek; omega
      have hT2 := hT.snoc hmu.1 hmu.2 hmb.1 hmb.2.1
      have hbs := hE.size
      go_upto_region 29 with (at_builtin; refine wpList_append_own_at _ rfl _ _ 27 rfl v.heap.size 34 i7 (.agg #[.int .i64 0, .bool false, .int .i64 0, .bool false, .string ⟨#[]⟩, .int .i64 0, .string ⟨#[]⟩]) 7 72 Tryd.underlying27 hi hz0 hz1 hz2 rfl (by decide) _ _ _ rfl (own_ext hL ((Ext.refl _).alloc _)) ⟨_, 0, none⟩ 1 1 [.int .i64 u.d, .bool u.more, .int .i64 u.m, .bool u.s, .string u.nm, .int .i64 u.af, .string u.kg] rfl rfl (held_newsL (Held.new _ _ _)) (by simp [Value.oneCell']) (by unfold maxLen; omega) (by omega) (by simp; omega) ?_; intro p1 wn hown hgrow _ _)
      have gL := own_ext hL ((Ext.refl vb61).alloc (.cells #[.int .i64 u.d, .bool u.more, .int .i64 u.m, .bool u.s, .string u.nm, .int .i64 u.af, .string u.kg] 34))
      have gI := own_ext hI ((Ext.refl vb61).alloc (.cells #[.int .i64 u.d, .bool u.more, .int .i64 u.m, .bool u.s, .string u.nm, .int .i64 u.af, .string u.kg] 34))
      replace hE := (hE.alloc (.cells #[.int .i64 u.d, .bool u.more, .int .i64 u.m, .bool u.s, .string u.nm, .int .i64 u.af, .string u.kg] 34)).grown hgrow (fun q hq => (row_type gL q hq).1)
      replace E := (E.alloc (.cells #[.int .i64 u.d, .bool u.more, .int .i64 u.m, .bool u.s, .string u.nm, .int .i64 u.af, .string u.kg] 34)).grown hgrow (fun q hq => Nat.le_trans hwv (row_type gL q hq).1)
      replace hI := gI.kept hgrow (own_apart gL gI (by decide))
      replace hL := hown
      have hbs2 := hE.size
      clear hown hgrow gL gI hi hz0 hz1 hz2
      obtain ⟨P1, M1, rfl⟩ := own_sl hL
      obtain ⟨i8, hi, hz0, hz1, hz2⟩ := info_parts info_intT
      clear k0 k1 kl a0 a1 a2 a3 a4 a5 a6 al b0 b1 b2 b3 b4 b5 b6 bl
      go_wp2_with (at_builtin; refine wpList_append_own_at _ rfl _ _ 26 rfl v.heap.size 3 i8 (.int .i64 0) 1 8 Tryd.underlying26 hi hz0 hz1 hz2 rfl (by decide) _ _ _ rfl (own_ext hI ((Ext.refl _).alloc _)) ⟨_, 0, none⟩ 1 1 [.int .i64 m] rfl rfl (held_newsL (Held.new _ _ _)) (by simp [Value.oneCell']) (by unfold maxLen; omega) (by omega) (by simp; omega) ?_; intro p2 wn2 hown hgrow _ _)
      have gL := own_ext hL ((Ext.refl wn).alloc (.cells #[.int .i64 m] 3))
      have gI := own_ext hI ((Ext.refl wn).alloc (.cells #[.int .i64 m] 3))
      replace hE := (hE.alloc (.cells #[.int .i64 m] 3)).grown hgrow (fun q hq => (row_type gI q hq).1)
      replace hL := gL.kept hgrow (own_apart gI gL (by decide))
      exact ⟨⟨k + 1, ts ++ [u], gs ++ [m], m, by omega, by omega, by go_num, rfl, by rw [List.length_append, List.flatMap_append]; exact hL, by rw [List.length_append]; unfold intL at hown ⊢; rw [List.map_append]; exact hown, hT2, hE⟩, by simp [intOf]; omega⟩
    obtain ⟨bH, oH, rfl, _, _⟩ := id (G (by omega))
    obtain ⟨blH, h0⟩ := int_getT G hkh
    go_upto_region 16 with (go_at_call 13; (with_reducible refine Calls.mono (NBR _) ?_); rintro e w15 ⟨rfl, hx⟩; replace E := E.trans hx; replace hE := hE.trans hx; replace hL := own_ext hL hx; replace hI := own_ext hI hx; replace Z := Z.ext hx; replace C := C.ext hx; replace D := D.ext hx; replace G := G.ext hx; replace B1 := B1.ext hx; replace BD := BD.ext hx; replace BT := BT.ext hx; clear hx; clear k0 k1 kl e0 e1 e2 e3 el a0 a1 a2 a3 a4 a5 a6 al; obtain ⟨k0, k1⟩ := B1.c2; have kl := B1.lt; obtain ⟨e0, e1, e2, e3⟩ := BD.c4; have el := BD.lt; obtain ⟨a0, a1, a2, a3, a4, a5, a6⟩ := held_u7 BT; have al := BT.lt)
    clear blH h0 hbb NBR
    generalize hq1 : (bits BinOp.and IntKind.i64 h 1 == 1) = q1 at *
    generalize hq2 : (bits BinOp.and IntKind.i64 h 2 == 2) = q2 at *
    generalize hq3 : (bits BinOp.and IntKind.i64 h 4 == 4) = q3 at *
    generalize hq4 : (bits BinOp.and IntKind.i64 h 8 == 8) = q4 at *
    cases q1
    · cases q2
      · cases q3
        · cases q4
          · go_upto_region 24 with (fail)
            clear k0 k1 kl e0 e1 e2 e3 el a0 a1 a2 a3 a4 a5 a6 al
            clear BD
            obtain ⟨wm, rfl⟩ : ∃ x : World, x = w15 := ⟨_, rfl⟩
            obtain ⟨u, hu⟩ : ∃ u : Tr, u = ⟨t.d, t.more, t.m, t.s, t.nm, t.af, t.kg⟩ := ⟨_, rfl⟩
            have hmu : u.ok = true ∧ inS (c.spans u) m := by rw [hu]; exact hmk.out false false false false
            replace BT : Held wm bb31 34 #[.int .i64 u.d, .bool u.more, .int .i64 u.m, .bool u.s, .string u.nm, .int .i64 u.af, .string u.kg] := by rw [hu]; exact BT
            clear hu hmk
            obtain ⟨k0, k1⟩ := B1.c2
            have kl := B1.lt
            obtain ⟨a0, a1, a2, a3, a4, a5, a6⟩ := held_u7 BT
            have al := BT.lt
            obtain ⟨S, hS⟩ : ∃ S, S = textS u := ⟨_, rfl⟩
            have NT := fun w => textX_any u w
            simp only [hmu.1, if_true, ← hS] at NT
            have NP := fun w => parseX_any S w (by rw [hS]; exact Nat.le_trans (text_small hmu.1) (by decide))
            have hpv : parseV S = u := by rw [hS]; unfold parseV; rw [parse_text hmu.1]; rfl
            have hpe : parseE S = 0 := by rw [hS]; unfold parseE; rw [parse_text hmu.1]; rfl
            simp only [hpv, hpe] at NP
            replace NP : ∀ w, Calls Tryd.prog 15 #[.string S] w fun e w' => e = .returned (.tuple #[.agg #[.int .i64 u.d, .bool u.more, .int .i64 u.m, .bool u.s, .string u.nm, .int .i64 u.af, .string u.kg], .int .i64 0]) ∧ Ext w w' := NP
            clear hS hpv hpe
            go_upto_region 25 with (go_at_call 14; (with_reducible refine Calls.mono (NT _) ?_); rintro e w24 ⟨rfl, hx⟩; replace E := E.trans hx; replace hE := hE.trans hx; replace hL := own_ext hL hx; replace hI := own_ext hI hx; replace Z := Z.ext hx; replace C := C.ext hx; replace D := D.ext hx; replace G := G.ext hx; replace B1 := B1.ext hx; replace BT := BT.ext hx; clear hx; clear k0 k1 kl a0 a1 a2 a3 a4 a5 a6 al; obtain ⟨k0, k1⟩ := B1.c2; have kl := B1.lt; obtain ⟨a0, a1, a2, a3, a4, a5, a6⟩ := held_u7 BT; have al := BT.lt)
            go_upto_region 26 with (go_at_call 15; (with_reducible refine Calls.mono (NP _) ?_); rintro e w25 ⟨rfl, hx⟩; replace E := E.trans hx; replace hE := hE.trans hx; replace hL := own_ext hL hx; replace hI := own_ext hI hx; replace Z := Z.ext hx; replace C := C.ext hx; replace D := D.ext hx; replace G := G.ext hx; replace B1 := B1.ext hx; replace BT := BT.ext hx; clear hx; clear k0 k1 kl a0 a1 a2 a3 a4 a5 a6 al; obtain ⟨k0, k1⟩ := B1.c2; have kl := B1.lt; obtain ⟨a0, a1, a2, a3, a4, a5, a6⟩ := held_u7 BT; have al := BT.lt)
            obtain ⟨vb61, hv⟩ : ∃ x, x = (w25.alloc (.cells #[.int .i64 u.d, .bool u.more, .int .i64 u.m, .bool u.s, .string u.nm, .int .i64 u.af, .string u.kg] 34)) := ⟨_, rfl⟩
            rw [← hv]
            have hx : Ext w25 vb61 := by rw [hv]; exact (Ext.refl _).alloc _
            have BU : Held vb61 w25.heap.size 34 #[.int .i64 u.d, .bool u.more, .int .i64 u.m, .bool u.s, .string u.nm, .int .i64 u.af, .string u.kg] := by rw [hv]; exact Held.new _ _ _
            clear hv
            generalize w25.heap.size = bb61 at *
            clear k0 k1 kl a0 a1 a2 a3 a4 a5 a6 al
            replace E := E.trans hx
            replace hE := hE.trans hx
            replace hL := own_ext hL hx
            replace hI := own_ext hI hx
            replace Z := Z.ext hx
            replace C := C.ext hx
            replace D := D.ext hx
            replace G := G.ext hx
            replace B1 := B1.ext hx
            replace BT := BT.ext hx
            clear hx
            obtain ⟨k0, k1⟩ := B1.c2
            have kl := B1.lt
            obtain ⟨a0, a1, a2, a3, a4, a5, a6⟩ := held_u7 BT
            have al := BT.lt
            obtain ⟨b0, b1, b2, b3, b4, b5, b6⟩ := held_u7 BU
            have bl := BU.lt
            clear NT NP
            go_upto_region 28 with (fail)
            obtain ⟨i7, hi, hz0, hz1, hz2⟩ := info_parts info_trT
            have hlk := hT.lek
            have hgl : gs.length ≤ 20 := by have := hT.len; have := hT.lek; omega
            have hT2 := hT.snoc hmu.1 hmu.2 hmb.1 hmb.2.1
            have hbs := hE.size
            go_upto_region 29 with (at_builtin; refine wpList_append_own_at _ rfl _ _ 27 rfl v.heap.size 34 i7 (.agg #[.int .i64 0, .bool false, .int .i64 0, .bool false, .string ⟨#[]⟩, .int .i64 0, .string ⟨#[]⟩]) 7 72 Tryd.underlying27 hi hz0 hz1 hz2 rfl (by decide) _ _ _ rfl (own_ext hL ((Ext.refl _).alloc _)) ⟨_, 0, none⟩ 1 1 [.int .i64 u.d, .bool u.more, .int .i64 u.m, .bool u.s, .string u.nm, .int .i64 u.af, .string u.kg] rfl rfl (held_newsL (Held.new _ _ _)) (by simp [Value.oneCell']) (by unfold maxLen; omega) (by omega) (by simp; omega) ?_; intro p1 wn hown hgrow _ _)
            have gL := own_ext hL ((Ext.refl vb61).alloc (.cells #[.int .i64 u.d, .bool u.more, .int .i64 u.m, .bool u.s, .string u.nm, .int .i64 u.af, .string u.kg] 34))
            have gI := own_ext hI ((Ext.refl vb61).alloc (.cells #[.int .i64 u.d, .bool u.more, .int .i64 u.m, .bool u.s, .string u.nm, .int .i64 u.af, .string u.kg] 34))
            replace hE := (hE.alloc (.cells #[.int .i64 u.d, .bool u.more, .int .i64 u.m, .bool u.s, .string u.nm, .int .i64 u.af, .string u.kg] 34)).grown hgrow (fun q hq => (row_type gL q hq).1)
            replace E := (E.alloc (.cells #[.int .i64 u.d, .bool u.more, .int .i64 u.m, .bool u.s, .string u.nm, .int .i64 u.af, .string u.kg] 34)).grown hgrow (fun q hq => Nat.le_trans hwv (row_type gL q hq).1)
            replace hI := gI.kept hgrow (own_apart gL gI (by decide))
            replace hL := hown
            have hbs2 := hE.size
            clear hown hgrow gL gI hi hz0 hz1 hz2
            obtain ⟨P1, M1, rfl⟩ := own_sl hL
            obtain ⟨i8, hi, hz0, hz1, hz2⟩ := info_parts info_intT
            clear k0 k1 kl a0 a1 a2 a3 a4 a5 a6 al b0 b1 b2 b3 b4 b5 b6 bl
            go_wp2_with (at_builtin; refine wpList_append_own_at _ rfl _ _ 26 rfl v.heap.size 3 i8 (.int .i64 0) 1 8 Tryd.underlying26 hi hz0 hz1 hz2 rfl (by decide) _ _ _ rfl (own_ext hI ((Ext.refl _).alloc _)) ⟨_, 0, none⟩ 1 1 [.int .i64 m] rfl rfl (held_newsL (Held.new _ _ _)) (by simp [Value.oneCell']) (by unfold maxLen; omega) (by omega) (by simp; omega) ?_; intro p2 wn2 hown hgrow _ _)
            have gL := own_ext hL ((Ext.refl wn).alloc (.cells #[.int .i64 m] 3))
            have gI := own_ext hI ((Ext.refl wn).alloc (.cells #[.int .i64 m] 3))
            replace hE := (hE.alloc (.cells #[.int .i64 m] 3)).grown hgrow (fun q hq => (row_type gI q hq).1)
            replace hL := gL.kept hgrow (own_apart gI gL (by decide))
            exact ⟨⟨k + 1, ts ++ [u], gs ++ [m], m, by omega, by omega, by go_num, rfl, by rw [List.length_append, List.flatMap_append]; exact hL, by rw [List.length_append]; unfold intL at hown ⊢; rw [List.map_append]; exact hown, hT2, hE⟩, by simp [intOf]; omega⟩
          · have z6 := BT.frozen 6
            go_upto_region 24 with (fail)
            replace BT := held7_6 BT (.string ⟨#[]⟩)
            replace E := E.setCell (p := ⟨bb31, 6, none⟩) hbw (.string ⟨#[]⟩)
            replace hE := hE.setCell (p := ⟨bb31, 6, none⟩) hbv (.string ⟨#[]⟩)
            replace hL := hL.kept (grown_at w15 bb31 6 (.string ⟨#[]⟩)) (.inr fun hq => Nat.lt_irrefl _ (hLb.out _ hq))
            replace hI := hI.kept (grown_at w15 bb31 6 (.string ⟨#[]⟩)) (.inr fun hq => Nat.lt_irrefl _ (hIb.out _ hq))
            replace C := C0.ext hE
            replace Z := Z0.ext hE
            replace D := D0.ext hE
            replace G := G0.ext hE
            replace B1 := B10.ext hE
            clear k0 k1 kl e0 e1 e2 e3 el a0 a1 a2 a3 a4 a5 a6 al
            clear z6
            clear BD
            generalize World.setCell _ _ _ = wm at *
            obtain ⟨u, hu⟩ : ∃ u : Tr, u = ⟨t.d, t.more, t.m, t.s, t.nm, t.af, ⟨#[]⟩⟩ := ⟨_, rfl⟩
            have hmu : u.ok = true ∧ inS (c.spans u) m := by rw [hu]; exact hmk.out false false false true
            replace BT : Held wm bb31 34 #[.int .i64 u.d, .bool u.more, .int .i64 u.m, .bool u.s, .string u.nm, .int .i64 u.af, .string u.kg] := by rw [hu]; exact BT
            clear hu hmk
            obtain ⟨k0, k1⟩ := B1.c2
            have kl := B1.lt
            obtain ⟨a0, a1, a2, a3, a4, a5, a6⟩ := held_u7 BT
            have al := BT.lt
            obtain ⟨S, hS⟩ : ∃ S, S = textS u := ⟨_, rfl⟩
            have NT := fun w => textX_any u w
            simp only [hmu.1, if_true, ← hS] at NT
            have NP := fun w => parseX_any S w (by rw [hS]; exact Nat.le_trans (text_small hmu.1) (by decide))
            have hpv : parseV S = u := by rw [hS]; unfold parseV; rw [parse_text hmu.1]; rfl
            have hpe : parseE S = 0 := by rw [hS]; unfold parseE; rw [parse_text hmu.1]; rfl
            simp only [hpv, hpe] at NP
            replace NP : ∀ w, Calls Tryd.prog 15 #[.string S] w fun e w' => e = .returned (.tuple #[.agg #[.int .i64 u.d, .bool u.more, .int .i64 u.m, .bool u.s, .string u.nm, .int .i64 u.af, .string u.kg], .int .i64 0]) ∧ Ext w w' := NP
            clear hS hpv hpe
            go_upto_region 25 with (go_at_call 14; (with_reducible refine Calls.mono (NT _) ?_); rintro e w24 ⟨rfl, hx⟩; replace E := E.trans hx; replace hE := hE.trans hx; replace hL := own_ext hL hx; replace hI := own_ext hI hx; replace Z := Z.ext hx; replace C := C.ext hx; replace D := D.ext hx; replace G := G.ext hx; replace B1 := B1.ext hx; replace BT := BT.ext hx; clear hx; clear k0 k1 kl a0 a1 a2 a3 a4 a5 a6 al; obtain ⟨k0, k1⟩ := B1.c2; have kl := B1.lt; obtain ⟨a0, a1, a2, a3, a4, a5, a6⟩ := held_u7 BT; have al := BT.lt)
            go_upto_region 26 with (go_at_call 15; (with_reducible refine Calls.mono (NP _) ?_); rintro e w25 ⟨rfl, hx⟩; replace E := E.trans hx; replace hE := hE.trans hx; replace hL := own_ext hL hx; replace hI := own_ext hI hx; replace Z := Z.ext hx; replace C := C.ext hx; replace D := D.ext hx; replace G := G.ext hx; replace B1 := B1.ext hx; replace BT := BT.ext hx; clear hx; clear k0 k1 kl a0 a1 a2 a3 a4 a5 a6 al; obtain ⟨k0, k1⟩ := B1.c2; have kl := B1.lt; obtain ⟨a0, a1, a2, a3, a4, a5, a6⟩ := held_u7 BT; have al := BT.lt)
            obtain ⟨vb61, hv⟩ : ∃ x, x = (w25.alloc (.cells #[.int .i64 u.d, .bool u.more, .int .i64 u.m, .bool u.s, .string u.nm, .int .i64 u.af, .string u.kg] 34)) := ⟨_, rfl⟩
            rw [← hv]
            have hx : Ext w25 vb61 := by rw [hv]; exact (Ext.refl _).alloc _
            have BU : Held vb61 w25.heap.size 34 #[.int .i64 u.d, .bool u.more, .int .i64 u.m, .bool u.s, .string u.nm, .int .i64 u.af, .string u.kg] := by rw [hv]; exact Held.new _ _ _
            clear hv
            generalize w25.heap.size = bb61 at *
            clear k0 k1 kl a0 a1 a2 a3 a4 a5 a6 al
            replace E := E.trans hx
            replace hE := hE.trans hx
            replace hL := own_ext hL hx
            replace hI := own_ext hI hx
            replace Z := Z.ext hx
            replace C := C.ext hx
            replace D := D.ext hx
            replace G := G.ext hx
            replace B1 := B1.ext hx
            replace BT := BT.ext hx
            clear hx
            obtain ⟨k0, k1⟩ := B1.c2
            have kl := B1.lt
            obtain ⟨a0, a1, a2, a3, a4, a5, a6⟩ := held_u7 BT
            have al := BT.lt
            obtain ⟨b0, b1, b2, b3, b4, b5, b6⟩ := held_u7 BU
            have bl := BU.lt
            clear NT NP
            go_upto_region 28 with (fail)
            obtain ⟨i7, hi, hz0, hz1, hz2⟩ := info_parts info_trT
            have hlk := hT.lek
            have hgl : gs.length ≤ 20 := by have := hT.len; have := hT.lek; omega
            have hT2 := hT.snoc hmu.1 hmu.2 hmb.1 hmb.2.1
            have hbs := hE.size
            go_upto_region 29 with (at_builtin; refine wpList_append_own_at _ rfl _ _ 27 rfl v.heap.size 34 i7 (.agg #[.int .i64 0, .bool false, .int .i64 0, .bool false, .string ⟨#[]⟩, .int .i64 0, .string ⟨#[]⟩]) 7 72 Tryd.underlying27 hi hz0 hz1 hz2 rfl (by decide) _ _ _ rfl (own_ext hL ((Ext.refl _).alloc _)) ⟨_, 0, none⟩ 1 1 [.int .i64 u.d, .bool u.more, .int .i64 u.m, .bool u.s, .string u.nm, .int .i64 u.af, .string u.kg] rfl rfl (held_newsL (Held.new _ _ _)) (by simp [Value.oneCell']) (by unfold maxLen; omega) (by omega) (by simp; omega) ?_; intro p1 wn hown hgrow _ _)
            have gL := own_ext hL ((Ext.refl vb61).alloc (.cells #[.int .i64 u.d, .bool u.more, .int .i64 u.m, .bool u.s, .string u.nm, .int .i64 u.af, .string u.kg] 34))
            have gI := own_ext hI ((Ext.refl vb61).alloc (.cells #[.int .i64 u.d, .bool u.more, .int .i64 u.m, .bool u.s, .string u.nm, .int .i64 u.af, .string u.kg] 34))
            replace hE := (hE.alloc (.cells #[.int .i64 u.d, .bool u.more, .int .i64 u.m, .bool u.s, .string u.nm, .int .i64 u.af, .string u.kg] 34)).grown hgrow (fun q hq => (row_type gL q hq).1)
            replace E := (E.alloc (.cells #[.int .i64 u.d, .bool u.more, .int .i64 u.m, .bool u.s, .string u.nm, .int .i64 u.af, .string u.kg] 34)).grown hgrow (fun q hq => Nat.le_trans hwv (row_type gL q hq).1)
            replace hI := gI.kept hgrow (own_apart gL gI (by decide))
            replace hL := hown
            have hbs2 := hE.size
            clear hown hgrow gL gI hi hz0 hz1 hz2
            obtain ⟨P1, M1, rfl⟩ := own_sl hL
            obtain ⟨i8, hi, hz0, hz1, hz2⟩ := info_parts info_intT
            clear k0 k1 kl a0 a1 a2 a3 a4 a5 a6 al b0 b1 b2 b3 b4 b5 b6 bl
            go_wp2_with (at_builtin; refine wpList_append_own_at _ rfl _ _ 26 rfl v.heap.size 3 i8 (.int .i64 0) 1 8 Tryd.underlying26 hi hz0 hz1 hz2 rfl (by decide) _ _ _ rfl (own_ext hI ((Ext.refl _).alloc _)) ⟨_, 0, none⟩ 1 1 [.int .i64 m] rfl rfl (held_newsL (Held.new _ _ _)) (by simp [Value.oneCell']) (by unfold maxLen; omega) (by omega) (by simp; omega) ?_; intro p2 wn2 hown hgrow _ _)
            have gL := own_ext hL ((Ext.refl wn).alloc (.cells #[.int .i64 m] 3))
            have gI := own_ext hI ((Ext.refl wn).alloc (.cells #[.int .i64 m] 3))
            replace hE := (hE.alloc (.cells #[.int .i64 m] 3)).grown hgrow (fun q hq => (row_type gI q hq).1)
            replace hL := gL.kept hgrow (own_apart gI gL (by decide))
            exact ⟨⟨k + 1, ts ++ [u], gs ++ [m], m, by omega, by omega, by go_num, rfl, by rw [List.length_append, List.flatMap_append]; exact hL, by rw [List.length_append]; unfold intL at hown ⊢; rw [List.map_append]; exact hown, hT2, hE⟩, by simp [intOf]; omega⟩
        · cases q4
          · have z4 := BT.frozen 4
            go_upto_region 24 with (fail)
            replace BT := held7_4 BT (.string ⟨#[]⟩)
            replace E := E.setCell (p := ⟨bb31, 4, none⟩) hbw (.string ⟨#[]⟩)
            replace hE := hE.setCell (p := ⟨bb31, 4, none⟩) hbv (.string ⟨#[]⟩)
            replace hL := hL.kept (grown_at w15 bb31 4 (.string ⟨#[]⟩)) (.inr fun hq => Nat.lt_irrefl _ (hLb.out _ hq))
            replace hI := hI.kept (grown_at w15 bb31 4 (.string ⟨#[]⟩)) (.inr fun hq => Nat.lt_irrefl _ (hIb.out _ hq))
            replace C := C0.ext hE
            replace Z := Z0.ext hE
            replace D := D0.ext hE
            replace G := G0.ext hE
            replace B1 := B10.ext hE
            clear k0 k1 kl e0 e1 e2 e3 el a0 a1 a2 a3 a4 a5 a6 al
            clear z4
            clear BD
            generalize World.setCell _ _ _ = wm at *
            obtain ⟨u, hu⟩ : ∃ u : Tr, u = ⟨t.d, t.more, t.m, t.s, ⟨#[]⟩, t.af, t.kg⟩ := ⟨_, rfl⟩
            have hmu : u.ok = true ∧ inS (c.spans u) m := by rw [hu]; exact hmk.out false false true false
            replace BT : Held wm bb31 34 #[.int .i64 u.d, .bool u.more, .int .i64 u.m, .bool u.s, .string u.nm, .int .i64 u.af, .string u.kg] := by rw [hu]; exact BT
            clear hu hmk
            obtain ⟨k0, k1⟩ := B1.c2
            have kl := B1.lt
            obtain ⟨a0, a1, a2, a3, a4, a5, a6⟩ := held_u7 BT
            have al := BT.lt
            obtain ⟨S, hS⟩ : ∃ S, S = textS u := ⟨_, rfl⟩
            have NT := fun w => textX_any u w
            simp only [hmu.1, if_true, ← hS] at NT
            have NP := fun w => parseX_any S w (by rw [hS]; exact Nat.le_trans (text_small hmu.1) (by decide))
            have hpv : parseV S = u := by rw [hS]; unfold parseV; rw [parse_text hmu.1]; rfl
            have hpe : parseE S = 0 := by rw [hS]; unfold parseE; rw [parse_text hmu.1]; rfl
            simp only [hpv, hpe] at NP
            replace NP : ∀ w, Calls Tryd.prog 15 #[.string S] w fun e w' => e = .returned (.tuple #[.agg #[.int .i64 u.d, .bool u.more, .int .i64 u.m, .bool u.s, .string u.nm, .int .i64 u.af, .string u.kg], .int .i64 0]) ∧ Ext w w' := NP
            clear hS hpv hpe
            go_upto_region 25 with (go_at_call 14; (with_reducible refine Calls.mono (NT _) ?_); rintro e w24 ⟨rfl, hx⟩; replace E := E.trans hx; replace hE := hE.trans hx; replace hL := own_ext hL hx; replace hI := own_ext hI hx; replace Z := Z.ext hx; replace C := C.ext hx; replace D := D.ext hx; replace G := G.ext hx; replace B1 := B1.ext hx; replace BT := BT.ext hx; clear hx; clear k0 k1 kl a0 a1 a2 a3 a4 a5 a6 al; obtain ⟨k0, k1⟩ := B1.c2; have kl := B1.lt; obtain ⟨a0, a1, a2, a3, a4, a5, a6⟩ := held_u7 BT; have al := BT.lt)
            go_upto_region 26 with (go_at_call 15; (with_reducible refine Calls.mono (NP _) ?_); rintro e w25 ⟨rfl, hx⟩; replace E := E.trans hx; replace hE := hE.trans hx; replace hL := own_ext hL hx; replace hI := own_ext hI hx; replace Z := Z.ext hx; replace C := C.ext hx; replace D := D.ext hx; replace G := G.ext hx; replace B1 := B1.ext hx; replace BT := BT.ext hx; clear hx; clear k0 k1 kl a0 a1 a2 a3 a4 a5 a6 al; obtain ⟨k0, k1⟩ := B1.c2; have kl := B1.lt; obtain ⟨a0, a1, a2, a3, a4, a5, a6⟩ := held_u7 BT; have al := BT.lt)
            obtain ⟨vb61, hv⟩ : ∃ x, x = (w25.alloc (.cells #[.int .i64 u.d, .bool u.more, .int .i64 u.m, .bool u.s, .string u.nm, .int .i64 u.af, .string u.kg] 34)) := ⟨_, rfl⟩
            rw [← hv]
            have hx : Ext w25 vb61 := by rw [hv]; exact (Ext.refl _).alloc _
            have BU : Held vb61 w25.heap.size 34 #[.int .i64 u.d, .bool u.more, .int .i64 u.m, .bool u.s, .string u.nm, .int .i64 u.af, .string u.kg] := by rw [hv]; exact Held.new _ _ _
            clear hv
            generalize w25.heap.size = bb61 at *
            clear k0 k1 kl a0 a1 a2 a3 a4 a5 a6 al
            replace E := E.trans hx
            replace hE := hE.trans hx
            replace hL := own_ext hL hx
            replace hI := own_ext hI hx
            replace Z := Z.ext hx
            replace C := C.ext hx
            replace D := D.ext hx
            replace G := G.ext hx
            replace B1 := B1.ext hx
            replace BT := BT.ext hx
            clear hx
            obtain ⟨k0, k1⟩ := B1.c2
            have kl := B1.lt
            obtain ⟨a0, a1, a2, a3, a4, a5, a6⟩ := held_u7 BT
            have al := BT.lt
            obtain ⟨b0, b1, b2, b3, b4, b5, b6⟩ := held_u7 BU
            have bl := BU.lt
            clear NT NP
            go_upto_region 28 with (fail)
            obtain ⟨i7, hi, hz0, hz1, hz2⟩ := info_parts info_trT
            have hlk := hT.lek
            have hgl : gs.length ≤ 20 := by have := hT.len; have := hT.lek; omega
            have hT2 := hT.snoc hmu.1 hmu.2 hmb.1 hmb.2.1
            have hbs := hE.size
            go_upto_region 29 with (at_builtin; refine wpList_append_own_at _ rfl _ _ 27 rfl v.heap.size 34 i7 (.agg #[.int .i64 0, .bool false, .int .i64 0, .bool false, .string ⟨#[]⟩, .int .i64 0, .string ⟨#[]⟩]) 7 72 Tryd.underlying27 hi hz0 hz1 hz2 rfl (by decide) _ _ _ rfl (own_ext hL ((Ext.refl _).alloc _)) ⟨_, 0, none⟩ 1 1 [.int .i64 u.d, .bool u.more, .int .i64 u.m, .bool u.s, .string u.nm, .int .i64 u.af, .string u.kg] rfl rfl (held_newsL (Held.new _ _ _)) (by simp [Value.oneCell']) (by unfold maxLen; omega) (by omega) (by simp; omega) ?_; intro p1 wn hown hgrow _ _)
            have gL := own_ext hL ((Ext.refl vb61).alloc (.cells #[.int .i64 u.d, .bool u.more, .int .i64 u.m, .bool u.s, .string u.nm, .int .i64 u.af, .string u.kg] 34))
            have gI := own_ext hI ((Ext.refl vb61).alloc (.cells #[.int .i64 u.d, .bool u.more, .int .i64 u.m, .bool u.s, .string u.nm, .int .i64 u.af, .string u.kg] 34))
            replace hE := (hE.alloc (.cells #[.int .i64 u.d, .bool u.more, .int .i64 u.m, .bool u.s, .string u.nm, .int .i64 u.af, .string u.kg] 34)).grown hgrow (fun q hq => (row_type gL q hq).1)
            replace E := (E.alloc (.cells #[.int .i64 u.d, .bool u.more, .int .i64 u.m, .bool u.s, .string u.nm, .int .i64 u.af, .string u.kg] 34)).grown hgrow (fun q hq => Nat.le_trans hwv (row_type gL q hq).1)
            replace hI := gI.kept hgrow (own_apart gL gI (by decide))
            replace hL := hown
            have hbs2 := hE.size
            clear hown hgrow gL gI hi hz0 hz1 hz2
            obtain ⟨P1, M1, rfl⟩ := own_sl hL
            obtain ⟨i8, hi, hz0, hz1, hz2⟩ := info_parts info_intT
            clear k0 k1 kl a0 a1 a2 a3 a4 a5 a6 al b0 b1 b2 b3 b4 b5 b6 bl
            go_wp2_with (at_builtin; refine wpList_append_own_at _ rfl _ _ 26 rfl v.heap.size 3 i8 (.int .i64 0) 1 8 Tryd.underlying26 hi hz0 hz1 hz2 rfl (by decide) _ _ _ rfl (own_ext hI ((Ext.refl _).alloc _)) ⟨_, 0, none⟩ 1 1 [.int .i64 m] rfl rfl (held_newsL (Held.new _ _ _)) (by simp [Value.oneCell']) (by unfold maxLen; omega) (by omega) (by simp; omega) ?_; intro p2 wn2 hown hgrow _ _)
            have gL := own_ext hL ((Ext.refl wn).alloc (.cells #[.int .i64 m] 3))
            have gI := own_ext hI ((Ext.refl wn).alloc (.cells #[.int .i64 m] 3))
            replace hE := (hE.alloc (.cells #[.int .i64 m] 3)).grown hgrow (fun q hq => (row_type gI q hq).1)
            replace hL := gL.kept hgrow (own_apart gI gL (by decide))
            exact ⟨⟨k + 1, ts ++ [u], gs ++ [m], m, by omega, by omega, by go_num, rfl, by rw [List.length_append, List.flatMap_append]; exact hL, by rw [List.length_append]; unfold intL at hown ⊢; rw [List.map_append]; exact hown, hT2, hE⟩, by simp [intOf]; omega⟩
          · have z4 := BT.frozen 4
            have z6 := BT.frozen 6
            go_upto_region 24 with (fail)
            replace BT := held7_4 BT (.string ⟨#[]⟩)
            replace E := E.setCell (p := ⟨bb31, 4, none⟩) hbw (.string ⟨#[]⟩)
            replace hE := hE.setCell (p := ⟨bb31, 4, none⟩) hbv (.string ⟨#[]⟩)
            replace hL := hL.kept (grown_at w15 bb31 4 (.string ⟨#[]⟩)) (.inr fun hq => Nat.lt_irrefl _ (hLb.out _ hq))
            replace hI := hI.kept (grown_at w15 bb31 4 (.string ⟨#[]⟩)) (.inr fun hq => Nat.lt_irrefl _ (hIb.out _ hq))
            replace BT := held7_6 BT (.string ⟨#[]⟩)
            replace E := E.setCell (p := ⟨bb31, 6, none⟩) hbw (.string ⟨#[]⟩)
            replace hE := hE.setCell (p := ⟨bb31, 6, none⟩) hbv (.string ⟨#[]⟩)
            replace hL := hL.kept (grown_at (World.setCell w15 ⟨bb31, 4, none⟩ (.string ⟨#[]⟩)) bb31 6 (.string ⟨#[]⟩)) (.inr fun hq => Nat.lt_irrefl _ (hLb.out _ hq))
            replace hI := hI.kept (grown_at (World.setCell w15 ⟨bb31, 4, none⟩ (.string ⟨#[]⟩)) bb31 6 (.string ⟨#[]⟩)) (.inr fun hq => Nat.lt_irrefl _ (hIb.out _ hq))
            replace C := C0.ext hE
            replace Z := Z0.ext hE
            replace D := D0.ext hE
            replace G := G0.ext hE
            replace B1 := B10.ext hE
            clear k0 k1 kl e0 e1 e2 e3 el a0 a1 a2 a3 a4 a5 a6 al
            clear z4 z6
            clear BD
            generalize World.setCell _ _ _ = wm at *
            obtain ⟨u, hu⟩ : ∃ u : Tr, u = ⟨t.d, t.more, t.m, t.s, ⟨#[]⟩, t.af, ⟨#[]⟩⟩ := ⟨_, rfl⟩
            have hmu : u.ok = true ∧ inS (c.spans u) m := by rw [hu]; exact hmk.out false false true true
            replace BT : Held wm bb31 34 #[.int .i64 u.d, .bool u.more, .int .i64 u.m, .bool u.s, .string u.nm, .int .i64 u.af, .string u.kg] := by rw [hu]; exact BT
            clear hu hmk
            obtain ⟨k0, k1⟩ := B1.c2
            have kl := B1.lt
            obtain ⟨a0, a1, a2, a3, a4, a5, a6⟩ := held_u7 BT
            have al := BT.lt
            obtain ⟨S, hS⟩ : ∃ S, S = textS u := ⟨_, rfl⟩
            have NT := fun w => textX_any u w
            simp only [hmu.1, if_true, ← hS] at NT
            have NP := fun w => parseX_any S w (by rw [hS]; exact Nat.le_trans (text_small hmu.1) (by decide))
            have hpv : parseV S = u := by rw [hS]; unfold parseV; rw [parse_text hmu.1]; rfl
            have hpe : parseE S = 0 := by rw [hS]; unfold parseE; rw [parse_text hmu.1]; rfl
            simp only [hpv, hpe] at NP
            replace NP : ∀ w, Calls Tryd.prog 15 #[.string S] w fun e w' => e = .returned (.tuple #[.agg #[.int .i64 u.d, .bool u.more, .int .i64 u.m, .bool u.s, .string u.nm, .int .i64 u.af, .string u.kg], .int .i64 0]) ∧ Ext w w' := NP
            clear hS hpv hpe
            go_upto_region 25 with (go_at_call 14; (with_reducible refine Calls.mono (NT _) ?_); rintro e w24 ⟨rfl, hx⟩; replace E := E.trans hx; replace hE := hE.trans hx; replace hL := own_ext hL hx; replace hI := own_ext hI hx; replace Z := Z.ext hx; replace C := C.ext hx; replace D := D.ext hx; replace G := G.ext hx; replace B1 := B1.ext hx; replace BT := BT.ext hx; clear hx; clear k0 k1 kl a0 a1 a2 a3 a4 a5 a6 al; obtain ⟨k0, k1⟩ := B1.c2; have kl := B1.lt; obtain ⟨a0, a1, a2, a3, a4, a5, a6⟩ := held_u7 BT; have al := BT.lt)
            go_upto_region 26 with (go_at_call 15; (with_reducible refine Calls.mono (NP _) ?_); rintro e w25 ⟨rfl, hx⟩; replace E := E.trans hx; replace hE := hE.trans hx; replace hL := own_ext hL hx; replace hI := own_ext hI hx; replace Z := Z.ext hx; replace C := C.ext hx; replace D := D.ext hx; replace G := G.ext hx; replace B1 := B1.ext hx; replace BT := BT.ext hx; clear hx; clear k0 k1 kl a0 a1 a2 a3 a4 a5 a6 al; obtain ⟨k0, k1⟩ := B1.c2; have kl := B1.lt; obtain ⟨a0, a1, a2, a3, a4, a5, a6⟩ := held_u7 BT; have al := BT.lt)
            obtain ⟨vb61, hv⟩ : ∃ x, x = (w25.alloc (.cells #[.int .i64 u.d, .bool u.more, .int .i64 u.m, .bool u.s, .string u.nm, .int .i64 u.af, .string u.kg] 34)) := ⟨_, rfl⟩
            rw [← hv]
            have hx : Ext w25 vb61 := by rw [hv]; exact (Ext.refl _).alloc _
            have BU : Held vb61 w25.heap.size 34 #[.int .i64 u.d, .bool u.more, .int .i64 u.m, .bool u.s, .string u.nm, .int .i64 u.af, .string u.kg] := by rw [hv]; exact Held.new _ _ _
            clear hv
            generalize w25.heap.size = bb61 at *
            clear k0 k1 kl a0 a1 a2 a3 a4 a5 a6 al
            replace E := E.trans hx
            replace hE := hE.trans hx
            replace hL := own_ext hL hx
            replace hI := own_ext hI hx
            replace Z := Z.ext hx
            replace C := C.ext hx
            replace D := D.ext hx
            replace G := G.ext hx
            replace B1 := B1.ext hx
            replace BT := BT.ext hx
            clear hx
            obtain ⟨k0, k1⟩ := B1.c2
            have kl := B1.lt
            obtain ⟨a0, a1, a2, a3, a4, a5, a6⟩ := held_u7 BT
            have al := BT.lt
            obtain ⟨b0, b1, b2, b3, b4, b5, b6⟩ := held_u7 BU
            have bl := BU.lt
            clear NT NP
            go_upto_region 28 with (fail)
            obtain ⟨i7, hi, hz0, hz1, hz2⟩ := info_parts info_trT
            have hlk := hT.lek
            have hgl : gs.length ≤ 20 := by have := hT.len; have := hT.lek; omega
            have hT2 := hT.snoc hmu.1 hmu.2 hmb.1 hmb.2.1
            have hbs := hE.size
            go_upto_region 29 with (at_builtin; refine wpList_append_own_at _ rfl _ _ 27 rfl v.heap.size 34 i7 (.agg #[.int .i64 0, .bool false, .int .i64 0, .bool false, .string ⟨#[]⟩, .int .i64 0, .string ⟨#[]⟩]) 7 72 Tryd.underlying27 hi hz0 hz1 hz2 rfl (by decide) _ _ _ rfl (own_ext hL ((Ext.refl _).alloc _)) ⟨_, 0, none⟩ 1 1 [.int .i64 u.d, .bool u.more, .int .i64 u.m, .bool u.s, .string u.nm, .int .i64 u.af, .string u.kg] rfl rfl (held_newsL (Held.new _ _ _)) (by simp [Value.oneCell']) (by unfold maxLen; omega) (by omega) (by simp; omega) ?_; intro p1 wn hown hgrow _ _)
            have gL := own_ext hL ((Ext.refl vb61).alloc (.cells #[.int .i64 u.d, .bool u.more, .int .i64 u.m, .bool u.s, .string u.nm, .int .i64 u.af, .string u.kg] 34))
            have gI := own_ext hI ((Ext.refl vb61).alloc (.cells #[.int .i64 u.d, .bool u.more, .int .i64 u.m, .bool u.s, .string u.nm, .int .i64 u.af, .string u.kg] 34))
            replace hE := (hE.alloc (.cells #[.int .i64 u.d, .bool u.more, .int .i64 u.m, .bool u.s, .string u.nm, .int .i64 u.af, .string u.kg] 34)).grown hgrow (fun q hq => (row_type gL q hq).1)
            replace E := (E.alloc (.cells #[.int .i64 u.d, .bool u.more, .int .i64 u.m, .bool u.s, .string u.nm, .int .i64 u.af, .string u.kg] 34)).grown hgrow (fun q hq => Nat.le_trans hwv (row_type gL q hq).1)
            replace hI := gI.kept hgrow (own_apart gL gI (by decide))
            replace hL := hown
            have hbs2 := hE.size
            clear hown hgrow gL gI hi hz0 hz1 hz2
            obtain ⟨P1, M1, rfl⟩ := own_sl hL
            obtain ⟨i8, hi, hz0, hz1, hz2⟩ := info_parts info_intT
            clear k0 k1 kl a0 a1 a2 a3 a4 a5 a6 al b0 b1 b2 b3 b4 b5 b6 bl
            go_wp2_with (at_builtin; refine wpList_append_own_at _ rfl _ _ 26 rfl v.heap.size 3 i8 (.int .i64 0) 1 8 Tryd.underlying26 hi hz0 hz1 hz2 rfl (by decide) _ _ _ rfl (own_ext hI ((Ext.refl _).alloc _)) ⟨_, 0, none⟩ 1 1 [.int .i64 m] rfl rfl (held_newsL (Held.new _ _ _)) (by simp [Value.oneCell']) (by unfold maxLen; omega) (by omega) (by simp; omega) ?_; intro p2 wn2 hown hgrow _ _)
            have gL := own_ext hL ((Ext.refl wn).alloc (.cells #[.int .i64 m] 3))
            have gI := own_ext hI ((Ext.refl wn).alloc (.cells #[.int .i64 m] 3))
            replace hE := (hE.alloc (.cells #[.int .i64 m] 3)).grown hgrow (fun q hq => (row_type gI q hq).1)
            replace hL := gL.kept hgrow (own_apart gI gL (by decide))
            exact ⟨⟨k + 1, ts ++ [u], gs ++ [m], m, by omega, by omega, by go_num, rfl, by rw [List.length_append, List.flatMap_append]; exact hL, by rw [List.length_append]; unfold intL at hown ⊢; rw [List.map_append]; exact hown, hT2, hE⟩, by simp [intOf]; omega⟩
      · cases q3
        · cases q4
          · have z2 := BT.frozen 2
            have z3 := BT.frozen 3
            go_upto_region 24 with (fail)
            replace BT := held7_2 BT (.int .i64 0)
            replace E := E.setCell (p := ⟨bb31, 2, none⟩) hbw (.int .i64 0)
            replace hE := hE.setCell (p := ⟨bb31, 2, none⟩) hbv (.int .i64 0)
            replace hL := hL.kept (grown_at w15 bb31 2 (.int .i64 0)) (.inr fun hq => Nat.lt_irrefl _ (hLb.out _ hq))
            replace hI := hI.kept (grown_at w15 bb31 2 (.int .i64 0)) (.inr fun hq => Nat.lt_irrefl _ (hIb.out _ hq))
            replace BT := held7_3 BT (.bool false)
            replace E := E.setCell (p := ⟨bb31, 3, none⟩) hbw (.bool false)
            replace hE := hE.setCell (p := ⟨bb31, 3, none⟩) hbv (.bool false)
            replace hL := hL.kept (grown_at (World.setCell w15 ⟨bb31, 2, none⟩ (.int .i64 0)) bb31 3 (.bool false)) (.inr fun hq => Nat.lt_irrefl _ (hLb.out _ hq))
            replace hI := hI.kept (grown_at (World.setCell w15 ⟨bb31, 2, none⟩ (.int .i64 0)) bb31 3 (.bool false)) (.inr fun hq => Nat.lt_irrefl _ (hIb.out _ hq))
            replace C := C0.ext hE
            replace Z := Z0.ext hE
            replace D := D0.ext hE
            replace G := G0.ext hE
            replace B1 := B10.ext hE
            clear k0 k1 kl e0 e1 e2 e3 el a0 a1 a2 a3 a4 a5 a6 al
            clear z2 z3
            clear BD
            generalize World.setCell _ _ _ = wm at *
            obtain ⟨u, hu⟩ : ∃ u : Tr, u = ⟨t.d, t.more, 0, false, t.nm, t.af, t.kg⟩ := ⟨_, rfl⟩
            have hmu : u.ok = true ∧ inS (c.spans u) m := by rw [hu]; exact hmk.out false true false false
            replace BT : Held wm bb31 34 #[.int .i64 u.d, .bool u.more, .int .i64 u.m, .bool u.s, .string u.nm, .int .i64 u.af, .string u.kg] := by rw [hu]; exact BT
            clear hu hmk
            obtain ⟨k0, k1⟩ := B1.c2
            have kl := B1.lt
            obtain ⟨a0, a1, a2, a3, a4, a5, a6⟩ := held_u7 BT
            have al := BT.lt
            obtain ⟨S, hS⟩ : ∃ S, S = textS u := ⟨_, rfl⟩
            have NT := fun w => textX_any u w
            simp only [hmu.1, if_true, ← hS] at NT
            have NP := fun w => parseX_any S w (by rw [hS]; exact Nat.le_trans (text_small hmu.1) (by decide))
            have hpv : parseV S = u := by rw [hS]; unfold parseV; rw [parse_text hmu.1]; rfl
            have hpe : parseE S = 0 := by rw [hS]; unfold parseE; rw [parse_text hmu.1]; rfl
            simp only [hpv, hpe] at NP
            replace NP : ∀ w, Calls Tryd.prog 15 #[.string S] w fun e w' => e = .returned (.tuple #[.agg #[.int .i64 u.d, .bool u.more, .int .i64 u.m, .bool u.s, .string u.nm, .int .i64 u.af, .string u.kg], .int .i64 0]) ∧ Ext w w' := NP
            clear hS hpv hpe
            go_upto_region 25 with (go_at_call 14; (with_reducible refine Calls.mono (NT _) ?_); rintro e w24 ⟨rfl, hx⟩; replace E := E.trans hx; replace hE := hE.trans hx; replace hL := own_ext hL hx; replace hI := own_ext hI hx; replace Z := Z.ext hx; replace C := C.ext hx; replace D := D.ext hx; replace G := G.ext hx; replace B1 := B1.ext hx; replace BT := BT.ext hx; clear hx; clear k0 k1 kl a0 a1 a2 a3 a4 a5 a6 al; obtain ⟨k0, k1⟩ := B1.c2; have kl := B1.lt; obtain ⟨a0, a1, a2, a3, a4, a5, a6⟩ := held_u7 BT; have al := BT.lt)
            go_upto_region 26 with (go_at_call 15; (with_reducible refine Calls.mono (NP _) ?_); rintro e w25 ⟨rfl, hx⟩; replace E := E.trans hx; replace hE := hE.trans hx; replace hL := own_ext hL hx; replace hI := own_ext hI hx; replace Z := Z.ext hx; replace C := C.ext hx; replace D := D.ext hx; replace G := G.ext hx; replace B1 := B1.ext hx; replace BT := BT.ext hx; clear hx; clear k0 k1 kl a0 a1 a2 a3 a4 a5 a6 al; obtain ⟨k0, k1⟩ := B1.c2; have kl := B1.lt; obtain ⟨a0, a1, a2, a3, a4, a5, a6⟩ := held_u7 BT; have al := BT.lt)
            obtain ⟨vb61, hv⟩ : ∃ x, x = (w25.alloc (.cells #[.int .i64 u.d, .bool u.more, .int .i64 u.m, .bool u.s, .string u.nm, .int .i64 u.af, .string u.kg] 34)) := ⟨_, rfl⟩
            rw [← hv]
            have hx : Ext w25 vb61 := by rw [hv]; exact (Ext.refl _).alloc _
            have BU : Held vb61 w25.heap.size 34 #[.int .i64 u.d, .bool u.more, .int .i64 u.m, .bool u.s, .string u.nm, .int .i64 u.af, .string u.kg] := by rw [hv]; exact Held.new _ _ _
            clear hv
            generalize w25.heap.size = bb61 at *
            clear k0 k1 kl a0 a1 a2 a3 a4 a5 a6 al
            replace E := E.trans hx
            replace hE := hE.trans hx
            replace hL := own_ext hL hx
            replace hI := own_ext hI hx
            replace Z := Z.ext hx
            replace C := C.ext hx
            replace D := D.ext hx
            replace G := G.ext hx
            replace B1 := B1.ext hx
            replace BT := BT.ext hx
            clear hx
            obtain ⟨k0, k1⟩ := B1.c2
            have kl := B1.lt
            obtain ⟨a0, a1, a2, a3, a4, a5, a6⟩ := held_u7 BT
            have al := BT.lt
            obtain ⟨b0, b1, b2, b3, b4, b5, b6⟩ := held_u7 BU
            have bl := BU.lt
            clear NT NP
            go_upto_region 28 with (fail)
            obtain ⟨i7, hi, hz0, hz1, hz2⟩ := info_parts info_trT
            have hlk := hT.lek
            have hgl : gs.length ≤ 20 := by have := hT.len; have := hT.lek; omega
            have hT2 := hT.snoc hmu.1 hmu.2 hmb.1 hmb.2.1
            have hbs := hE.size
            go_upto_region 29 with (at_builtin; refine wpList_append_own_at _ rfl _ _ 27 rfl v.heap.size 34 i7 (.agg #[.int .i64 0, .bool false, .int .i64 0, .bool false, .string ⟨#[]⟩, .int .i64 0, .string ⟨#[]⟩]) 7 72 Tryd.underlying27 hi hz0 hz1 hz2 rfl (by decide) _ _ _ rfl (own_ext hL ((Ext.refl _).alloc _)) ⟨_, 0, none⟩ 1 1 [.int .i64 u.d, .bool u.more, .int .i64 u.m, .bool u.s, .string u.nm, .int .i64 u.af, .string u.kg] rfl rfl (held_newsL (Held.new _ _ _)) (by simp [Value.oneCell']) (by unfold maxLen; omega) (by omega) (by simp; omega) ?_; intro p1 wn hown hgrow _ _)
            have gL := own_ext hL ((Ext.refl vb61).alloc (.cells #[.int .i64 u.d, .bool u.more, .int .i64 u.m, .bool u.s, .string u.nm, .int .i64 u.af, .string u.kg] 34))
            have gI := own_ext hI ((Ext.refl vb61).alloc (.cells #[.int .i64 u.d, .bool u.more, .int .i64 u.m, .bool u.s, .string u.nm, .int .i64 u.af, .string u.kg] 34))
            replace hE := (hE.alloc (.cells #[.int .i64 u.d, .bool u.more, .int .i64 u.m, .bool u.s, .string u.nm, .int .i64 u.af, .string u.kg] 34)).grown hgrow (fun q hq => (row_type gL q hq).1)
            replace E := (E.alloc (.cells #[.int .i64 u.d, .bool u.more, .int .i64 u.m, .bool u.s, .string u.nm, .int .i64 u.af, .string u.kg] 34)).grown hgrow (fun q hq => Nat.le_trans hwv (row_type gL q hq).1)
            replace hI := gI.kept hgrow (own_apart gL gI (by decide))
            replace hL := hown
            have hbs2 := hE.size
            clear hown hgrow gL gI hi hz0 hz1 hz2
            obtain ⟨P1, M1, rfl⟩ := own_sl hL
            obtain ⟨i8, hi, hz0, hz1, hz2⟩ := info_parts info_intT
            clear k0 k1 kl a0 a1 a2 a3 a4 a5 a6 al b0 b1 b2 b3 b4 b5 b6 bl
            go_wp2_with (at_builtin; refine wpList_append_own_at _ rfl _ _ 26 rfl v.heap.size 3 i8 (.int .i64 0) 1 8 Tryd.underlying26 hi hz0 hz1 hz2 rfl (by decide) _ _ _ rfl (own_ext hI ((Ext.refl _).alloc _)) ⟨_, 0, none⟩ 1 1 [.int .i64 m] rfl rfl (held_newsL (Held.new _ _ _)) (by simp [Value.oneCell']) (by unfold maxLen; omega) (by omega) (by simp; omega) ?_; intro p2 wn2 hown hgrow _ _)
            have gL := own_ext hL ((Ext.refl wn).alloc (.cells #[.int .i64 m] 3))
            have gI := own_ext hI ((Ext.refl wn).alloc (.cells #[.int .i64 m] 3))
            replace hE := (hE.alloc (.cells #[.int .i64 m] 3)).grown hgrow (fun q hq => (row_type gI q hq).1)
            replace hL := gL.kept hgrow (own_apart gI gL (by decide))
            exact ⟨⟨k + 1, ts ++ [u], gs ++ [m], m, by omega, by omega, by go_num, rfl, by rw [List.length_append, List.flatMap_append]; exact hL, by rw [List.length_append]; unfold intL at hown ⊢; rw [List.map_append]; exact hown, hT2, hE⟩, by simp [intOf]; omega⟩
          · have z2 := BT.frozen 2
            have z3 := BT.frozen 3
            have z6 := BT.frozen 6
            go_upto_region 24 with (fail)
            replace BT := held7_2 BT (.int .i64 0)
            replace E := E.setCell (p := ⟨bb31, 2, none⟩) hbw (.int .i64 0)
            replace hE := hE.setCell (p := ⟨bb31, 2, none⟩) hbv (.int .i64 0)
            replace hL := hL.kept (grown_at w15 bb31 2 (.int .i64 0)) (.inr fun hq => Nat.lt_irrefl _ (hLb.out _ hq))
            replace hI := hI.kept (grown_at w15 bb31 2 (.int .i64 0)) (.inr fun hq => Nat.lt_irrefl _ (hIb.out _ hq))
            replace BT := held7_3 BT (.bool false)
            replace E := E.setCell (p := ⟨bb31, 3, none⟩) hbw (.bool false)
            replace hE := hE.setCell (p := ⟨bb31, 3, none⟩) hbv (.bool false)
            replace hL := hL.kept (grown_at (World.setCell w15 ⟨bb31, 2, none⟩ (.int .i64 0)) bb31 3 (.bool false)) (.inr fun hq => Nat.lt_irrefl _ (hLb.out _ hq))
            replace hI := hI.kept (grown_at (World.setCell w15 ⟨bb31, 2, none⟩ (.int .i64 0)) bb31 3 (.bool false)) (.inr fun hq => Nat.lt_irrefl _ (hIb.out _ hq))
            replace BT := held7_6 BT (.string ⟨#[]⟩)
            replace E := E.setCell (p := ⟨bb31, 6, none⟩) hbw (.string ⟨#[]⟩)
            replace hE := hE.setCell (p := ⟨bb31, 6, none⟩) hbv (.string ⟨#[]⟩)
            replace hL := hL.kept (grown_at (World.setCell (World.setCell w15 ⟨bb31, 2, none⟩ (.int .i64 0)) ⟨bb31, 3, none⟩ (.bool false)) bb31 6 (.string ⟨#[]⟩)) (.inr fun hq => Nat.lt_irrefl _ (hLb.out _ hq))
            replace hI := hI.kept (grown_at (World.setCell (World.setCell w15 ⟨bb31, 2, none⟩ (.int .i64 0)) ⟨bb31, 3, none⟩ (.bool false)) bb31 6 (.string ⟨#[]⟩)) (.inr fun hq => Nat.lt_irrefl _ (hIb.out _ hq))
            replace C := C0.ext hE
            replace Z := Z0.ext hE
            replace D := D0.ext hE
            replace G := G0.ext hE
            replace B1 := B10.ext hE
            clear k0 k1 kl e0 e1 e2 e3 el a0 a1 a2 a3 a4 a5 a6 al
            clear z2 z3 z6
            clear BD
            generalize World.setCell _ _ _ = wm at *
            obtain ⟨u, hu⟩ : ∃ u : Tr, u = ⟨t.d, t.more, 0, false, t.nm, t.af, ⟨#[]⟩⟩ := ⟨_, rfl⟩
            have hmu : u.ok = true ∧ inS (c.spans u) m := by rw [hu]; exact hmk.out false true false true
            replace BT : Held wm bb31 34 #[.int .i64 u.d, .bool u.more, .int .i64 u.m, .bool u.s, .string u.nm, .int .i64 u.af, .string u.kg] := by rw [hu]; exact BT
            clear hu hmk
            obtain ⟨k0, k1⟩ := B1.c2
            have kl := B1.lt
            obtain ⟨a0, a1, a2, a3, a4, a5, a6⟩ := held_u7 BT
            have al := BT.lt
            obtain ⟨S, hS⟩ : ∃ S, S = textS u := ⟨_, rfl⟩
            have NT := fun w => textX_any u w
            simp only [hmu.1, if_true, ← hS] at NT
            have NP := fun w => parseX_any S w (by rw [hS]; exact Nat.le_trans (text_small hmu.1) (by decide))
            have hpv : parseV S = u := by rw [hS]; unfold parseV; rw [parse_text hmu.1]; rfl
            have hpe : parseE S = 0 := by rw [hS]; unfold parseE; rw [parse_text hmu.1]; rfl
            simp only [hpv, hpe] at NP
            replace NP : ∀ w, Calls Tryd.prog 15 #[.string S] w fun e w' => e = .returned (.tuple #[.agg #[.int .i64 u.d, .bool u.more, .int .i64 u.m, .bool u.s, .string u.nm, .int .i64 u.af, .string u.kg], .int .i64 0]) ∧ Ext w w' := NP
            clear hS hpv hpe
            go_upto_region 25 with (go_at_call 14; (with_reducible refine Calls.mono (NT _) ?_); rintro e w24 ⟨rfl, hx⟩; replace E := E.trans hx; replace hE := hE.trans hx; replace hL := own_ext hL hx; replace hI := own_ext hI hx; replace Z := Z.ext hx; replace C := C.ext hx; replace D := D.ext hx; replace G := G.ext hx; replace B1 := B1.ext hx; replace BT := BT.ext hx; clear hx; clear k0 k1 kl a0 a1 a2 a3 a4 a5 a6 al; obtain ⟨k0, k1⟩ := B1.c2; have kl := B1.lt; obtain ⟨a0, a1, a2, a3, a4, a5, a6⟩ := held_u7 BT; have al := BT.lt)
            go_upto_region 26 with (go_at_call 15; (with_reducible refine Calls.mono (NP _) ?_); rintro e w25 ⟨rfl, hx⟩; replace E := E.trans hx; replace hE := hE.trans hx; replace hL := own_ext hL hx; replace hI := own_ext hI hx; replace Z := Z.ext hx; replace C := C.ext hx; replace D := D.ext hx; replace G := G.ext hx; replace B1 := B1.ext hx; replace BT := BT.ext hx; clear hx; clear k0 k1 kl a0 a1 a2 a3 a4 a5 a6 al; obtain ⟨k0, k1⟩ := B1.c2; have kl := B1.lt; obtain ⟨a0, a1, a2, a3, a4, a5, a6⟩ := held_u7 BT; have al := BT.lt)
            obtain ⟨vb61, hv⟩ : ∃ x, x = (w25.alloc (.cells #[.int .i64 u.d, .bool u.more, .int .i64 u.m, .bool u.s, .string u.nm, .int .i64 u.af, .string u.kg] 34)) := ⟨_, rfl⟩
            rw [← hv]
            have hx : Ext w25 vb61 := by rw [hv]; exact (Ext.refl _).alloc _
            have BU : Held vb61 w25.heap.size 34 #[.int .i64 u.d, .bool u.more, .int .i64 u.m, .bool u.s, .string u.nm, .int .i64 u.af, .string u.kg] := by rw [hv]; exact Held.new _ _ _
            clear hv
            generalize w25.heap.size = bb61 at *
            clear k0 k1 kl a0 a1 a2 a3 a4 a5 a6 al
            replace E := E.trans hx
            replace hE := hE.trans hx
            replace hL := own_ext hL hx
            replace hI := own_ext hI hx
            replace Z := Z.ext hx
            replace C := C.ext hx
            replace D := D.ext hx
            replace G := G.ext hx
            replace B1 := B1.ext hx
            replace BT := BT.ext hx
            clear hx
            obtain ⟨k0, k1⟩ := B1.c2
            have kl := B1.lt
            obtain ⟨a0, a1, a2, a3, a4, a5, a6⟩ := held_u7 BT
            have al := BT.lt
            obtain ⟨b0, b1, b2, b3, b4, b5, b6⟩ := held_u7 BU
            have bl := BU.lt
            clear NT NP
            go_upto_region 28 with (fail)
            obtain ⟨i7, hi, hz0, hz1, hz2⟩ := info_parts info_trT
            have hlk := hT.lek
            have hgl : gs.length ≤ 20 := by have := hT.len; have := hT.lek; omega
            have hT2 := hT.snoc hmu.1 hmu.2 hmb.1 hmb.2.1
            have hbs := hE.size
            go_upto_region 29 with (at_builtin; refine wpList_append_own_at _ rfl _ _ 27 rfl v.heap.size 34 i7 (.agg #[.int .i64 0, .bool false, .int .i64 0, .bool false, .string ⟨#[]⟩, .int .i64 0, .string ⟨#[]⟩]) 7 72 Tryd.underlying27 hi hz0 hz1 hz2 rfl (by decide) _ _ _ rfl (own_ext hL ((Ext.refl _).alloc _)) ⟨_, 0, none⟩ 1 1 [.int .i64 u.d, .bool u.more, .int .i64 u.m, .bool u.s, .string u.nm, .int .i64 u.af, .string u.kg] rfl rfl (held_newsL (Held.new _ _ _)) (by simp [Value.oneCell']) (by unfold maxLen; omega) (by omega) (by simp; omega) ?_; intro p1 wn hown hgrow _ _)
            have gL := own_ext hL ((Ext.refl vb61).alloc (.cells #[.int .i64 u.d, .bool u.more, .int .i64 u.m, .bool u.s, .string u.nm, .int .i64 u.af, .string u.kg] 34))
            have gI := own_ext hI ((Ext.refl vb61).alloc (.cells #[.int .i64 u.d, .bool u.more, .int .i64 u.m, .bool u.s, .string u.nm, .int .i64 u.af, .string u.kg] 34))
            replace hE := (hE.alloc (.cells #[.int .i64 u.d, .bool u.more, .int .i64 u.m, .bool u.s, .string u.nm, .int .i64 u.af, .string u.kg] 34)).grown hgrow (fun q hq => (row_type gL q hq).1)
            replace E := (E.alloc (.cells #[.int .i64 u.d, .bool u.more, .int .i64 u.m, .bool u.s, .string u.nm, .int .i64 u.af, .string u.kg] 34)).grown hgrow (fun q hq => Nat.le_trans hwv (row_type gL q hq).1)
            replace hI := gI.kept hgrow (own_apart gL gI (by decide))
            replace hL := hown
            have hbs2 := hE.size
            clear hown hgrow gL gI hi hz0 hz1 hz2
            obtain ⟨P1, M1, rfl⟩ := own_sl hL
            obtain ⟨i8, hi, hz0, hz1, hz2⟩ := info_parts info_intT
            clear k0 k1 kl a0 a1 a2 a3 a4 a5 a6 al b0 b1 b2 b3 b4 b5 b6 bl
            go_wp2_with (at_builtin; refine wpList_append_own_at _ rfl _ _ 26 rfl v.heap.size 3 i8 (.int .i64 0) 1 8 Tryd.underlying26 hi hz0 hz1 hz2 rfl (by decide) _ _ _ rfl (own_ext hI ((Ext.refl _).alloc _)) ⟨_, 0, none⟩ 1 1 [.int .i64 m] rfl rfl (held_newsL (Held.new _ _ _)) (by simp [Value.oneCell']) (by unfold maxLen; omega) (by omega) (by simp; omega) ?_; intro p2 wn2 hown hgrow _ _)
            have gL := own_ext hL ((Ext.refl wn).alloc (.cells #[.int .i64 m] 3))
            have gI := own_ext hI ((Ext.refl wn).alloc (.cells #[.int .i64 m] 3))
            replace hE := (hE.alloc (.cells #[.int .i64 m] 3)).grown hgrow (fun q hq => (row_type gI q hq).1)
            replace hL := gL.kept hgrow (own_apart gI gL (by decide))
            exact ⟨⟨k + 1, ts ++ [u], gs ++ [m], m, by omega, by omega, by go_num, rfl, by rw [List.length_append, List.flatMap_append]; exact hL, by rw [List.length_append]; unfold intL at hown ⊢; rw [List.map_append]; exact hown, hT2, hE⟩, by simp [intOf]; omega⟩
        · cases q4
          · have z2 := BT.frozen 2
            have z3 := BT.frozen 3
            have z4 := BT.frozen 4
            go_upto_region 24 with (fail)
            replace BT := held7_2 BT (.int .i64 0)
            replace E := E.setCell (p := ⟨bb31, 2, none⟩) hbw (.int .i64 0)
            replace hE := hE.setCell (p := ⟨bb31, 2, none⟩) hbv (.int .i64 0)
            replace hL := hL.kept (grown_at w15 bb31 2 (.int .i64 0)) (.inr fun hq => Nat.lt_irrefl _ (hLb.out _ hq))
            replace hI := hI.kept (grown_at w15 bb31 2 (.int .i64 0)) (.inr fun hq => Nat.lt_irrefl _ (hIb.out _ hq))
            replace BT := held7_3 BT (.bool false)
            replace E := E.setCell (p := ⟨bb31, 3, none⟩) hbw (.bool false)
            replace hE := hE.setCell (p := ⟨bb31, 3, none⟩) hbv (.bool false)
            replace hL := hL.kept (grown_at (World.setCell w15 ⟨bb31, 2, none⟩ (.int .i64 0)) bb31 3 (.bool false)) (.inr fun hq => Nat.lt_irrefl _ (hLb.out _ hq))
            replace hI := hI.kept (grown_at (World.setCell w15 ⟨bb31, 2, none⟩ (.int .i64 0)) bb31 3 (.bool false)) (.inr fun hq => Nat.lt_irrefl _ (hIb.out _ hq))
            replace BT := held7_4 BT (.string ⟨#[]⟩)
            replace E := E.setCell (p := ⟨bb31, 4, none⟩) hbw (.string ⟨#[]⟩)
            replace hE := hE.setCell (p := ⟨bb31, 4, none⟩) hbv (.string ⟨#[]⟩)
            replace hL := hL.kept (grown_at (World.setCell (World.setCell w15 ⟨bb31, 2, none⟩ (.int .i64 0)) ⟨bb31, 3, none⟩ (.bool false)) bb31 4 (.string ⟨#[]⟩)) (.inr fun hq => Nat.lt_irrefl _ (hLb.out _ hq))
            replace hI := hI.kept (grown_at (World.setCell (World.setCell w15 ⟨bb31, 2, none⟩ (.int .i64 0)) ⟨bb31, 3, none⟩ (.bool false)) bb31 4 (.string ⟨#[]⟩)) (.inr fun hq => Nat.lt_irrefl _ (hIb.out _ hq))
            replace C := C0.ext hE
            replace Z := Z0.ext hE
            replace D := D0.ext hE
            replace G := G0.ext hE
            replace B1 := B10.ext hE
            clear k0 k1 kl e0 e1 e2 e3 el a0 a1 a2 a3 a4 a5 a6 al
            clear z2 z3 z4
            clear BD
            generalize World.setCell _ _ _ = wm at *
            obtain ⟨u, hu⟩ : ∃ u : Tr, u = ⟨t.d, t.more, 0, false, ⟨#[]⟩, t.af, t.kg⟩ := ⟨_, rfl⟩
            have hmu : u.ok = true ∧ inS (c.spans u) m := by rw [hu]; exact hmk.out false true true false
            replace BT : Held wm bb31 34 #[.int .i64 u.d, .bool u.more, .int .i64 u.m, .bool u.s, .string u.nm, .int .i64 u.af, .string u.kg] := by rw [hu]; exact BT
            clear hu hmk
            obtain ⟨k0, k1⟩ := B1.c2
            have kl := B1.lt
            obtain ⟨a0, a1, a2, a3, a4, a5, a6⟩ := held_u7 BT
            have al := BT.lt
            obtain ⟨S, hS⟩ : ∃ S, S = textS u := ⟨_, rfl⟩
            have NT := fun w => textX_any u w
            simp only [hmu.1, if_true, ← hS] at NT
            have NP := fun w => parseX_any S w (by rw [hS]; exact Nat.le_trans (text_small hmu.1) (by decide))
            have hpv : parseV S = u := by rw [hS]; unfold parseV; rw [parse_text hmu.1]; rfl
            have hpe : parseE S = 0 := by rw [hS]; unfold parseE; rw [parse_text hmu.1]; rfl
            simp only [hpv, hpe] at NP
            replace NP : ∀ w, Calls Tryd.prog 15 #[.string S] w fun e w' => e = .returned (.tuple #[.agg #[.int .i64 u.d, .bool u.more, .int .i64 u.m, .bool u.s, .string u.nm, .int .i64 u.af, .string u.kg], .int .i64 0]) ∧ Ext w w' := NP
            clear hS hpv hpe
            go_upto_region 25 with (go_at_call 14; (with_reducible refine Calls.mono (NT _) ?_); rintro e w24 ⟨rfl, hx⟩; replace E := E.trans hx; replace hE := hE.trans hx; replace hL := own_ext hL hx; replace hI := own_ext hI hx; replace Z := Z.ext hx; replace C := C.ext hx; replace D := D.ext hx; replace G := G.ext hx; replace B1 := B1.ext hx; replace BT := BT.ext hx; clear hx; clear k0 k1 kl a0 a1 a2 a3 a4 a5 a6 al; obtain ⟨k0, k1⟩ := B1.c2; have kl := B1.lt; obtain ⟨a0, a1, a2, a3, a4, a5, a6⟩ := held_u7 BT; have al := BT.lt)
            go_upto_region 26 with (go_at_call 15; (with_reducible refine Calls.mono (NP _) ?_); rintro e w25 ⟨rfl, hx⟩; replace E := E.trans hx; replace hE := hE.trans hx; replace hL := own_ext hL hx; replace hI := own_ext hI hx; replace Z := Z.ext hx; replace C := C.ext hx; replace D := D.ext hx; replace G := G.ext hx; replace B1 := B1.ext hx; replace BT := BT.ext hx; clear hx; clear k0 k1 kl a0 a1 a2 a3 a4 a5 a6 al; obtain ⟨k0, k1⟩ := B1.c2; have kl := B1.lt; obtain ⟨a0, a1, a2, a3, a4, a5, a6⟩ := held_u7 BT; have al := BT.lt)
            obtain ⟨vb61, hv⟩ : ∃ x, x = (w25.alloc (.cells #[.int .i64 u.d, .bool u.more, .int .i64 u.m, .bool u.s, .string u.nm, .int .i64 u.af, .string u.kg] 34)) := ⟨_, rfl⟩
            rw [← hv]
            have hx : Ext w25 vb61 := by rw [hv]; exact (Ext.refl _).alloc _
            have BU : Held vb61 w25.heap.size 34 #[.int .i64 u.d, .bool u.more, .int .i64 u.m, .bool u.s, .string u.nm, .int .i64 u.af, .string u.kg] := by rw [hv]; exact Held.new _ _ _
            clear hv
            generalize w25.heap.size = bb61 at *
            clear k0 k1 kl a0 a1 a2 a3 a4 a5 a6 al
            replace E := E.trans hx
            replace hE := hE.trans hx
            replace hL := own_ext hL hx
            replace hI := own_ext hI hx
            replace Z := Z.ext hx
            replace C := C.ext hx
            replace D := D.ext hx
            replace G := G.ext hx
            replace B1 := B1.ext hx
            replace BT := BT.ext hx
            clear hx
            obtain ⟨k0, k1⟩ := B1.c2
            have kl := B1.lt
            obtain ⟨a0, a1, a2, a3, a4, a5, a6⟩ := held_u7 BT
            have al := BT.lt
            obtain ⟨b0, b1, b2, b3, b4, b5, b6⟩ := held_u7 BU
            have bl := BU.lt
            clear NT NP
            go_upto_region 28 with (fail)
            obtain ⟨i7, hi, hz0, hz1, hz2⟩ := info_parts info_trT
            have hlk := hT.lek
            have hgl : gs.length ≤ 20 := by have := hT.len; have := hT.lek; omega
            have hT2 := hT.snoc hmu.1 hmu.2 hmb.1 hmb.2.1
            have hbs := hE.size
            go_upto_region 29 with (at_builtin; refine wpList_append_own_at _ rfl _ _ 27 rfl v.heap.size 34 i7 (.agg #[.int .i64 0, .bool false, .int .i64 0, .bool false, .string ⟨#[]⟩, .int .i64 0, .string ⟨#[]⟩]) 7 72 Tryd.underlying27 hi hz0 hz1 hz2 rfl (by decide) _ _ _ rfl (own_ext hL ((Ext.refl _).alloc _)) ⟨_, 0, none⟩ 1 1 [.int .i64 u.d, .bool u.more, .int .i64 u.m, .bool u.s, .string u.nm, .int .i64 u.af, .string u.kg] rfl rfl (held_newsL (Held.new _ _ _)) (by simp [Value.oneCell']) (by unfold maxLen; omega) (by omega) (by simp; omega) ?_; intro p1 wn hown hgrow _ _)
            have gL := own_ext hL ((Ext.refl vb61).alloc (.cells #[.int .i64 u.d, .bool u.more, .int .i64 u.m, .bool u.s, .string u.nm, .int .i64 u.af, .string u.kg] 34))
            have gI := own_ext hI ((Ext.refl vb61).alloc (.cells #[.int .i64 u.d, .bool u.more, .int .i64 u.m, .bool u.s, .string u.nm, .int .i64 u.af, .string u.kg] 34))
            replace hE := (hE.alloc (.cells #[.int .i64 u.d, .bool u.more, .int .i64 u.m, .bool u.s, .string u.nm, .int .i64 u.af, .string u.kg] 34)).grown hgrow (fun q hq => (row_type gL q hq).1)
            replace E := (E.alloc (.cells #[.int .i64 u.d, .bool u.more, .int .i64 u.m, .bool u.s, .string u.nm, .int .i64 u.af, .string u.kg] 34)).grown hgrow (fun q hq => Nat.le_trans hwv (row_type gL q hq).1)
            replace hI := gI.kept hgrow (own_apart gL gI (by decide))
            replace hL := hown
            have hbs2 := hE.size
            clear hown hgrow gL gI hi hz0 hz1 hz2
            obtain ⟨P1, M1, rfl⟩ := own_sl hL
            obtain ⟨i8, hi, hz0, hz1, hz2⟩ := info_parts info_intT
            clear k0 k1 kl a0 a1 a2 a3 a4 a5 a6 al b0 b1 b2 b3 b4 b5 b6 bl
            go_wp2_with (at_builtin; refine wpList_append_own_at _ rfl _ _ 26 rfl v.heap.size 3 i8 (.int .i64 0) 1 8 Tryd.underlying26 hi hz0 hz1 hz2 rfl (by decide) _ _ _ rfl (own_ext hI ((Ext.refl _).alloc _)) ⟨_, 0, none⟩ 1 1 [.int .i64 m] rfl rfl (held_newsL (Held.new _ _ _)) (by simp [Value.oneCell']) (by unfold maxLen; omega) (by omega) (by simp; omega) ?_; intro p2 wn2 hown hgrow _ _)
            have gL := own_ext hL ((Ext.refl wn).alloc (.cells #[.int .i64 m] 3))
            have gI := own_ext hI ((Ext.refl wn).alloc (.cells #[.int .i64 m] 3))
            replace hE := (hE.alloc (.cells #[.int .i64 m] 3)).grown hgrow (fun q hq => (row_type gI q hq).1)
            replace hL := gL.kept hgrow (own_apart gI gL (by decide))
            exact ⟨⟨k + 1, ts ++ [u], gs ++ [m], m, by omega, by omega, by go_num, rfl, by rw [List.length_append, List.flatMap_append]; exact hL, by rw [List.length_append]; unfold intL at hown ⊢; rw [List.map_append]; exact hown, hT2, hE⟩, by simp [intOf]; omega⟩
          · have z2 := BT.frozen 2
            have z3 := BT.frozen 3
            have z4 := BT.frozen 4
            have z6 := BT.frozen 6
            go_upto_region 24 with (fail)
            replace BT := held7_2 BT (.int .i64 0)
            replace E := E.setCell (p := ⟨bb31, 2, none⟩) hbw (.int .i64 0)
            replace hE := hE.setCell (p := ⟨bb31, 2, none⟩) hbv (.int .i64 0)
            replace hL := hL.kept (grown_at w15 bb31 2 (.int .i64 0)) (.inr fun hq => Nat.lt_irrefl _ (hLb.out _ hq))
            replace hI := hI.kept (grown_at w15 bb31 2 (.int .i64 0)) (.inr fun hq => Nat.lt_irrefl _ (hIb.out _ hq))
            replace BT := held7_3 BT (.bool false)
            replace E := E.setCell (p := ⟨bb31, 3, none⟩) hbw (.bool false)
            replace hE := hE.setCell (p := ⟨bb31, 3, none⟩) hbv (.bool false)
            replace hL := hL.kept (grown_at (World.setCell w15 ⟨bb31, 2, none⟩ (.int .i64 0)) bb31 3 (.bool false)) (.inr fun hq => Nat.lt_irrefl _ (hLb.out _ hq))
            replace hI := hI.kept (grown_at (World.setCell w15 ⟨bb31, 2, none⟩ (.int .i64 0)) bb31 3 (.bool false)) (.inr fun hq => Nat.lt_irrefl _ (hIb.out _ hq))
            replace BT := held7_4 BT (.string ⟨#[]⟩)
            replace E := E.setCell (p := ⟨bb31, 4, none⟩) hbw (.string ⟨#[]⟩)
            replace hE := hE.setCell (p := ⟨bb31, 4, none⟩) hbv (.string ⟨#[]⟩)
            replace hL := hL.kept (grown_at (World.setCell (World.setCell w15 ⟨bb31, 2, none⟩ (.int .i64 0)) ⟨bb31, 3, none⟩ (.bool false)) bb31 4 (.string ⟨#[]⟩)) (.inr fun hq => Nat.lt_irrefl _ (hLb.out _ hq))
            replace hI := hI.kept (grown_at (World.setCell (World.setCell w15 ⟨bb31, 2, none⟩ (.int .i64 0)) ⟨bb31, 3, none⟩ (.bool false)) bb31 4 (.string ⟨#[]⟩)) (.inr fun hq => Nat.lt_irrefl _ (hIb.out _ hq))
            replace BT := held7_6 BT (.string ⟨#[]⟩)
            replace E := E.setCell (p := ⟨bb31, 6, none⟩) hbw (.string ⟨#[]⟩)
            replace hE := hE.setCell (p := ⟨bb31, 6, none⟩) hbv (.string ⟨#[]⟩)
            replace hL := hL.kept (grown_at (World.setCell (World.setCell (World.setCell w15 ⟨bb31, 2, none⟩ (.int .i64 0)) ⟨bb31, 3, none⟩ (.bool false)) ⟨bb31, 4, none⟩ (.string ⟨#[]⟩)) bb31 6 (.string ⟨#[]⟩)) (.inr fun hq => Nat.lt_irrefl _ (hLb.out _ hq))
            replace hI := hI.kept (grown_at (World.setCell (World.setCell (World.setCell w15 ⟨bb31, 2, none⟩ (.int .i64 0)) ⟨bb31, 3, none⟩ (.bool false)) ⟨bb31, 4, none⟩ (.string ⟨#[]⟩)) bb31 6 (.string ⟨#[]⟩)) (.inr fun hq => Nat.lt_irrefl _ (hIb.out _ hq))
            replace C := C0.ext hE
            replace Z := Z0.ext hE
            replace D := D0.ext hE
            replace G := G0.ext hE
            replace B1 := B10.ext hE
            clear k0 k1 kl e0 e1 e2 e3 el a0 a1 a2 a3 a4 a5 a6 al
            clear z2 z3 z4 z6
            clear BD
            generalize World.setCell _ _ _ = wm at *
            obtain ⟨u, hu⟩ : ∃ u : Tr, u = ⟨t.d, t.more, 0, false, ⟨#[]⟩, t.af, ⟨#[]⟩⟩ := ⟨_, rfl⟩
            have hmu : u.ok = true ∧ inS (c.spans u) m := by rw [hu]; exact hmk.out false true true true
            replace BT : Held wm bb31 34 #[.int .i64 u.d, .bool u.more, .int .i64 u.m, .bool u.s, .string u.nm, .int .i64 u.af, .string u.kg] := by rw [hu]; exact BT
            clear hu hmk
            obtain ⟨k0, k1⟩ := B1.c2
            have kl := B1.lt
            obtain ⟨a0, a1, a2, a3, a4, a5, a6⟩ := held_u7 BT
            have al := BT.lt
            obtain ⟨S, hS⟩ : ∃ S, S = textS u := ⟨_, rfl⟩
            have NT := fun w => textX_any u w
            simp only [hmu.1, if_true, ← hS] at NT
            have NP := fun w => parseX_any S w (by rw [hS]; exact Nat.le_trans (text_small hmu.1) (by decide))
            have hpv : parseV S = u := by rw [hS]; unfold parseV; rw [parse_text hmu.1]; rfl
            have hpe : parseE S = 0 := by rw [hS]; unfold parseE; rw [parse_text hmu.1]; rfl
            simp only [hpv, hpe] at NP
            replace NP : ∀ w, Calls Tryd.prog 15 #[.string S] w fun e w' => e = .returned (.tuple #[.agg #[.int .i64 u.d, .bool u.more, .int .i64 u.m, .bool u.s, .string u.nm, .int .i64 u.af, .string u.kg], .int .i64 0]) ∧ Ext w w' := NP
            clear hS hpv hpe
            go_upto_region 25 with (go_at_call 14; (with_reducible refine Calls.mono (NT _) ?_); rintro e w24 ⟨rfl, hx⟩; replace E := E.trans hx; replace hE := hE.trans hx; replace hL := own_ext hL hx; replace hI := own_ext hI hx; replace Z := Z.ext hx; replace C := C.ext hx; replace D := D.ext hx; replace G := G.ext hx; replace B1 := B1.ext hx; replace BT := BT.ext hx; clear hx; clear k0 k1 kl a0 a1 a2 a3 a4 a5 a6 al; obtain ⟨k0, k1⟩ := B1.c2; have kl := B1.lt; obtain ⟨a0, a1, a2, a3, a4, a5, a6⟩ := held_u7 BT; have al := BT.lt)
            go_upto_region 26 with (go_at_call 15; (with_reducible refine Calls.mono (NP _) ?_); rintro e w25 ⟨rfl, hx⟩; replace E := E.trans hx; replace hE := hE.trans hx; replace hL := own_ext hL hx; replace hI := own_ext hI hx; replace Z := Z.ext hx; replace C := C.ext hx; replace D := D.ext hx; replace G := G.ext hx; replace B1 := B1.ext hx; replace BT := BT.ext hx; clear hx; clear k0 k1 kl a0 a1 a2 a3 a4 a5 a6 al; obtain ⟨k0, k1⟩ := B1.c2; have kl := B1.lt; obtain ⟨a0, a1, a2, a3, a4, a5, a6⟩ := held_u7 BT; have al := BT.lt)
            obtain ⟨vb61, hv⟩ : ∃ x, x = (w25.alloc (.cells #[.int .i64 u.d, .bool u.more, .int .i64 u.m, .bool u.s, .string u.nm, .int .i64 u.af, .string u.kg] 34)) := ⟨_, rfl⟩
            rw [← hv]
            have hx : Ext w25 vb61 := by rw [hv]; exact (Ext.refl _).alloc _
            have BU : Held vb61 w25.heap.size 34 #[.int .i64 u.d, .bool u.more, .int .i64 u.m, .bool u.s, .string u.nm, .int .i64 u.af, .string u.kg] := by rw [hv]; exact Held.new _ _ _
            clear hv
            generalize w25.heap.size = bb61 at *
            clear k0 k1 kl a0 a1 a2 a3 a4 a5 a6 al
            replace E := E.trans hx
            replace hE := hE.trans hx
            replace hL := own_ext hL hx
            replace hI := own_ext hI hx
            replace Z := Z.ext hx
            replace C := C.ext hx
            replace D := D.ext hx
            replace G := G.ext hx
            replace B1 := B1.ext hx
            replace BT := BT.ext hx
            clear hx
            obtain ⟨k0, k1⟩ := B1.c2
            have kl := B1.lt
            obtain ⟨a0, a1, a2, a3, a4, a5, a6⟩ := held_u7 BT
            have al := BT.lt
            obtain ⟨b0, b1, b2, b3, b4, b5, b6⟩ := held_u7 BU
            have bl := BU.lt
            clear NT NP
            go_upto_region 28 with (fail)
            obtain ⟨i7, hi, hz0, hz1, hz2⟩ := info_parts info_trT
            have hlk := hT.lek
            have hgl : gs.length ≤ 20 := by have := hT.len; have := hT.lek; omega
            have hT2 := hT.snoc hmu.1 hmu.2 hmb.1 hmb.2.1
            have hbs := hE.size
            go_upto_region 29 with (at_builtin; refine wpList_append_own_at _ rfl _ _ 27 rfl v.heap.size 34 i7 (.agg #[.int .i64 0, .bool false, .int .i64 0, .bool false, .string ⟨#[]⟩, .int .i64 0, .string ⟨#[]⟩]) 7 72 Tryd.underlying27 hi hz0 hz1 hz2 rfl (by decide) _ _ _ rfl (own_ext hL ((Ext.refl _).alloc _)) ⟨_, 0, none⟩ 1 1 [.int .i64 u.d, .bool u.more, .int .i64 u.m, .bool u.s, .string u.nm, .int .i64 u.af, .string u.kg] rfl rfl (held_newsL (Held.new _ _ _)) (by simp [Value.oneCell']) (by unfold maxLen; omega) (by omega) (by simp; omega) ?_; intro p1 wn hown hgrow _ _)
            have gL := own_ext hL ((Ext.refl vb61).alloc (.cells #[.int .i64 u.d, .bool u.more, .int .i64 u.m, .bool u.s, .string u.nm, .int .i64 u.af, .string u.kg] 34))
            have gI := own_ext hI ((Ext.refl vb61).alloc (.cells #[.int .i64 u.d, .bool u.more, .int .i64 u.m, .bool u.s, .string u.nm, .int .i64 u.af, .string u.kg] 34))
            replace hE := (hE.alloc (.cells #[.int .i64 u.d, .bool u.more, .int .i64 u.m, .bool u.s, .string u.nm, .int .i64 u.af, .string u.kg] 34)).grown hgrow (fun q hq => (row_type gL q hq).1)
            replace E := (E.alloc (.cells #[.int .i64 u.d, .bool u.more, .int .i64 u.m, .bool u.s, .string u.nm, .int .i64 u.af, .string u.kg] 34)).grown hgrow (fun q hq => Nat.le_trans hwv (row_type gL q hq).1)
            replace hI := gI.kept hgrow (own_apart gL gI (by decide))
            replace hL := hown
            have hbs2 := hE.size
            clear hown hgrow gL gI hi hz0 hz1 hz2
            obtain ⟨P1, M1, rfl⟩ := own_sl hL
            obtain ⟨i8, hi, hz0, hz1, hz2⟩ := info_parts info_intT
            clear k0 k1 kl a0 a1 a2 a3 a4 a5 a6 al b0 b1 b2 b3 b4 b5 b6 bl
            go_wp2_with (at_builtin; refine wpList_append_own_at _ rfl _ _ 26 rfl v.heap.size 3 i8 (.int .i64 0) 1 8 Tryd.underlying26 hi hz0 hz1 hz2 rfl (by decide) _ _ _ rfl (own_ext hI ((Ext.refl _).alloc _)) ⟨_, 0, none⟩ 1 1 [.int .i64 m] rfl rfl (held_newsL (Held.new _ _ _)) (by simp [Value.oneCell']) (by unfold maxLen; omega) (by omega) (by simp; omega) ?_; intro p2 wn2 hown hgrow _ _)
            have gL := own_ext hL ((Ext.refl wn).alloc (.cells #[.int .i64 m] 3))
            have gI := own_ext hI ((Ext.refl wn).alloc (.cells #[.int .i64 m] 3))
            replace hE := (hE.alloc (.cells #[.int .i64 m] 3)).grown hgrow (fun q hq => (row_type gI q hq).1)
            replace hL := gL.kept hgrow (own_apart gI gL (by decide))
            exact ⟨⟨k + 1, ts ++ [u], gs ++ [m], m, by omega, by omega, by go_num, rfl, by rw [List.length_append, List.flatMap_append]; exact hL, by rw [List.length_append]; unfold intL at hown ⊢; rw [List.map_append]; exact hown, hT2, hE⟩, by simp [intOf]; omega⟩
    · cases q2
      · cases q3
        · cases q4
          · have z0 := BT.frozen 0
            go_upto_region 24 with (fail)
            replace BT := held7_0 BT (.int .i64 0)
            replace E := E.setCell (p := ⟨bb31, 0, none⟩) hbw (.int .i64 0)
            replace hE := hE.setCell (p := ⟨bb31, 0, none⟩) hbv (.int .i64 0)
            replace hL := hL.kept (grown_at w15 bb31 0 (.int .i64 0)) (.inr fun hq => Nat.lt_irrefl _ (hLb.out _ hq))
            replace hI := hI.kept (grown_at w15 bb31 0 (.int .i64 0)) (.inr fun hq => Nat.lt_irrefl _ (hIb.out _ hq))
            replace C := C0.ext hE
            replace Z := Z0.ext hE
            replace D := D0.ext hE
            replace G := G0.ext hE
            replace B1 := B10.ext hE
            clear k0 k1 kl e0 e1 e2 e3 el a0 a1 a2 a3 a4 a5 a6 al
            clear z0
            clear BD
            generalize World.setCell _ _ _ = wm at *
            obtain ⟨u, hu⟩ : ∃ u : Tr, u = ⟨0, t.more, t.m, t.s, t.nm, t.af, t.kg⟩ := ⟨_, rfl⟩
            have hmu : u.ok = true ∧ inS (c.spans u) m := by rw [hu]; exact hmk.out true false false false
            replace BT : Held wm bb31 34 #[.int .i64 u.d, .bool u.more, .int .i64 u.m, .bool u.s, .string u.nm, .int .i64 u.af, .string u.kg] := by rw [hu]; exact BT
            clear hu hmk
            obtain ⟨k0, k1⟩ := B1.c2
            have kl := B1.lt
            obtain ⟨a0, a1, a2, a3, a4, a5, a6⟩ := held_u7 BT
            have al := BT.lt
            obtain ⟨S, hS⟩ : ∃ S, S = textS u := ⟨_, rfl⟩
            have NT := fun w => textX_any u w
            simp only [hmu.1, if_true, ← hS] at NT
            have NP := fun w => parseX_any S w (by rw [hS]; exact Nat.le_trans (text_small hmu.1) (by decide))
            have hpv : parseV S = u := by rw [hS]; unfold parseV; rw [parse_text hmu.1]; rfl
            have hpe : parseE S = 0 := by rw [hS]; unfold parseE; rw [parse_text hmu.1]; rfl
            simp only [hpv, hpe] at NP
            replace NP : ∀ w, Calls Tryd.prog 15 #[.string S] w fun e w' => e = .returned (.tuple #[.agg #[.int .i64 u.d, .bool u.more, .int .i64 u.m, .bool u.s, .string u.nm, .int .i64 u.af, .string u.kg], .int .i64 0]) ∧ Ext w w' := NP
            clear hS hpv hpe
            go_upto_region 25 with (go_at_call 14; (with_reducible refine Calls.mono (NT _) ?_); rintro e w24 ⟨rfl, hx⟩; replace E := E.trans hx; replace hE := hE.trans hx; replace hL := own_ext hL hx; replace hI := own_ext hI hx; replace Z := Z.ext hx; replace C := C.ext hx; replace D := D.ext hx; replace G := G.ext hx; replace B1 := B1.ext hx; replace BT := BT.ext hx; clear hx; clear k0 k1 kl a0 a1 a2 a3 a4 a5 a6 al; obtain ⟨k0, k1⟩ := B1.c2; have kl := B1.lt; obtain ⟨a0, a1, a2, a3, a4, a5, a6⟩ := held_u7 BT; have al := BT.lt)
            go_upto_region 26 with (go_at_call 15; (with_reducible refine Calls.mono (NP _) ?_); rintro e w25 ⟨rfl, hx⟩; replace E := E.trans hx; replace hE := hE.trans hx; replace hL := own_ext hL hx; replace hI := own_ext hI hx; replace Z := Z.ext hx; replace C := C.ext hx; replace D := D.ext hx; replace G := G.ext hx; replace B1 := B1.ext hx; replace BT := BT.ext hx; clear hx; clear k0 k1 kl a0 a1 a2 a3 a4 a5 a6 al; obtain ⟨k0, k1⟩ := B1.c2; have kl := B1.lt; obtain ⟨a0, a1, a2, a3, a4, a5, a6⟩ := held_u7 BT; have al := BT.lt)
            obtain ⟨vb61, hv⟩ : ∃ x, x = (w25.alloc (.cells #[.int .i64 u.d, .bool u.more, .int .i64 u.m, .bool u.s, .string u.nm, .int .i64 u.af, .string u.kg] 34)) := ⟨_, rfl⟩
            rw [← hv]
            have hx : Ext w25 vb61 := by rw [hv]; exact (Ext.refl _).alloc _
            have BU : Held vb61 w25.heap.size 34 #[.int .i64 u.d, .bool u.more, .int .i64 u.m, .bool u.s, .string u.nm, .int .i64 u.af, .string u.kg] := by rw [hv]; exact Held.new _ _ _
            clear hv
            generalize w25.heap.size = bb61 at *
            clear k0 k1 kl a0 a1 a2 a3 a4 a5 a6 al
            replace E := E.trans hx
            replace hE := hE.trans hx
            replace hL := own_ext hL hx
            replace hI := own_ext hI hx
            replace Z := Z.ext hx
            replace C := C.ext hx
            replace D := D.ext hx
            replace G := G.ext hx
            replace B1 := B1.ext hx
            replace BT := BT.ext hx
            clear hx
            obtain ⟨k0, k1⟩ := B1.c2
            have kl := B1.lt
            obtain ⟨a0, a1, a2, a3, a4, a5, a6⟩ := held_u7 BT
            have al := BT.lt
            obtain ⟨b0, b1, b2, b3, b4, b5, b6⟩ := held_u7 BU
            have bl := BU.lt
            clear NT NP
            go_upto_region 28 with (fail)
            obtain ⟨i7, hi, hz0, hz1, hz2⟩ := info_parts info_trT
            have hlk := hT.lek
            have hgl : gs.length ≤ 20 := by have := hT.len; have := hT.lek; omega
            have hT2 := hT.snoc hmu.1 hmu.2 hmb.1 hmb.2.1
            have hbs := hE.size
            go_upto_region 29 with (at_builtin; refine wpList_append_own_at _ rfl _ _ 27 rfl v.heap.size 34 i7 (.agg #[.int .i64 0, .bool false, .int .i64 0, .bool false, .string ⟨#[]⟩, .int .i64 0, .string ⟨#[]⟩]) 7 72 Tryd.underlying27 hi hz0 hz1 hz2 rfl (by decide) _ _ _ rfl (own_ext hL ((Ext.refl _).alloc _)) ⟨_, 0, none⟩ 1 1 [.int .i64 u.d, .bool u.more, .int .i64 u.m, .bool u.s, .string u.nm, .int .i64 u.af, .string u.kg] rfl rfl (held_newsL (Held.new _ _ _)) (by simp [Value.oneCell']) (by unfold maxLen; omega) (by omega) (by simp; omega) ?_; intro p1 wn hown hgrow _ _)
            have gL := own_ext hL ((Ext.refl vb61).alloc (.cells #[.int .i64 u.d, .bool u.more, .int .i64 u.m, .bool u.s, .string u.nm, .int .i64 u.af, .string u.kg] 34))
            have gI := own_ext hI ((Ext.refl vb61).alloc (.cells #[.int .i64 u.d, .bool u.more, .int .i64 u.m, .bool u.s, .string u.nm, .int .i64 u.af, .string u.kg] 34))
            replace hE := (hE.alloc (.cells #[.int .i64 u.d, .bool u.more, .int .i64 u.m, .bool u.s, .string u.nm, .int .i64 u.af, .string u.kg] 34)).grown hgrow (fun q hq => (row_type gL q hq).1)
            replace E := (E.alloc (.cells #[.int .i64 u.d, .bool u.more, .int .i64 u.m, .bool u.s, .string u.nm, .int .i64 u.af, .string u.kg] 34)).grown hgrow (fun q hq => Nat.le_trans hwv (row_type gL q hq).1)
            replace hI := gI.kept hgrow (own_apart gL gI (by decide))
            replace hL := hown
            have hbs2 := hE.size
            clear hown hgrow gL gI hi hz0 hz1 hz2
            obtain ⟨P1, M1, rfl⟩ := own_sl hL
            obtain ⟨i8, hi, hz0, hz1, hz2⟩ := info_parts info_intT
            clear k0 k1 kl a0 a1 a2 a3 a4 a5 a6 al b0 b1 b2 b3 b4 b5 b6 bl
            go_wp2_with (at_builtin; refine wpList_append_own_at _ rfl _ _ 26 rfl v.heap.size 3 i8 (.int .i64 0) 1 8 Tryd.underlying26 hi hz0 hz1 hz2 rfl (by decide) _ _ _ rfl (own_ext hI ((Ext.refl _).alloc _)) ⟨_, 0, none⟩ 1 1 [.int .i64 m] rfl rfl (held_newsL (Held.new _ _ _)) (by simp [Value.oneCell']) (by unfold maxLen; omega) (by omega) (by simp; omega) ?_; intro p2 wn2 hown hgrow _ _)
            have gL := own_ext hL ((Ext.refl wn).alloc (.cells #[.int .i64 m] 3))
            have gI := own_ext hI ((Ext.refl wn).alloc (.cells #[.int .i64 m] 3))
            replace hE := (hE.alloc (.cells #[.int .i64 m] 3)).grown hgrow (fun q hq => (row_type gI q hq).1)
            replace hL := gL.kept hgrow (own_apart gI gL (by decide))
            exact ⟨⟨k + 1, ts ++ [u], gs ++ [m], m, by omega, by omega, by go_num, rfl, by rw [List.length_append, List.flatMap_append]; exact hL, by rw [List.length_append]; unfold intL at hown ⊢; rw [List.map_append]; exact hown, hT2, hE⟩, by simp [intOf]; omega⟩
          · have z0 := BT.frozen 0
            have z6 := BT.frozen 6
            go_upto_region 24 with (fail)
            replace BT := held7_0 BT (.int .i64 0)
            replace E := E.setCell (p := ⟨bb31, 0, none⟩) hbw (.int .i64 0)
            replace hE := hE.setCell (p := ⟨bb31, 0, none⟩) hbv (.int .i64 0)
            replace hL := hL.kept (grown_at w15 bb31 0 (.int .i64 0)) (.inr fun hq => Nat.lt_irrefl _ (hLb.out _ hq))
            replace hI := hI.kept (grown_at w15 bb31 0 (.int .i64 0)) (.inr fun hq => Nat.lt_irrefl _ (hIb.out _ hq))
            replace BT := held7_6 BT (.string ⟨#[]⟩)
            replace E := E.setCell (p := ⟨bb31, 6, none⟩) hbw (.string ⟨#[]⟩)
            replace hE := hE.setCell (p := ⟨bb31, 6, none⟩) hbv (.string ⟨#[]⟩)
            replace hL := hL.kept (grown_at (World.setCell w15 ⟨bb31, 0, none⟩ (.int .i64 0)) bb31 6 (.string ⟨#[]⟩)) (.inr fun hq => Nat.lt_irrefl _ (hLb.out _ hq))
            replace hI := hI.kept (grown_at (World.setCell w15 ⟨bb31, 0, none⟩ (.int .i64 0)) bb31 6 (.string ⟨#[]⟩)) (.inr fun hq => Nat.lt_irrefl _ (hIb.out _ hq))
            replace C := C0.ext hE
            replace Z := Z0.ext hE
            replace D := D0.ext hE
            replace G := G0.ext hE
            replace B1 := B10.ext hE
            clear k0 k1 kl e0 e1 e2 e3 el a0 a1 a2 a3 a4 a5 a6 al
            clear z0 z6
            clear BD
            generalize World.setCell _ _ _ = wm at *
            obtain ⟨u, hu⟩ : ∃ u : Tr, u = ⟨0, t.more, t.m, t.s, t.nm, t.af, ⟨#[]⟩⟩ := ⟨_, rfl⟩
            have hmu : u.ok = true ∧ inS (c.spans u) m := by rw [hu]; exact hmk.out true false false true
            replace BT : Held wm bb31 34 #[.int .i64 u.d, .bool u.more, .int .i64 u.m, .bool u.s, .string u.nm, .int .i64 u.af, .string u.kg] := by rw [hu]; exact BT
            clear hu hmk
            obtain ⟨k0, k1⟩ := B1.c2
            have kl := B1.lt
            obtain ⟨a0, a1, a2, a3, a4, a5, a6⟩ := held_u7 BT
            have al := BT.lt
            obtain ⟨S, hS⟩ : ∃ S, S = textS u := ⟨_, rfl⟩
            have NT := fun w => textX_any u w
            simp only [hmu.1, if_true, ← hS] at NT
            have NP := fun w => parseX_any S w (by rw [hS]; exact Nat.le_trans (text_small hmu.1) (by decide))
            have hpv : parseV S = u := by rw [hS]; unfold parseV; rw [parse_text hmu.1]; rfl
            have hpe : parseE S = 0 := by rw [hS]; unfold parseE; rw [parse_text hmu.1]; rfl
            simp only [hpv, hpe] at NP
            replace NP : ∀ w, Calls Tryd.prog 15 #[.string S] w fun e w' => e = .returned (.tuple #[.agg #[.int .i64 u.d, .bool u.more, .int .i64 u.m, .bool u.s, .string u.nm, .int .i64 u.af, .string u.kg], .int .i64 0]) ∧ Ext w w' := NP
            clear hS hpv hpe
            go_upto_region 25 with (go_at_call 14; (with_reducible refine Calls.mono (NT _) ?_); rintro e w24 ⟨rfl, hx⟩; replace E := E.trans hx; replace hE := hE.trans hx; replace hL := own_ext hL hx; replace hI := own_ext hI hx; replace Z := Z.ext hx; replace C := C.ext hx; replace D := D.ext hx; replace G := G.ext hx; replace B1 := B1.ext hx; replace BT := BT.ext hx; clear hx; clear k0 k1 kl a0 a1 a2 a3 a4 a5 a6 al; obtain ⟨k0, k1⟩ := B1.c2; have kl := B1.lt; obtain ⟨a0, a1, a2, a3, a4, a5, a6⟩ := held_u7 BT; have al := BT.lt)
            go_upto_region 26 with (go_at_call 15; (with_reducible refine Calls.mono (NP _) ?_); rintro e w25 ⟨rfl, hx⟩; replace E := E.trans hx; replace hE := hE.trans hx; replace hL := own_ext hL hx; replace hI := own_ext hI hx; replace Z := Z.ext hx; replace C := C.ext hx; replace D := D.ext hx; replace G := G.ext hx; replace B1 := B1.ext hx; replace BT := BT.ext hx; clear hx; clear k0 k1 kl a0 a1 a2 a3 a4 a5 a6 al; obtain ⟨k0, k1⟩ := B1.c2; have kl := B1.lt; obtain ⟨a0, a1, a2, a3, a4, a5, a6⟩ := held_u7 BT; have al := BT.lt)
            obtain ⟨vb61, hv⟩ : ∃ x, x = (w25.alloc (.cells #[.int .i64 u.d, .bool u.more, .int .i64 u.m, .bool u.s, .string u.nm, .int .i64 u.af, .string u.kg] 34)) := ⟨_, rfl⟩
            rw [← hv]
            have hx : Ext w25 vb61 := by rw [hv]; exact (Ext.refl _).alloc _
            have BU : Held vb61 w25.heap.size 34 #[.int .i64 u.d, .bool u.more, .int .i64 u.m, .bool u.s, .string u.nm, .int .i64 u.af, .string u.kg] := by rw [hv]; exact Held.new _ _ _
            clear hv
            generalize w25.heap.size = bb61 at *
            clear k0 k1 kl a0 a1 a2 a3 a4 a5 a6 al
            replace E := E.trans hx
            replace hE := hE.trans hx
            replace hL := own_ext hL hx
            replace hI := own_ext hI hx
            replace Z := Z.ext hx
            replace C := C.ext hx
            replace D := D.ext hx
            replace G := G.ext hx
            replace B1 := B1.ext hx
            replace BT := BT.ext hx
            clear hx
            obtain ⟨k0, k1⟩ := B1.c2
            have kl := B1.lt
            obtain ⟨a0, a1, a2, a3, a4, a5, a6⟩ := held_u7 BT
            have al := BT.lt
            obtain ⟨b0, b1, b2, b3, b4, b5, b6⟩ := held_u7 BU
            have bl := BU.lt
            clear NT NP
            go_upto_region 28 with (fail)
            obtain ⟨i7, hi, hz0, hz1, hz2⟩ := info_parts info_trT
            have hlk := hT.lek
            have hgl : gs.length ≤ 20 := by have := hT.len; have := hT.lek; omega
            have hT2 := hT.snoc hmu.1 hmu.2 hmb.1 hmb.2.1
            have hbs := hE.size
            go_upto_region 29 with (at_builtin; refine wpList_append_own_at _ rfl _ _ 27 rfl v.heap.size 34 i7 (.agg #[.int .i64 0, .bool false, .int .i64 0, .bool false, .string ⟨#[]⟩, .int .i64 0, .string ⟨#[]⟩]) 7 72 Tryd.underlying27 hi hz0 hz1 hz2 rfl (by decide) _ _ _ rfl (own_ext hL ((Ext.refl _).alloc _)) ⟨_, 0, none⟩ 1 1 [.int .i64 u.d, .bool u.more, .int .i64 u.m, .bool u.s, .string u.nm, .int .i64 u.af, .string u.kg] rfl rfl (held_newsL (Held.new _ _ _)) (by simp [Value.oneCell']) (by unfold maxLen; omega) (by omega) (by simp; omega) ?_; intro p1 wn hown hgrow _ _)
            have gL := own_ext hL ((Ext.refl vb61).alloc (.cells #[.int .i64 u.d, .bool u.more, .int .i64 u.m, .bool u.s, .string u.nm, .int .i64 u.af, .string u.kg] 34))
            have gI := own_ext hI ((Ext.refl vb61).alloc (.cells #[.int .i64 u.d, .bool u.more, .int .i64 u.m, .bool u.s, .string u.nm, .int .i64 u.af, .string u.kg] 34))
            replace hE := (hE.alloc (.cells #[.int .i64 u.d, .bool u.more, .int .i64 u.m, .bool u.s, .string u.nm, .int .i64 u.af, .string u.kg] 34)).grown hgrow (fun q hq => (row_type gL q hq).1)
            replace E := (E.alloc (.cells #[.int .i64 u.d, .bool u.more, .int .i64 u.m, .bool u.s, .string u.nm, .int .i64 u.af, .string u.kg] 34)).grown hgrow (fun q hq => Nat.le_trans hwv (row_type gL q hq).1)
            replace hI := gI.kept hgrow (own_apart gL gI (by decide))
            replace hL := hown
            have hbs2 := hE.size
            clear hown hgrow gL gI hi hz0 hz1 hz2
            obtain ⟨P1, M1, rfl⟩ := own_sl hL
            obtain ⟨i8, hi, hz0, hz1, hz2⟩ := info_parts info_intT
            clear k0 k1 kl a0 a1 a2 a3 a4 a5 a6 al b0 b1 b2 b3 b4 b5 b6 bl
            go_wp2_with (at_builtin; refine wpList_append_own_at _ rfl _ _ 26 rfl v.heap.size 3 i8 (.int .i64 0) 1 8 Tryd.underlying26 hi hz0 hz1 hz2 rfl (by decide) _ _ _ rfl (own_ext hI ((Ext.refl _).alloc _)) ⟨_, 0, none⟩ 1 1 [.int .i64 m] rfl rfl (held_newsL (Held.new _ _ _)) (by simp [Value.oneCell']) (by unfold maxLen; omega) (by omega) (by simp; omega) ?_; intro p2 wn2 hown hgrow _ _)
            have gL := own_ext hL ((Ext.refl wn).alloc (.cells #[.int .i64 m] 3))
            have gI := own_ext hI ((Ext.refl wn).alloc (.cells #[.int .i64 m] 3))
            replace hE := (hE.alloc (.cells #[.int .i64 m] 3)).grown hgrow (fun q hq => (row_type gI q hq).1)
            replace hL := gL.kept hgrow (own_apart gI gL (by decide))
            exact ⟨⟨k + 1, ts ++ [u], gs ++ [m], m, by omega, by omega, by go_num, rfl, by rw [List.length_append, List.flatMap_append]; exact hL, by rw [List.length_append]; unfold intL at hown ⊢; rw [List.map_append]; exact hown, hT2, hE⟩, by simp [intOf]; omega⟩
        · cases q4
          · have z0 := BT.frozen 0
            have z4 := BT.frozen 4
            go_upto_region 24 with (fail)
            replace BT := held7_0 BT (.int .i64 0)
            replace E := E.setCell (p := ⟨bb31, 0, none⟩) hbw (.int .i64 0)
            replace hE := hE.setCell (p := ⟨bb31, 0, none⟩) hbv (.int .i64 0)
            replace hL := hL.kept (grown_at w15 bb31 0 (.int .i64 0)) (.inr fun hq => Nat.lt_irrefl _ (hLb.out _ hq))
            replace hI := hI.kept (grown_at w15 bb31 0 (.int .i64 0)) (.inr fun hq => Nat.lt_irrefl _ (hIb.out _ hq))
            replace BT := held7_4 BT (.string ⟨#[]⟩)
            replace E := E.setCell (p := ⟨bb31, 4, none⟩) hbw (.string ⟨#[]⟩)
            replace hE := hE.setCell (p := ⟨bb31, 4, none⟩) hbv (.string ⟨#[]⟩)
            replace hL := hL.kept (grown_at (World.setCell w15 ⟨bb31, 0, none⟩ (.int .i64 0)) bb31 4 (.string ⟨#[]⟩)) (.inr fun hq => Nat.lt_irrefl _ (hLb.out _ hq))
            replace hI := hI.kept (grown_at (World.setCell w15 ⟨bb31, 0, none⟩ (.int .i64 0)) bb31 4 (.string ⟨#[]⟩)) (.inr fun hq => Nat.lt_irrefl _ (hIb.out _ hq))
            replace C := C0.ext hE
            replace Z := Z0.ext hE
            replace D := D0.ext hE
            replace G := G0.ext hE
            replace B1 := B10.ext hE
            clear k0 k1 kl e0 e1 e2 e3 el a0 a1 a2 a3 a4 a5 a6 al
            clear z0 z4
            clear BD
            generalize World.setCell _ _ _ = wm at *
            obtain ⟨u, hu⟩ : ∃ u : Tr, u = ⟨0, t.more, t.m, t.s, ⟨#[]⟩, t.af, t.kg⟩ := ⟨_, rfl⟩
            have hmu : u.ok = true ∧ inS (c.spans u) m := by rw [hu]; exact hmk.out true false true false
            replace BT : Held wm bb31 34 #[.int .i64 u.d, .bool u.more, .int .i64 u.m, .bool u.s, .string u.nm, .int .i64 u.af, .string u.kg] := by rw [hu]; exact BT
            clear hu hmk
            obtain ⟨k0, k1⟩ := B1.c2
            have kl := B1.lt
            obtain ⟨a0, a1, a2, a3, a4, a5, a6⟩ := held_u7 BT
            have al := BT.lt
            obtain ⟨S, hS⟩ : ∃ S, S = textS u := ⟨_, rfl⟩
            have NT := fun w => textX_any u w
            simp only [hmu.1, if_true, ← hS] at NT
            have NP := fun w => parseX_any S w (by rw [hS]; exact Nat.le_trans (text_small hmu.1) (by decide))
            have hpv : parseV S = u := by rw [hS]; unfold parseV; rw [parse_text hmu.1]; rfl
            have hpe : parseE S = 0 := by rw [hS]; unfold parseE; rw [parse_text hmu.1]; rfl
            simp only [hpv, hpe] at NP
            replace NP : ∀ w, Calls Tryd.prog 15 #[.string S] w fun e w' => e = .returned (.tuple #[.agg #[.int .i64 u.d, .bool u.more, .int .i64 u.m, .bool u.s, .string u.nm, .int .i64 u.af, .string u.kg], .int .i64 0]) ∧ Ext w w' := NP
            clear hS hpv hpe
            go_upto_region 25 with (go_at_call 14; (with_reducible refine Calls.mono (NT _) ?_); rintro e w24 ⟨rfl, hx⟩; replace E := E.trans hx; replace hE := hE.trans hx; replace hL := own_ext hL hx; replace hI := own_ext hI hx; replace Z := Z.ext hx; replace C := C.ext hx; replace D := D.ext hx; replace G := G.ext hx; replace B1 := B1.ext hx; replace BT := BT.ext hx; clear hx; clear k0 k1 kl a0 a1 a2 a3 a4 a5 a6 al; obtain ⟨k0, k1⟩ := B1.c2; have kl := B1.lt; obtain ⟨a0, a1, a2, a3, a4, a5, a6⟩ := held_u7 BT; have al := BT.lt)
            go_upto_region 26 with (go_at_call 15; (with_reducible refine Calls.mono (NP _) ?_); rintro e w25 ⟨rfl, hx⟩; replace E := E.trans hx; replace hE := hE.trans hx; replace hL := own_ext hL hx; replace hI := own_ext hI hx; replace Z := Z.ext hx; replace C := C.ext hx; replace D := D.ext hx; replace G := G.ext hx; replace B1 := B1.ext hx; replace BT := BT.ext hx; clear hx; clear k0 k1 kl a0 a1 a2 a3 a4 a5 a6 al; obtain ⟨k0, k1⟩ := B1.c2; have kl := B1.lt; obtain ⟨a0, a1, a2, a3, a4, a5, a6⟩ := held_u7 BT; have al := BT.lt)
            obtain ⟨vb61, hv⟩ : ∃ x, x = (w25.alloc (.cells #[.int .i64 u.d, .bool u.more, .int .i64 u.m, .bool u.s, .string u.nm, .int .i64 u.af, .string u.kg] 34)) := ⟨_, rfl⟩
            rw [← hv]
            have hx : Ext w25 vb61 := by rw [hv]; exact (Ext.refl _).alloc _
            have BU : Held vb61 w25.heap.size 34 #[.int .i64 u.d, .bool u.more, .int .i64 u.m, .bool u.s, .string u.nm, .int .i64 u.af, .string u.kg] := by rw [hv]; exact Held.new _ _ _
            clear hv
            generalize w25.heap.size = bb61 at *
            clear k0 k1 kl a0 a1 a2 a3 a4 a5 a6 al
            replace E := E.trans hx
            replace hE := hE.trans hx
            replace hL := own_ext hL hx
            replace hI := own_ext hI hx
            replace Z := Z.ext hx
            replace C := C.ext hx
            replace D := D.ext hx
            replace G := G.ext hx
            replace B1 := B1.ext hx
            replace BT := BT.ext hx
            clear hx
            obtain ⟨k0, k1⟩ := B1.c2
            have kl := B1.lt
            obtain ⟨a0, a1, a2, a3, a4, a5, a6⟩ := held_u7 BT
            have al := BT.lt
            obtain ⟨b0, b1, b2, b3, b4, b5, b6⟩ := held_u7 BU
            have bl := BU.lt
            clear NT NP
            go_upto_region 28 with (fail)
            obtain ⟨i7, hi, hz0, hz1, hz2⟩ := info_parts info_trT
            have hlk := hT.lek
            have hgl : gs.length ≤ 20 := by have := hT.len; have := hT.lek; omega
            have hT2 := hT.snoc hmu.1 hmu.2 hmb.1 hmb.2.1
            have hbs := hE.size
            go_upto_region 29 with (at_builtin; refine wpList_append_own_at _ rfl _ _ 27 rfl v.heap.size 34 i7 (.agg #[.int .i64 0, .bool false, .int .i64 0, .bool false, .string ⟨#[]⟩, .int .i64 0, .string ⟨#[]⟩]) 7 72 Tryd.underlying27 hi hz0 hz1 hz2 rfl (by decide) _ _ _ rfl (own_ext hL ((Ext.refl _).alloc _)) ⟨_, 0, none⟩ 1 1 [.int .i64 u.d, .bool u.more, .int .i64 u.m, .bool u.s, .string u.nm, .int .i64 u.af, .string u.kg] rfl rfl (held_newsL (Held.new _ _ _)) (by simp [Value.oneCell']) (by unfold maxLen; omega) (by omega) (by simp; omega) ?_; intro p1 wn hown hgrow _ _)
            have gL := own_ext hL ((Ext.refl vb61).alloc (.cells #[.int .i64 u.d, .bool u.more, .int .i64 u.m, .bool u.s, .string u.nm, .int .i64 u.af, .string u.kg] 34))
            have gI := own_ext hI ((Ext.refl vb61).alloc (.cells #[.int .i64 u.d, .bool u.more, .int .i64 u.m, .bool u.s, .string u.nm, .int .i64 u.af, .string u.kg] 34))
            replace hE := (hE.alloc (.cells #[.int .i64 u.d, .bool u.more, .int .i64 u.m, .bool u.s, .string u.nm, .int .i64 u.af, .string u.kg] 34)).grown hgrow (fun q hq => (row_type gL q hq).1)
            replace E := (E.alloc (.cells #[.int .i64 u.d, .bool u.more, .int .i64 u.m, .bool u.s, .string u.nm, .int .i64 u.af, .string u.kg] 34)).grown hgrow (fun q hq => Nat.le_trans hwv (row_type gL q hq).1)
            replace hI := gI.kept hgrow (own_apart gL gI (by decide))
            replace hL := hown
            have hbs2 := hE.size
            clear hown hgrow gL gI hi hz0 hz1 hz2
            obtain ⟨P1, M1, rfl⟩ := own_sl hL
            obtain ⟨i8, hi, hz0, hz1, hz2⟩ := info_parts info_intT
            clear k0 k1 kl a0 a1 a2 a3 a4 a5 a6 al b0 b1 b2 b3 b4 b5 b6 bl
            go_wp2_with (at_builtin; refine wpList_append_own_at _ rfl _ _ 26 rfl v.heap.size 3 i8 (.int .i64 0) 1 8 Tryd.underlying26 hi hz0 hz1 hz2 rfl (by decide) _ _ _ rfl (own_ext hI ((Ext.refl _).alloc _)) ⟨_, 0, none⟩ 1 1 [.int .i64 m] rfl rfl (held_newsL (Held.new _ _ _)) (by simp [Value.oneCell']) (by unfold maxLen; omega) (by omega) (by simp; omega) ?_; intro p2 wn2 hown hgrow _ _)
            have gL := own_ext hL ((Ext.refl wn).alloc (.cells #[.int .i64 m] 3))
            have gI := own_ext hI ((Ext.refl wn).alloc (.cells #[.int .i64 m] 3))
            replace hE := (hE.alloc (.cells #[.int .i64 m] 3)).grown hgrow (fun q hq => (row_type gI q hq).1)
            replace hL := gL.kept hgrow (own_apart gI gL (by decide))
            exact ⟨⟨k + 1, ts ++ [u], gs ++ [m], m, by omega, by omega, by go_num, rfl, by rw [List.length_append, List.flatMap_append]; exact hL, by rw [List.length_append]; unfold intL at hown ⊢; rw [List.map_append]; exact hown, hT2, hE⟩, by simp [intOf]; omega⟩
          · have z0 := BT.frozen 0
            have z4 := BT.frozen 4
            have z6 := BT.frozen 6
            go_upto_region 24 with (fail)
            replace BT := held7_0 BT (.int .i64 0)
            replace E := E.setCell (p := ⟨bb31, 0, none⟩) hbw (.int .i64 0)
            replace hE := hE.setCell (p := ⟨bb31, 0, none⟩) hbv (.int .i64 0)
            replace hL := hL.kept (grown_at w15 bb31 0 (.int .i64 0)) (.inr fun hq => Nat.lt_irrefl _ (hLb.out _ hq))
            replace hI := hI.kept (grown_at w15 bb31 0 (.int .i64 0)) (.inr fun hq => Nat.lt_irrefl _ (hIb.out _ hq))
            replace BT := held7_4 BT (.string ⟨#[]⟩)
            replace E := E.setCell (p := ⟨bb31, 4, none⟩) hbw (.string ⟨#[]⟩)
            replace hE := hE.setCell (p := ⟨bb31, 4, none⟩) hbv (.string ⟨#[]⟩)
            replace hL := hL.kept (grown_at (World.setCell w15 ⟨bb31, 0, none⟩ (.int .i64 0)) bb31 4 (.string ⟨#[]⟩)) (.inr fun hq => Nat.lt_irrefl _ (hLb.out _ hq))
            replace hI := hI.kept (grown_at (World.setCell w15 ⟨bb31, 0, none⟩ (.int .i64 0)) bb31 4 (.string ⟨#[]⟩)) (.inr fun hq => Nat.lt_irrefl _ (hIb.out _ hq))
            replace BT := held7_6 BT (.string ⟨#[]⟩)
            replace E := E.setCell (p := ⟨bb31, 6, none⟩) hbw (.string ⟨#[]⟩)
            replace hE := hE.setCell (p := ⟨bb31, 6, none⟩) hbv (.string ⟨#[]⟩)
            replace hL := hL.kept (grown_at (World.setCell (World.setCell w15 ⟨bb31, 0, none⟩ (.int .i64 0)) ⟨bb31, 4, none⟩ (.string ⟨#[]⟩)) bb31 6 (.string ⟨#[]⟩)) (.inr fun hq => Nat.lt_irrefl _ (hLb.out _ hq))
            replace hI := hI.kept (grown_at (World.setCell (World.setCell w15 ⟨bb31, 0, none⟩ (.int .i64 0)) ⟨bb31, 4, none⟩ (.string ⟨#[]⟩)) bb31 6 (.string ⟨#[]⟩)) (.inr fun hq => Nat.lt_irrefl _ (hIb.out _ hq))
            replace C := C0.ext hE
            replace Z := Z0.ext hE
            replace D := D0.ext hE
            replace G := G0.ext hE
            replace B1 := B10.ext hE
            clear k0 k1 kl e0 e1 e2 e3 el a0 a1 a2 a3 a4 a5 a6 al
            clear z0 z4 z6
            clear BD
            generalize World.setCell _ _ _ = wm at *
            obtain ⟨u, hu⟩ : ∃ u : Tr, u = ⟨0, t.more, t.m, t.s, ⟨#[]⟩, t.af, ⟨#[]⟩⟩ := ⟨_, rfl⟩
            have hmu : u.ok = true ∧ inS (c.spans u) m := by rw [hu]; exact hmk.out true false true true
            replace BT : Held wm bb31 34 #[.int .i64 u.d, .bool u.more, .int .i64 u.m, .bool u.s, .string u.nm, .int .i64 u.af, .string u.kg] := by rw [hu]; exact BT
            clear hu hmk
            obtain ⟨k0, k1⟩ := B1.c2
            have kl := B1.lt
            obtain ⟨a0, a1, a2, a3, a4, a5, a6⟩ := held_u7 BT
            have al := BT.lt
            obtain ⟨S, hS⟩ : ∃ S, S = textS u := ⟨_, rfl⟩
            have NT := fun w => textX_any u w
            simp only [hmu.1, if_true, ← hS] at NT
            have NP := fun w => parseX_any S w (by rw [hS]; exact Nat.le_trans (text_small hmu.1) (by decide))
            have hpv : parseV S = u := by rw [hS]; unfold parseV; rw [parse_text hmu.1]; rfl
            have hpe : parseE S = 0 := by rw [hS]; unfold parseE; rw [parse_text hmu.1]; rfl
            simp only [hpv, hpe] at NP
            replace NP : ∀ w, Calls Tryd.prog 15 #[.string S] w fun e w' => e = .returned (.tuple #[.agg #[.int .i64 u.d, .bool u.more, .int .i64 u.m, .bool u.s, .string u.nm, .int .i64 u.af, .string u.kg], .int .i64 0]) ∧ Ext w w' := NP
            clear hS hpv hpe
            go_upto_region 25 with (go_at_call 14; (with_reducible refine Calls.mono (NT _) ?_); rintro e w24 ⟨rfl, hx⟩; replace E := E.trans hx; replace hE := hE.trans hx; replace hL := own_ext hL hx; replace hI := own_ext hI hx; replace Z := Z.ext hx; replace C := C.ext hx; replace D := D.ext hx; replace G := G.ext hx; replace B1 := B1.ext hx; replace BT := BT.ext hx; clear hx; clear k0 k1 kl a0 a1 a2 a3 a4 a5 a6 al; obtain ⟨k0, k1⟩ := B1.c2; have kl := B1.lt; obtain ⟨a0, a1, a2, a3, a4, a5, a6⟩ := held_u7 BT; have al := BT.lt)
            go_upto_region 26 with (go_at_call 15; (with_reducible refine Calls.mono (NP _) ?_); rintro e w25 ⟨rfl, hx⟩; replace E := E.trans hx; replace hE := hE.trans hx; replace hL := own_ext hL hx; replace hI := own_ext hI hx; replace Z := Z.ext hx; replace C := C.ext hx; replace D := D.ext hx; replace G := G.ext hx; replace B1 := B1.ext hx; replace BT := BT.ext hx; clear hx; clear k0 k1 kl a0 a1 a2 a3 a4 a5 a6 al; obtain ⟨k0, k1⟩ := B1.c2; have kl := B1.lt; obtain ⟨a0, a1, a2, a3, a4, a5, a6⟩ := held_u7 BT; have al := BT.lt)
            obtain ⟨vb61, hv⟩ : ∃ x, x = (w25.alloc (.cells #[.int .i64 u.d, .bool u.more, .int .i64 u.m, .bool u.s, .string u.nm, .int .i64 u.af, .string u.kg] 34)) := ⟨_, rfl⟩
            rw [← hv]
            have hx : Ext w25 vb61 := by rw [hv]; exact (Ext.refl _).alloc _
            have BU : Held vb61 w25.heap.size 34 #[.int .i64 u.d, .bool u.more, .int .i64 u.m, .bool u.s, .string u.nm, .int .i64 u.af, .string u.kg] := by rw [hv]; exact Held.new _ _ _
            clear hv
            generalize w25.heap.size = bb61 at *
            clear k0 k1 kl a0 a1 a2 a3 a4 a5 a6 al
            replace E := E.trans hx
            replace hE := hE.trans hx
            replace hL := own_ext hL hx
            replace hI := own_ext hI hx
            replace Z := Z.ext hx
            replace C := C.ext hx
            replace D := D.ext hx
            replace G := G.ext hx
            replace B1 := B1.ext hx
            replace BT := BT.ext hx
            clear hx
            obtain ⟨k0, k1⟩ := B1.c2
            have kl := B1.lt
            obtain ⟨a0, a1, a2, a3, a4, a5, a6⟩ := held_u7 BT
            have al := BT.lt
            obtain ⟨b0, b1, b2, b3, b4, b5, b6⟩ := held_u7 BU
            have bl := BU.lt
            clear NT NP
            go_upto_region 28 with (fail)
            obtain ⟨i7, hi, hz0, hz1, hz2⟩ := info_parts info_trT
            have hlk := hT.lek
            have hgl : gs.length ≤ 20 := by have := hT.len; have := hT.lek; omega
            have hT2 := hT.snoc hmu.1 hmu.2 hmb.1 hmb.2.1
            have hbs := hE.size
            go_upto_region 29 with (at_builtin; refine wpList_append_own_at _ rfl _ _ 27 rfl v.heap.size 34 i7 (.agg #[.int .i64 0, .bool false, .int .i64 0, .bool false, .string ⟨#[]⟩, .int .i64 0, .string ⟨#[]⟩]) 7 72 Tryd.underlying27 hi hz0 hz1 hz2 rfl (by decide) _ _ _ rfl (own_ext hL ((Ext.refl _).alloc _)) ⟨_, 0, none⟩ 1 1 [.int .i64 u.d, .bool u.more, .int .i64 u.m, .bool u.s, .string u.nm, .int .i64 u.af, .string u.kg] rfl rfl (held_newsL (Held.new _ _ _)) (by simp [Value.oneCell']) (by unfold maxLen; omega) (by omega) (by simp; omega) ?_; intro p1 wn hown hgrow _ _)
            have gL := own_ext hL ((Ext.refl vb61).alloc (.cells #[.int .i64 u.d, .bool u.more, .int .i64 u.m, .bool u.s, .string u.nm, .int .i64 u.af, .string u.kg] 34))
            have gI := own_ext hI ((Ext.refl vb61).alloc (.cells #[.int .i64 u.d, .bool u.more, .int .i64 u.m, .bool u.s, .string u.nm, .int .i64 u.af, .string u.kg] 34))
            replace hE := (hE.alloc (.cells #[.int .i64 u.d, .bool u.more, .int .i64 u.m, .bool u.s, .string u.nm, .int .i64 u.af, .string u.kg] 34)).grown hgrow (fun q hq => (row_type gL q hq).1)
            replace E := (E.alloc (.cells #[.int .i64 u.d, .bool u.more, .int .i64 u.m, .bool u.s, .string u.nm, .int .i64 u.af, .string u.kg] 34)).grown hgrow (fun q hq => Nat.le_trans hwv (row_type gL q hq).1)
            replace hI := gI.kept hgrow (own_apart gL gI (by decide))
            replace hL := hown
            have hbs2 := hE.size
            clear hown hgrow gL gI hi hz0 hz1 hz2
            obtain ⟨P1, M1, rfl⟩ := own_sl hL
            obtain ⟨i8, hi, hz0, hz1, hz2⟩ := info_parts info_intT
            clear k0 k1 kl a0 a1 a2 a3 a4 a5 a6 al b0 b1 b2 b3 b4 b5 b6 bl
            go_wp2_with (at_builtin; refine wpList_append_own_at _ rfl _ _ 26 rfl v.heap.size 3 i8 (.int .i64 0) 1 8 Tryd.underlying26 hi hz0 hz1 hz2 rfl (by decide) _ _ _ rfl (own_ext hI ((Ext.refl _).alloc _)) ⟨_, 0, none⟩ 1 1 [.int .i64 m] rfl rfl (held_newsL (Held.new _ _ _)) (by simp [Value.oneCell']) (by unfold maxLen; omega) (by omega) (by simp; omega) ?_; intro p2 wn2 hown hgrow _ _)
            have gL := own_ext hL ((Ext.refl wn).alloc (.cells #[.int .i64 m] 3))
            have gI := own_ext hI ((Ext.refl wn).alloc (.cells #[.int .i64 m] 3))
            replace hE := (hE.alloc (.cells #[.int .i64 m] 3)).grown hgrow (fun q hq => (row_type gI q hq).1)
            replace hL := gL.kept hgrow (own_apart gI gL (by decide))
            exact ⟨⟨k + 1, ts ++ [u], gs ++ [m], m, by omega, by omega, by go_num, rfl, by rw [List.length_append, List.flatMap_append]; exact hL, by rw [List.length_append]; unfold intL at hown ⊢; rw [List.map_append]; exact hown, hT2, hE⟩, by simp [intOf]; omega⟩
      · cases q3
        · cases q4
          · have z0 := BT.frozen 0
            have z2 := BT.frozen 2
            have z3 := BT.frozen 3
            go_upto_region 24 with (fail)
            replace BT := held7_0 BT (.int .i64 0)
            replace E := E.setCell (p := ⟨bb31, 0, none⟩) hbw (.int .i64 0)
            replace hE := hE.setCell (p := ⟨bb31, 0, none⟩) hbv (.int .i64 0)
            replace hL := hL.kept (grown_at w15 bb31 0 (.int .i64 0)) (.inr fun hq => Nat.lt_irrefl _ (hLb.out _ hq))
            replace hI := hI.kept (grown_at w15 bb31 0 (.int .i64 0)) (.inr fun hq => Nat.lt_irrefl _ (hIb.out _ hq))
            replace BT := held7_2 BT (.int .i64 0)
            replace E := E.setCell (p := ⟨bb31, 2, none⟩) hbw (.int .i64 0)
            replace hE := hE.setCell (p := ⟨bb31, 2, none⟩) hbv (.int .i64 0)
            replace hL := hL.kept (grown_at (World.setCell w15 ⟨bb31, 0, none⟩ (.int .i64 0)) bb31 2 (.int .i64 0)) (.inr fun hq => Nat.lt_irrefl _ (hLb.out _ hq))
            replace hI := hI.kept (grown_at (World.setCell w15 ⟨bb31, 0, none⟩ (.int .i64 0)) bb31 2 (.int .i64 0)) (.inr fun hq => Nat.lt_irrefl _ (hIb.out _ hq))
            replace BT := held7_3 BT (.bool false)
            replace E := E.setCell (p := ⟨bb31, 3, none⟩) hbw (.bool false)
            replace hE := hE.setCell (p := ⟨bb31, 3, none⟩) hbv (.bool false)
            replace hL := hL.kept (grown_at (World.setCell (World.setCell w15 ⟨bb31, 0, none⟩ (.int .i64 0)) ⟨bb31, 2, none⟩ (.int .i64 0)) bb31 3 (.bool false)) (.inr fun hq => Nat.lt_irrefl _ (hLb.out _ hq))
            replace hI := hI.kept (grown_at (World.setCell (World.setCell w15 ⟨bb31, 0, none⟩ (.int .i64 0)) ⟨bb31, 2, none⟩ (.int .i64 0)) bb31 3 (.bool false)) (.inr fun hq => Nat.lt_irrefl _ (hIb.out _ hq))
            replace C := C0.ext hE
            replace Z := Z0.ext hE
            replace D := D0.ext hE
            replace G := G0.ext hE
            replace B1 := B10.ext hE
            clear k0 k1 kl e0 e1 e2 e3 el a0 a1 a2 a3 a4 a5 a6 al
            clear z0 z2 z3
            clear BD
            generalize World.setCell _ _ _ = wm at *
            obtain ⟨u, hu⟩ : ∃ u : Tr, u = ⟨0, t.more, 0, false, t.nm, t.af, t.kg⟩ := ⟨_, rfl⟩
            have hmu : u.ok = true ∧ inS (c.spans u) m := by rw [hu]; exact hmk.out true true false false
            replace BT : Held wm bb31 34 #[.int .i64 u.d, .bool u.more, .int .i64 u.m, .bool u.s, .string u.nm, .int .i64 u.af, .string u.kg] := by rw [hu]; exact BT
            clear hu hmk
            obtain ⟨k0, k1⟩ := B1.c2
            have kl := B1.lt
            obtain ⟨a0, a1, a2, a3, a4, a5, a6⟩ := held_u7 BT
            have al := BT.lt
            obtain ⟨S, hS⟩ : ∃ S, S = textS u := ⟨_, rfl⟩
            have NT := fun w => textX_any u w
            simp only [hmu.1, if_true, ← hS] at NT
            have NP := fun w => parseX_any S w (by rw [hS]; exact Nat.le_trans (text_small hmu.1) (by decide))
            have hpv : parseV S = u := by rw [hS]; unfold parseV; rw [parse_text hmu.1]; rfl
            have hpe : parseE S = 0 := by rw [hS]; unfold parseE; rw [parse_text hmu.1]; rfl
            simp only [hpv, hpe] at NP
            replace NP : ∀ w, Calls Tryd.prog 15 #[.string S] w fun e w' => e = .returned (.tuple #[.agg #[.int .i64 u.d, .bool u.more, .int .i64 u.m, .bool u.s, .string u.nm, .int .i64 u.af, .string u.kg], .int .i64 0]) ∧ Ext w w' := NP
            clear hS hpv hpe
            go_upto_region 25 with (go_at_call 14; (with_reducible refine Calls.mono (NT _) ?_); rintro e w24 ⟨rfl, hx⟩; replace E := E.trans hx; replace hE := hE.trans hx; replace hL := own_ext hL hx; replace hI := own_ext hI hx; replace Z := Z.ext hx; replace C := C.ext hx; replace D := D.ext hx; replace G := G.ext hx; replace B1 := B1.ext hx; replace BT := BT.ext hx; clear hx; clear k0 k1 kl a0 a1 a2 a3 a4 a5 a6 al; obtain ⟨k0, k1⟩ := B1.c2; have kl := B1.lt; obtain ⟨a0, a1, a2, a3, a4, a5, a6⟩ := held_u7 BT; have al := BT.lt)
            go_upto_region 26 with (go_at_call 15; (with_reducible refine Calls.mono (NP _) ?_); rintro e w25 ⟨rfl, hx⟩; replace E := E.trans hx; replace hE := hE.trans hx; replace hL := own_ext hL hx; replace hI := own_ext hI hx; replace Z := Z.ext hx; replace C := C.ext hx; replace D := D.ext hx; replace G := G.ext hx; replace B1 := B1.ext hx; replace BT := BT.ext hx; clear hx; clear k0 k1 kl a0 a1 a2 a3 a4 a5 a6 al; obtain ⟨k0, k1⟩ := B1.c2; have kl := B1.lt; obtain ⟨a0, a1, a2, a3, a4, a5, a6⟩ := held_u7 BT; have al := BT.lt)
            obtain ⟨vb61, hv⟩ : ∃ x, x = (w25.alloc (.cells #[.int .i64 u.d, .bool u.more, .int .i64 u.m, .bool u.s, .string u.nm, .int .i64 u.af, .string u.kg] 34)) := ⟨_, rfl⟩
            rw [← hv]
            have hx : Ext w25 vb61 := by rw [hv]; exact (Ext.refl _).alloc _
            have BU : Held vb61 w25.heap.size 34 #[.int .i64 u.d, .bool u.more, .int .i64 u.m, .bool u.s, .string u.nm, .int .i64 u.af, .string u.kg] := by rw [hv]; exact Held.new _ _ _
            clear hv
            generalize w25.heap.size = bb61 at *
            clear k0 k1 kl a0 a1 a2 a3 a4 a5 a6 al
            replace E := E.trans hx
            replace hE := hE.trans hx
            replace hL := own_ext hL hx
            replace hI := own_ext hI hx
            replace Z := Z.ext hx
            replace C := C.ext hx
            replace D := D.ext hx
            replace G := G.ext hx
            replace B1 := B1.ext hx
            replace BT := BT.ext hx
            clear hx
            obtain ⟨k0, k1⟩ := B1.c2
            have kl := B1.lt
            obtain ⟨a0, a1, a2, a3, a4, a5, a6⟩ := held_u7 BT
            have al := BT.lt
            obtain ⟨b0, b1, b2, b3, b4, b5, b6⟩ := held_u7 BU
            have bl := BU.lt
            clear NT NP
            go_upto_region 28 with (fail)
            obtain ⟨i7, hi, hz0, hz1, hz2⟩ := info_parts info_trT
            have hlk := hT.lek
            have hgl : gs.length ≤ 20 := by have := hT.len; have := hT.lek; omega
            have hT2 := hT.snoc hmu.1 hmu.2 hmb.1 hmb.2.1
            have hbs := hE.size
            go_upto_region 29 with (at_builtin; refine wpList_append_own_at _ rfl _ _ 27 rfl v.heap.size 34 i7 (.agg #[.int .i64 0, .bool false, .int .i64 0, .bool false, .string ⟨#[]⟩, .int .i64 0, .string ⟨#[]⟩]) 7 72 Tryd.underlying27 hi hz0 hz1 hz2 rfl (by decide) _ _ _ rfl (own_ext hL ((Ext.refl _).alloc _)) ⟨_, 0, none⟩ 1 1 [.int .i64 u.d, .bool u.more, .int .i64 u.m, .bool u.s, .string u.nm, .int .i64 u.af, .string u.kg] rfl rfl (held_newsL (Held.new _ _ _)) (by simp [Value.oneCell']) (by unfold maxLen; omega) (by omega) (by simp; omega) ?_; intro p1 wn hown hgrow _ _)
            have gL := own_ext hL ((Ext.refl vb61).alloc (.cells #[.int .i64 u.d, .bool u.more, .int .i64 u.m, .bool u.s, .string u.nm, .int .i64 u.af, .string u.kg] 34))
            have gI := own_ext hI ((Ext.refl vb61).alloc (.cells #[.int .i64 u.d, .bool u.more, .int .i64 u.m, .bool u.s, .string u.nm, .int .i64 u.af, .string u.kg] 34))
            replace hE := (hE.alloc (.cells #[.int .i64 u.d, .bool u.more, .int .i64 u.m, .bool u.s, .string u.nm, .int .i64 u.af, .string u.kg] 34)).grown hgrow (fun q hq => (row_type gL q hq).1)
            replace E := (E.alloc (.cells #[.int .i64 u.d, .bool u.more, .int .i64 u.m, .bool u.s, .string u.nm, .int .i64 u.af, .string u.kg] 34)).grown hgrow (fun q hq => Nat.le_trans hwv (row_type gL q hq).1)
            replace hI := gI.kept hgrow (own_apart gL gI (by decide))
            replace hL := hown
            have hbs2 := hE.size
            clear hown hgrow gL gI hi hz0 hz1 hz2
            obtain ⟨P1, M1, rfl⟩ := own_sl hL
            obtain ⟨i8, hi, hz0, hz1, hz2⟩ := info_parts info_intT
            clear k0 k1 kl a0 a1 a2 a3 a4 a5 a6 al b0 b1 b2 b3 b4 b5 b6 bl
            go_wp2_with (at_builtin; refine wpList_append_own_at _ rfl _ _ 26 rfl v.heap.size 3 i8 (.int .i64 0) 1 8 Tryd.underlying26 hi hz0 hz1 hz2 rfl (by decide) _ _ _ rfl (own_ext hI ((Ext.refl _).alloc _)) ⟨_, 0, none⟩ 1 1 [.int .i64 m] rfl rfl (held_newsL (Held.new _ _ _)) (by simp [Value.oneCell']) (by unfold maxLen; omega) (by omega) (by simp; omega) ?_; intro p2 wn2 hown hgrow _ _)
            have gL := own_ext hL ((Ext.refl wn).alloc (.cells #[.int .i64 m] 3))
            have gI := own_ext hI ((Ext.refl wn).alloc (.cells #[.int .i64 m] 3))
            replace hE := (hE.alloc (.cells #[.int .i64 m] 3)).grown hgrow (fun q hq => (row_type gI q hq).1)
            replace hL := gL.kept hgrow (own_apart gI gL (by decide))
            exact ⟨⟨k + 1, ts ++ [u], gs ++ [m], m, by omega, by omega, by go_num, rfl, by rw [List.length_append, List.flatMap_append]; exact hL, by rw [List.length_append]; unfold intL at hown ⊢; rw [List.map_append]; exact hown, hT2, hE⟩, by simp [intOf]; omega⟩
          · have z0 := BT.frozen 0
            have z2 := BT.frozen 2
            have z3 := BT.frozen 3
            have z6 := BT.frozen 6
            go_upto_region 24 with (fail)
            replace BT := held7_0 BT (.int .i64 0)
            replace E := E.setCell (p := ⟨bb31, 0, none⟩) hbw (.int .i64 0)
            replace hE := hE.setCell (p := ⟨bb31, 0, none⟩) hbv (.int .i64 0)
            replace hL := hL.kept (grown_at w15 bb31 0 (.int .i64 0)) (.inr fun hq => Nat.lt_irrefl _ (hLb.out _ hq))
            replace hI := hI.kept (grown_at w15 bb31 0 (.int .i64 0)) (.inr fun hq => Nat.lt_irrefl _ (hIb.out _ hq))
            replace BT := held7_2 BT (.int .i64 0)
            replace E := E.setCell (p := ⟨bb31, 2, none⟩) hbw (.int .i64 0)
            replace hE := hE.setCell (p := ⟨bb31, 2, none⟩) hbv (.int .i64 0)
            replace hL := hL.kept (grown_at (World.setCell w15 ⟨bb31, 0, none⟩ (.int .i64 0)) bb31 2 (.int .i64 0)) (.inr fun hq => Nat.lt_irrefl _ (hLb.out _ hq))
            replace hI := hI.kept (grown_at (World.setCell w15 ⟨bb31, 0, none⟩ (.int .i64 0)) bb31 2 (.int .i64 0)) (.inr fun hq => Nat.lt_irrefl _ (hIb.out _ hq))
            replace BT := held7_3 BT (.bool false)
            replace E := E.setCell (p := ⟨bb31, 3, none⟩) hbw (.bool false)
            replace hE := hE.setCell (p := ⟨bb31, 3, none⟩) hbv (.bool false)
            replace hL := hL.kept (grown_at (World.setCell (World.setCell w15 ⟨bb31, 0, none⟩ (.int .i64 0)) ⟨bb31, 2, none⟩ (.int .i64 0)) bb31 3 (.bool false)) (.inr fun hq => Nat.lt_irrefl _ (hLb.out _ hq))
            replace hI := hI.kept (grown_at (World.setCell (World.setCell w15 ⟨bb31, 0, none⟩ (.int .i64 0)) ⟨bb31, 2, none⟩ (.int .i64 0)) bb31 3 (.bool false)) (.inr fun hq => Nat.lt_irrefl _ (hIb.out _ hq))
            replace BT := held7_6 BT (.string ⟨#[]⟩)
            replace E := E.setCell (p := ⟨bb31, 6, none⟩) hbw (.string ⟨#[]⟩)
            replace hE := hE.setCell (p := ⟨bb31, 6, none⟩) hbv (.string ⟨#[]⟩)
            replace hL := hL.kept (grown_at (World.setCell (World.setCell (World.setCell w15 ⟨bb31, 0, none⟩ (.int .i64 0)) ⟨bb31, 2, none⟩ (.int .i64 0)) ⟨bb31, 3, none⟩ (.bool false)) bb31 6 (.string ⟨#[]⟩)) (.inr fun hq => Nat.lt_irrefl _ (hLb.out _ hq))
            replace hI := hI.kept (grown_at (World.setCell (World.setCell (World.setCell w15 ⟨bb31, 0, none⟩ (.int .i64 0)) ⟨bb31, 2, none⟩ (.int .i64 0)) ⟨bb31, 3, none⟩ (.bool false)) bb31 6 (.string ⟨#[]⟩)) (.inr fun hq => Nat.lt_irrefl _ (hIb.out _ hq))
            replace C := C0.ext hE
            replace Z := Z0.ext hE
            replace D := D0.ext hE
            replace G := G0.ext hE
            replace B1 := B10.ext hE
            clear k0 k1 kl e0 e1 e2 e3 el a0 a1 a2 a3 a4 a5 a6 al
            clear z0 z2 z3 z6
            clear BD
            generalize World.setCell _ _ _ = wm at *
            obtain ⟨u, hu⟩ : ∃ u : Tr, u = ⟨0, t.more, 0, false, t.nm, t.af, ⟨#[]⟩⟩ := ⟨_, rfl⟩
            have hmu : u.ok = true ∧ inS (c.spans u) m := by rw [hu]; exact hmk.out true true false true
            replace BT : Held wm bb31 34 #[.int .i64 u.d, .bool u.more, .int .i64 u.m, .bool u.s, .string u.nm, .int .i64 u.af, .string u.kg] := by rw [hu]; exact BT
            clear hu hmk
            obtain ⟨k0, k1⟩ := B1.c2
            have kl := B1.lt
            obtain ⟨a0, a1, a2, a3, a4, a5, a6⟩ := held_u7 BT
            have al := BT.lt
            obtain ⟨S, hS⟩ : ∃ S, S = textS u := ⟨_, rfl⟩
            have NT := fun w => textX_any u w
            simp only [hmu.1, if_true, ← hS] at NT
            have NP := fun w => parseX_any S w (by rw [hS]; exact Nat.le_trans (text_small hmu.1) (by decide))
            have hpv : parseV S = u := by rw [hS]; unfold parseV; rw [parse_text hmu.1]; rfl
            have hpe : parseE S = 0 := by rw [hS]; unfold parseE; rw [parse_text hmu.1]; rfl
            simp only [hpv, hpe] at NP
            replace NP : ∀ w, Calls Tryd.prog 15 #[.string S] w fun e w' => e = .returned (.tuple #[.agg #[.int .i64 u.d, .bool u.more, .int .i64 u.m, .bool u.s, .string u.nm, .int .i64 u.af, .string u.kg], .int .i64 0]) ∧ Ext w w' := NP
            clear hS hpv hpe
            go_upto_region 25 with (go_at_call 14; (with_reducible refine Calls.mono (NT _) ?_); rintro e w24 ⟨rfl, hx⟩; replace E := E.trans hx; replace hE := hE.trans hx; replace hL := own_ext hL hx; replace hI := own_ext hI hx; replace Z := Z.ext hx; replace C := C.ext hx; replace D := D.ext hx; replace G := G.ext hx; replace B1 := B1.ext hx; replace BT := BT.ext hx; clear hx; clear k0 k1 kl a0 a1 a2 a3 a4 a5 a6 al; obtain ⟨k0, k1⟩ := B1.c2; have kl := B1.lt; obtain ⟨a0, a1, a2, a3, a4, a5, a6⟩ := held_u7 BT; have al := BT.lt)
            go_upto_region 26 with (go_at_call 15; (with_reducible refine Calls.mono (NP _) ?_); rintro e w25 ⟨rfl, hx⟩; replace E := E.trans hx; replace hE := hE.trans hx; replace hL := own_ext hL hx; replace hI := own_ext hI hx; replace Z := Z.ext hx; replace C := C.ext hx; replace D := D.ext hx; replace G := G.ext hx; replace B1 := B1.ext hx; replace BT := BT.ext hx; clear hx; clear k0 k1 kl a0 a1 a2 a3 a4 a5 a6 al; obtain ⟨k0, k1⟩ := B1.c2; have kl := B1.lt; obtain ⟨a0, a1, a2, a3, a4, a5, a6⟩ := held_u7 BT; have al := BT.lt)
            obtain ⟨vb61, hv⟩ : ∃ x, x = (w25.alloc (.cells #[.int .i64 u.d, .bool u.more, .int .i64 u.m, .bool u.s, .string u.nm, .int .i64 u.af, .string u.kg] 34)) := ⟨_, rfl⟩
            rw [← hv]
            have hx : Ext w25 vb61 := by rw [hv]; exact (Ext.refl _).alloc _
            have BU : Held vb61 w25.heap.size 34 #[.int .i64 u.d, .bool u.more, .int .i64 u.m, .bool u.s, .string u.nm, .int .i64 u.af, .string u.kg] := by rw [hv]; exact Held.new _ _ _
            clear hv
            generalize w25.heap.size = bb61 at *
            clear k0 k1 kl a0 a1 a2 a3 a4 a5 a6 al
            replace E := E.trans hx
            replace hE := hE.trans hx
            replace hL := own_ext hL hx
            replace hI := own_ext hI hx
            replace Z := Z.ext hx
            replace C := C.ext hx
            replace D := D.ext hx
            replace G := G.ext hx
            replace B1 := B1.ext hx
            replace BT := BT.ext hx
            clear hx
            obtain ⟨k0, k1⟩ := B1.c2
            have kl := B1.lt
            obtain ⟨a0, a1, a2, a3, a4, a5, a6⟩ := held_u7 BT
            have al := BT.lt
            obtain ⟨b0, b1, b2, b3, b4, b5, b6⟩ := held_u7 BU
            have bl := BU.lt
            clear NT NP
            go_upto_region 28 with (fail)
            obtain ⟨i7, hi, hz0, hz1, hz2⟩ := info_parts info_trT
            have hlk := hT.lek
            have hgl : gs.length ≤ 20 := by have := hT.len; have := hT.lek; omega
            have hT2 := hT.snoc hmu.1 hmu.2 hmb.1 hmb.2.1
            have hbs := hE.size
            go_upto_region 29 with (at_builtin; refine wpList_append_own_at _ rfl _ _ 27 rfl v.heap.size 34 i7 (.agg #[.int .i64 0, .bool false, .int .i64 0, .bool false, .string ⟨#[]⟩, .int .i64 0, .string ⟨#[]⟩]) 7 72 Tryd.underlying27 hi hz0 hz1 hz2 rfl (by decide) _ _ _ rfl (own_ext hL ((Ext.refl _).alloc _)) ⟨_, 0, none⟩ 1 1 [.int .i64 u.d, .bool u.more, .int .i64 u.m, .bool u.s, .string u.nm, .int .i64 u.af, .string u.kg] rfl rfl (held_newsL (Held.new _ _ _)) (by simp [Value.oneCell']) (by unfold maxLen; omega) (by omega) (by simp; omega) ?_; intro p1 wn hown hgrow _ _)
            have gL := own_ext hL ((Ext.refl vb61).alloc (.cells #[.int .i64 u.d, .bool u.more, .int .i64 u.m, .bool u.s, .string u.nm, .int .i64 u.af, .string u.kg] 34))
            have gI := own_ext hI ((Ext.refl vb61).alloc (.cells #[.int .i64 u.d, .bool u.more, .int .i64 u.m, .bool u.s, .string u.nm, .int .i64 u.af, .string u.kg] 34))
            replace hE := (hE.alloc (.cells #[.int .i64 u.d, .bool u.more, .int .i64 u.m, .bool u.s, .string u.nm, .int .i64 u.af, .string u.kg] 34)).grown hgrow (fun q hq => (row_type gL q hq).1)
            replace E := (E.alloc (.cells #[.int .i64 u.d, .bool u.more, .int .i64 u.m, .bool u.s, .string u.nm, .int .i64 u.af, .string u.kg] 34)).grown hgrow (fun q hq => Nat.le_trans hwv (row_type gL q hq).1)
            replace hI := gI.kept hgrow (own_apart gL gI (by decide))
            replace hL := hown
            have hbs2 := hE.size
            clear hown hgrow gL gI hi hz0 hz1 hz2
            obtain ⟨P1, M1, rfl⟩ := own_sl hL
            obtain ⟨i8, hi, hz0, hz1, hz2⟩ := info_parts info_intT
            clear k0 k1 kl a0 a1 a2 a3 a4 a5 a6 al b0 b1 b2 b3 b4 b5 b6 bl
            go_wp2_with (at_builtin; refine wpList_append_own_at _ rfl _ _ 26 rfl v.heap.size 3 i8 (.int .i64 0) 1 8 Tryd.underlying26 hi hz0 hz1 hz2 rfl (by decide) _ _ _ rfl (own_ext hI ((Ext.refl _).alloc _)) ⟨_, 0, none⟩ 1 1 [.int .i64 m] rfl rfl (held_newsL (Held.new _ _ _)) (by simp [Value.oneCell']) (by unfold maxLen; omega) (by omega) (by simp; omega) ?_; intro p2 wn2 hown hgrow _ _)
            have gL := own_ext hL ((Ext.refl wn).alloc (.cells #[.int .i64 m] 3))
            have gI := own_ext hI ((Ext.refl wn).alloc (.cells #[.int .i64 m] 3))
            replace hE := (hE.alloc (.cells #[.int .i64 m] 3)).grown hgrow (fun q hq => (row_type gI q hq).1)
            replace hL := gL.kept hgrow (own_apart gI gL (by decide))
            exact ⟨⟨k + 1, ts ++ [u], gs ++ [m], m, by omega, by omega, by go_num, rfl, by rw [List.length_append, List.flatMap_append]; exact hL, by rw [List.length_append]; unfold intL at hown ⊢; rw [List.map_append]; exact hown, hT2, hE⟩, by simp [intOf]; omega⟩
        · cases q4
          · have z0 := BT.frozen 0
            have z2 := BT.frozen 2
            have z3 := BT.frozen 3
            have z4 := BT.frozen 4
            go_upto_region 24 with (fail)
            replace BT := held7_0 BT (.int .i64 0)
            replace E := E.setCell (p := ⟨bb31, 0, none⟩) hbw (.int .i64 0)
            replace hE := hE.setCell (p := ⟨bb31, 0, none⟩) hbv (.int .i64 0)
            replace hL := hL.kept (grown_at w15 bb31 0 (.int .i64 0)) (.inr fun hq => Nat.lt_irrefl _ (hLb.out _ hq))
            replace hI := hI.kept (grown_at w15 bb31 0 (.int .i64 0)) (.inr fun hq => Nat.lt_irrefl _ (hIb.out _ hq))
            replace BT := held7_2 BT (.int .i64 0)
            replace E := E.setCell (p := ⟨bb31, 2, none⟩) hbw (.int .i64 0)
            replace hE := hE.setCell (p := ⟨bb31, 2, none⟩) hbv (.int .i64 0)
            replace hL := hL.kept (grown_at (World.setCell w15 ⟨bb31, 0, none⟩ (.int .i64 0)) bb31 2 (.int .i64 0)) (.inr fun hq => Nat.lt_irrefl _ (hLb.out _ hq))
            replace hI := hI.kept (grown_at (World.setCell w15 ⟨bb31, 0, none⟩ (.int .i64 0)) bb31 2 (.int .i64 0)) (.inr fun hq => Nat.lt_irrefl _ (hIb.out _ hq))
            replace BT := held7_3 BT (.bool false)
            replace E := E.setCell (p := ⟨bb31, 3, none⟩) hbw (.bool false)
            replace hE := hE.setCell (p := ⟨bb31, 3, none⟩) hbv (.bool false)
            replace hL := hL.kept (grown_at (World.setCell (World.setCell w15 ⟨bb31, 0, none⟩ (.int .i64 0)) ⟨bb31, 2, none⟩ (.int .i64 0)) bb31 3 (.bool false)) (.inr fun hq => Nat.lt_irrefl _ (hLb.out _ hq))
            replace hI := hI.kept (grown_at (World.setCell (World.setCell w15 ⟨bb31, 0, none⟩ (.int .i64 0)) ⟨bb31, 2, none⟩ (.int .i64 0)) bb31 3 (.bool false)) (.inr fun hq => Nat.lt_irrefl _ (hIb.out _ hq))
            replace BT := held7_4 BT (.string ⟨#[]⟩)
            replace E := E.setCell (p := ⟨bb31, 4, none⟩) hbw (.string ⟨#[]⟩)
            replace hE := hE.setCell (p := ⟨bb31, 4, none⟩) hbv (.string ⟨#[]⟩)
            replace hL := hL.kept (grown_at (World.setCell (World.setCell (World.setCell w15 ⟨bb31, 0, none⟩ (.int .i64 0)) ⟨bb31, 2, none⟩ (.int .i64 0)) ⟨bb31, 3, none⟩ (.bool false)) bb31 4 (.string ⟨#[]⟩)) (.inr fun hq => Nat.lt_irrefl _ (hLb.out _ hq))
            replace hI := hI.kept (grown_at (World.setCell (World.setCell (World.setCell w15 ⟨bb31, 0, none⟩ (.int .i64 0)) ⟨bb31, 2, none⟩ (.int .i64 0)) ⟨bb31, 3, none⟩ (.bool false)) bb31 4 (.string ⟨#[]⟩)) (.inr fun hq => Nat.lt_irrefl _ (hIb.out _ hq))
            replace C := C0.ext hE
            replace Z := Z0.ext hE
            replace D := D0.ext hE
            replace G := G0.ext hE
            replace B1 := B10.ext hE
            clear k0 k1 kl e0 e1 e2 e3 el a0 a1 a2 a3 a4 a5 a6 al
            clear z0 z2 z3 z4
            clear BD
            generalize World.setCell _ _ _ = wm at *
            obtain ⟨u, hu⟩ : ∃ u : Tr, u = ⟨0, t.more, 0, false, ⟨#[]⟩, t.af, t.kg⟩ := ⟨_, rfl⟩
            have hmu : u.ok = true ∧ inS (c.spans u) m := by rw [hu]; exact hmk.out true true true false
            replace BT : Held wm bb31 34 #[.int .i64 u.d, .bool u.more, .int .i64 u.m, .bool u.s, .string u.nm, .int .i64 u.af, .string u.kg] := by rw [hu]; exact BT
            clear hu hmk
            obtain ⟨k0, k1⟩ := B1.c2
            have kl := B1.lt
            obtain ⟨a0, a1, a2, a3, a4, a5, a6⟩ := held_u7 BT
            have al := BT.lt
            obtain ⟨S, hS⟩ : ∃ S, S = textS u := ⟨_, rfl⟩
            have NT := fun w => textX_any u w
            simp only [hmu.1, if_true, ← hS] at NT
            have NP := fun w => parseX_any S w (by rw [hS]; exact Nat.le_trans (text_small hmu.1) (by decide))
            have hpv : parseV S = u := by rw [hS]; unfold parseV; rw [parse_text hmu.1]; rfl
            have hpe : parseE S = 0 := by rw [hS]; unfold parseE; rw [parse_text hmu.1]; rfl
            simp only [hpv, hpe] at NP
            replace NP : ∀ w, Calls Tryd.prog 15 #[.string S] w fun e w' => e = .returned (.tuple #[.agg #[.int .i64 u.d, .bool u.more, .int .i64 u.m, .bool u.s, .string u.nm, .int .i64 u.af, .string u.kg], .int .i64 0]) ∧ Ext w w' := NP
            clear hS hpv hpe
            go_upto_region 25 with (go_at_call 14; (with_reducible refine Calls.mono (NT _) ?_); rintro e w24 ⟨rfl, hx⟩; replace E := E.trans hx; replace hE := hE.trans hx; replace hL := own_ext hL hx; replace hI := own_ext hI hx; replace Z := Z.ext hx; replace C := C.ext hx; replace D := D.ext hx; replace G := G.ext hx; replace B1 := B1.ext hx; replace BT := BT.ext hx; clear hx; clear k0 k1 kl a0 a1 a2 a3 a4 a5 a6 al; obtain ⟨k0, k1⟩ := B1.c2; have kl := B1.lt; obtain ⟨a0, a1, a2, a3, a4, a5, a6⟩ := held_u7 BT; have al := BT.lt)
            go_upto_region 26 with (go_at_call 15; (with_reducible refine Calls.mono (NP _) ?_); rintro e w25 ⟨rfl, hx⟩; replace E := E.trans hx; replace hE := hE.trans hx; replace hL := own_ext hL hx; replace hI := own_ext hI hx; replace Z := Z.ext hx; replace C := C.ext hx; replace D := D.ext hx; replace G := G.ext hx; replace B1 := B1.ext hx; replace BT := BT.ext hx; clear hx; clear k0 k1 kl a0 a1 a2 a3 a4 a5 a6 al; obtain ⟨k0, k1⟩ := B1.c2; have kl := B1.lt; obtain ⟨a0, a1, a2, a3, a4, a5, a6⟩ := held_u7 BT; have al := BT.lt)
            obtain ⟨vb61, hv⟩ : ∃ x, x = (w25.alloc (.cells #[.int .i64 u.d, .bool u.more, .int .i64 u.m, .bool u.s, .string u.nm, .int .i64 u.af, .string u.kg] 34)) := ⟨_, rfl⟩
            rw [← hv]
            have hx : Ext w25 vb61 := by rw [hv]; exact (Ext.refl _).alloc _
            have BU : Held vb61 w25.heap.size 34 #[.int .i64 u.d, .bool u.more, .int .i64 u.m, .bool u.s, .string u.nm, .int .i64 u.af, .string u.kg] := by rw [hv]; exact Held.new _ _ _
            clear hv
            generalize w25.heap.size = bb61 at *
            clear k0 k1 kl a0 a1 a2 a3 a4 a5 a6 al
            replace E := E.trans hx
            replace hE := hE.trans hx
            replace hL := own_ext hL hx
            replace hI := own_ext hI hx
            replace Z := Z.ext hx
            replace C := C.ext hx
            replace D := D.ext hx
            replace G := G.ext hx
            replace B1 := B1.ext hx
            replace BT := BT.ext hx
            clear hx
            obtain ⟨k0, k1⟩ := B1.c2
            have kl := B1.lt
            obtain ⟨a0, a1, a2, a3, a4, a5, a6⟩ := held_u7 BT
            have al := BT.lt
            obtain ⟨b0, b1, b2, b3, b4, b5, b6⟩ := held_u7 BU
            have bl := BU.lt
            clear NT NP
            go_upto_region 28 with (fail)
            obtain ⟨i7, hi, hz0, hz1, hz2⟩ := info_parts info_trT
            have hlk := hT.lek
            have hgl : gs.length ≤ 20 := by have := hT.len; have := hT.lek; omega
            have hT2 := hT.snoc hmu.1 hmu.2 hmb.1 hmb.2.1
            have hbs := hE.size
            go_upto_region 29 with (at_builtin; refine wpList_append_own_at _ rfl _ _ 27 rfl v.heap.size 34 i7 (.agg #[.int .i64 0, .bool false, .int .i64 0, .bool false, .string ⟨#[]⟩, .int .i64 0, .string ⟨#[]⟩]) 7 72 Tryd.underlying27 hi hz0 hz1 hz2 rfl (by decide) _ _ _ rfl (own_ext hL ((Ext.refl _).alloc _)) ⟨_, 0, none⟩ 1 1 [.int .i64 u.d, .bool u.more, .int .i64 u.m, .bool u.s, .string u.nm, .int .i64 u.af, .string u.kg] rfl rfl (held_newsL (Held.new _ _ _)) (by simp [Value.oneCell']) (by unfold maxLen; omega) (by omega) (by simp; omega) ?_; intro p1 wn hown hgrow _ _)
            have gL := own_ext hL ((Ext.refl vb61).alloc (.cells #[.int .i64 u.d, .bool u.more, .int .i64 u.m, .bool u.s, .string u.nm, .int .i64 u.af, .string u.kg] 34))
            have gI := own_ext hI ((Ext.refl vb61).alloc (.cells #[.int .i64 u.d, .bool u.more, .int .i64 u.m, .bool u.s, .string u.nm, .int .i64 u.af, .string u.kg] 34))
            replace hE := (hE.alloc (.cells #[.int .i64 u.d, .bool u.more, .int .i64 u.m, .bool u.s, .string u.nm, .int .i64 u.af, .string u.kg] 34)).grown hgrow (fun q hq => (row_type gL q hq).1)
            replace E := (E.alloc (.cells #[.int .i64 u.d, .bool u.more, .int .i64 u.m, .bool u.s, .string u.nm, .int .i64 u.af, .string u.kg] 34)).grown hgrow (fun q hq => Nat.le_trans hwv (row_type gL q hq).1)
            replace hI := gI.kept hgrow (own_apart gL gI (by decide))
            replace hL := hown
            have hbs2 := hE.size
            clear hown hgrow gL gI hi hz0 hz1 hz2
            obtain ⟨P1, M1, rfl⟩ := own_sl hL
            obtain ⟨i8, hi, hz0, hz1, hz2⟩ := info_parts info_intT
            clear k0 k1 kl a0 a1 a2 a3 a4 a5 a6 al b0 b1 b2 b3 b4 b5 b6 bl
            go_wp2_with (at_builtin; refine wpList_append_own_at _ rfl _ _ 26 rfl v.heap.size 3 i8 (.int .i64 0) 1 8 Tryd.underlying26 hi hz0 hz1 hz2 rfl (by decide) _ _ _ rfl (own_ext hI ((Ext.refl _).alloc _)) ⟨_, 0, none⟩ 1 1 [.int .i64 m] rfl rfl (held_newsL (Held.new _ _ _)) (by simp [Value.oneCell']) (by unfold maxLen; omega) (by omega) (by simp; omega) ?_; intro p2 wn2 hown hgrow _ _)
            have gL := own_ext hL ((Ext.refl wn).alloc (.cells #[.int .i64 m] 3))
            have gI := own_ext hI ((Ext.refl wn).alloc (.cells #[.int .i64 m] 3))
            replace hE := (hE.alloc (.cells #[.int .i64 m] 3)).grown hgrow (fun q hq => (row_type gI q hq).1)
            replace hL := gL.kept hgrow (own_apart gI gL (by decide))
            exact ⟨⟨k + 1, ts ++ [u], gs ++ [m], m, by omega, by omega, by go_num, rfl, by rw [List.length_append, List.flatMap_append]; exact hL, by rw [List.length_append]; unfold intL at hown ⊢; rw [List.map_append]; exact hown, hT2, hE⟩, by simp [intOf]; omega⟩
          · have z0 := BT.frozen 0
            have z2 := BT.frozen 2
            have z3 := BT.frozen 3
            have z4 := BT.frozen 4
            have z6 := BT.frozen 6
            go_upto_region 24 with (fail)
            replace BT := held7_0 BT (.int .i64 0)
            replace E := E.setCell (p := ⟨bb31, 0, none⟩) hbw (.int .i64 0)
            replace hE := hE.setCell (p := ⟨bb31, 0, none⟩) hbv (.int .i64 0)
            replace hL := hL.kept (grown_at w15 bb31 0 (.int .i64 0)) (.inr fun hq => Nat.lt_irrefl _ (hLb.out _ hq))
            replace hI := hI.kept (grown_at w15 bb31 0 (.int .i64 0)) (.inr fun hq => Nat.lt_irrefl _ (hIb.out _ hq))
            replace BT := held7_2 BT (.int .i64 0)
            replace E := E.setCell (p := ⟨bb31, 2, none⟩) hbw (.int .i64 0)
            replace hE := hE.setCell (p := ⟨bb31, 2, none⟩) hbv (.int .i64 0)
            replace hL := hL.kept (grown_at (World.setCell w15 ⟨bb31, 0, none⟩ (.int .i64 0)) bb31 2 (.int .i64 0)) (.inr fun hq => Nat.lt_irrefl _ (hLb.out _ hq))
            replace hI := hI.kept (grown_at (World.setCell w15 ⟨bb31, 0, none⟩ (.int .i64 0)) bb31 2 (.int .i64 0)) (.inr fun hq => Nat.lt_irrefl _ (hIb.out _ hq))
            replace BT := held7_3 BT (.bool false)
            replace E := E.setCell (p := ⟨bb31, 3, none⟩) hbw (.bool false)
            replace hE := hE.setCell (p := ⟨bb31, 3, none⟩) hbv (.bool false)
            replace hL := hL.kept (grown_at (World.setCell (World.setCell w15 ⟨bb31, 0, none⟩ (.int .i64 0)) ⟨bb31, 2, none⟩ (.int .i64 0)) bb31 3 (.bool false)) (.inr fun hq => Nat.lt_irrefl _ (hLb.out _ hq))
            replace hI := hI.kept (grown_at (World.setCell (World.setCell w15 ⟨bb31, 0, none⟩ (.int .i64 0)) ⟨bb31, 2, none⟩ (.int .i64 0)) bb31 3 (.bool false)) (.inr fun hq => Nat.lt_irrefl _ (hIb.out _ hq))
            replace BT := held7_4 BT (.string ⟨#[]⟩)
            replace E := E.setCell (p := ⟨bb31, 4, none⟩) hbw (.string ⟨#[]⟩)
            replace hE := hE.setCell (p := ⟨bb31, 4, none⟩) hbv (.string ⟨#[]⟩)
            replace hL := hL.kept (grown_at (World.setCell (World.setCell (World.setCell w15 ⟨bb31, 0, none⟩ (.int .i64 0)) ⟨bb31, 2, none⟩ (.int .i64 0)) ⟨bb31, 3, none⟩ (.bool false)) bb31 4 (.string ⟨#[]⟩)) (.inr fun hq => Nat.lt_irrefl _ (hLb.out _ hq))
            replace hI := hI.kept (grown_at (World.setCell (World.setCell (World.setCell w15 ⟨bb31, 0, none⟩ (.int .i64 0)) ⟨bb31, 2, none⟩ (.int .i64 0)) ⟨bb31, 3, none⟩ (.bool false)) bb31 4 (.string ⟨#[]⟩)) (.inr fun hq => Nat.lt_irrefl _ (hIb.out _ hq))
            replace BT := held7_6 BT (.string ⟨#[]⟩)
            replace E := E.setCell (p := ⟨bb31, 6, none⟩) hbw (.string ⟨#[]⟩)
            replace hE := hE.setCell (p := ⟨bb31, 6, none⟩) hbv (.string ⟨#[]⟩)
            replace hL := hL.kept (grown_at (World.setCell (World.setCell (World.setCell (World.setCell w15 ⟨bb31, 0, none⟩ (.int .i64 0)) ⟨bb31, 2, none⟩ (.int .i64 0)) ⟨bb31, 3, none⟩ (.bool false)) ⟨bb31, 4, none⟩ (.string ⟨#[]⟩)) bb31 6 (.string ⟨#[]⟩)) (.inr fun hq => Nat.lt_irrefl _ (hLb.out _ hq))
            replace hI := hI.kept (grown_at (World.setCell (World.setCell (World.setCell (World.setCell w15 ⟨bb31, 0, none⟩ (.int .i64 0)) ⟨bb31, 2, none⟩ (.int .i64 0)) ⟨bb31, 3, none⟩ (.bool false)) ⟨bb31, 4, none⟩ (.string ⟨#[]⟩)) bb31 6 (.string ⟨#[]⟩)) (.inr fun hq => Nat.lt_irrefl _ (hIb.out _ hq))
            replace C := C0.ext hE
            replace Z := Z0.ext hE
            replace D := D0.ext hE
            replace G := G0.ext hE
            replace B1 := B10.ext hE
            clear k0 k1 kl e0 e1 e2 e3 el a0 a1 a2 a3 a4 a5 a6 al
            clear z0 z2 z3 z4 z6
            clear BD
            generalize World.setCell _ _ _ = wm at *
            obtain ⟨u, hu⟩ : ∃ u : Tr, u = ⟨0, t.more, 0, false, ⟨#[]⟩, t.af, ⟨#[]⟩⟩ := ⟨_, rfl⟩
            have hmu : u.ok = true ∧ inS (c.spans u) m := by rw [hu]; exact hmk.out true true true true
            replace BT : Held wm bb31 34 #[.int .i64 u.d, .bool u.more, .int .i64 u.m, .bool u.s, .string u.nm, .int .i64 u.af, .string u.kg] := by rw [hu]; exact BT
            clear hu hmk
            obtain ⟨k0, k1⟩ := B1.c2
            have kl := B1.lt
            obtain ⟨a0, a1, a2, a3, a4, a5, a6⟩ := held_u7 BT
            have al := BT.lt
            obtain ⟨S, hS⟩ : ∃ S, S = textS u := ⟨_, rfl⟩
            have NT := fun w => textX_any u w
            simp only [hmu.1, if_true, ← hS] at NT
            have NP := fun w => parseX_any S w (by rw [hS]; exact Nat.le_trans (text_small hmu.1) (by decide))
            have hpv : parseV S = u := by rw [hS]; unfold parseV; rw [parse_text hmu.1]; rfl
            have hpe : parseE S = 0 := by rw [hS]; unfold parseE; rw [parse_text hmu.1]; rfl
            simp only [hpv, hpe] at NP
            replace NP : ∀ w, Calls Tryd.prog 15 #[.string S] w fun e w' => e = .returned (.tuple #[.agg #[.int .i64 u.d, .bool u.more, .int .i64 u.m, .bool u.s, .string u.nm, .int .i64 u.af, .string u.kg], .int .i64 0]) ∧ Ext w w' := NP
            clear hS hpv hpe
            go_upto_region 25 with (go_at_call 14; (with_reducible refine Calls.mono (NT _) ?_); rintro e w24 ⟨rfl, hx⟩; replace E := E.trans hx; replace hE := hE.trans hx; replace hL := own_ext hL hx; replace hI := own_ext hI hx; replace Z := Z.ext hx; replace C := C.ext hx; replace D := D.ext hx; replace G := G.ext hx; replace B1 := B1.ext hx; replace BT := BT.ext hx; clear hx; clear k0 k1 kl a0 a1 a2 a3 a4 a5 a6 al; obtain ⟨k0, k1⟩ := B1.c2; have kl := B1.lt; obtain ⟨a0, a1, a2, a3, a4, a5, a6⟩ := held_u7 BT; have al := BT.lt)
            go_upto_region 26 with (go_at_call 15; (with_reducible refine Calls.mono (NP _) ?_); rintro e w25 ⟨rfl, hx⟩; replace E := E.trans hx; replace hE := hE.trans hx; replace hL := own_ext hL hx; replace hI := own_ext hI hx; replace Z := Z.ext hx; replace C := C.ext hx; replace D := D.ext hx; replace G := G.ext hx; replace B1 := B1.ext hx; replace BT := BT.ext hx; clear hx; clear k0 k1 kl a0 a1 a2 a3 a4 a5 a6 al; obtain ⟨k0, k1⟩ := B1.c2; have kl := B1.lt; obtain ⟨a0, a1, a2, a3, a4, a5, a6⟩ := held_u7 BT; have al := BT.lt)
            obtain ⟨vb61, hv⟩ : ∃ x, x = (w25.alloc (.cells #[.int .i64 u.d, .bool u.more, .int .i64 u.m, .bool u.s, .string u.nm, .int .i64 u.af, .string u.kg] 34)) := ⟨_, rfl⟩
            rw [← hv]
            have hx : Ext w25 vb61 := by rw [hv]; exact (Ext.refl _).alloc _
            have BU : Held vb61 w25.heap.size 34 #[.int .i64 u.d, .bool u.more, .int .i64 u.m, .bool u.s, .string u.nm, .int .i64 u.af, .string u.kg] := by rw [hv]; exact Held.new _ _ _
            clear hv
            generalize w25.heap.size = bb61 at *
            clear k0 k1 kl a0 a1 a2 a3 a4 a5 a6 al
            replace E := E.trans hx
            replace hE := hE.trans hx
            replace hL := own_ext hL hx
            replace hI := own_ext hI hx
            replace Z := Z.ext hx
            replace C := C.ext hx
            replace D := D.ext hx
            replace G := G.ext hx
            replace B1 := B1.ext hx
            replace BT := BT.ext hx
            clear hx
            obtain ⟨k0, k1⟩ := B1.c2
            have kl := B1.lt
            obtain ⟨a0, a1, a2, a3, a4, a5, a6⟩ := held_u7 BT
            have al := BT.lt
            obtain ⟨b0, b1, b2, b3, b4, b5, b6⟩ := held_u7 BU
            have bl := BU.lt
            clear NT NP
            go_upto_region 28 with (fail)
            obtain ⟨i7, hi, hz0, hz1, hz2⟩ := info_parts info_trT
            have hlk := hT.lek
            have hgl : gs.length ≤ 20 := by have := hT.len; have := hT.lek; omega
            have hT2 := hT.snoc hmu.1 hmu.2 hmb.1 hmb.2.1
            have hbs := hE.size
            go_upto_region 29 with (at_builtin; refine wpList_append_own_at _ rfl _ _ 27 rfl v.heap.size 34 i7 (.agg #[.int .i64 0, .bool false, .int .i64 0, .bool false, .string ⟨#[]⟩, .int .i64 0, .string ⟨#[]⟩]) 7 72 Tryd.underlying27 hi hz0 hz1 hz2 rfl (by decide) _ _ _ rfl (own_ext hL ((Ext.refl _).alloc _)) ⟨_, 0, none⟩ 1 1 [.int .i64 u.d, .bool u.more, .int .i64 u.m, .bool u.s, .string u.nm, .int .i64 u.af, .string u.kg] rfl rfl (held_newsL (Held.new _ _ _)) (by simp [Value.oneCell']) (by unfold maxLen; omega) (by omega) (by simp; omega) ?_; intro p1 wn hown hgrow _ _)
            have gL := own_ext hL ((Ext.refl vb61).alloc (.cells #[.int .i64 u.d, .bool u.more, .int .i64 u.m, .bool u.s, .string u.nm, .int .i64 u.af, .string u.kg] 34))
            have gI := own_ext hI ((Ext.refl vb61).alloc (.cells #[.int .i64 u.d, .bool u.more, .int .i64 u.m, .bool u.s, .string u.nm, .int .i64 u.af, .string u.kg] 34))
            replace hE := (hE.alloc (.cells #[.int .i64 u.d, .bool u.more, .int .i64 u.m, .bool u.s, .string u.nm, .int .i64 u.af, .string u.kg] 34)).grown hgrow (fun q hq => (row_type gL q hq).1)
            replace E := (E.alloc (.cells #[.int .i64 u.d, .bool u.more, .int .i64 u.m, .bool u.s, .string u.nm, .int .i64 u.af, .string u.kg] 34)).grown hgrow (fun q hq => Nat.le_trans hwv (row_type gL q hq).1)
            replace hI := gI.kept hgrow (own_apart gL gI (by decide))
            replace hL := hown
            have hbs2 := hE.size
            clear hown hgrow gL gI hi hz0 hz1 hz2
            obtain ⟨P1, M1, rfl⟩ := own_sl hL
            obtain ⟨i8, hi, hz0, hz1, hz2⟩ := info_parts info_intT
            clear k0 k1 kl a0 a1 a2 a3 a4 a5 a6 al b0 b1 b2 b3 b4 b5 b6 bl
            go_wp2_with (at_builtin; refine wpList_append_own_at _ rfl _ _ 26 rfl v.heap.size 3 i8 (.int .i64 0) 1 8 Tryd.underlying26 hi hz0 hz1 hz2 rfl (by decide) _ _ _ rfl (own_ext hI ((Ext.refl _).alloc _)) ⟨_, 0, none⟩ 1 1 [.int .i64 m] rfl rfl (held_newsL (Held.new _ _ _)) (by simp [Value.oneCell']) (by unfold maxLen; omega) (by omega) (by simp; omega) ?_; intro p2 wn2 hown hgrow _ _)
            have gL := own_ext hL ((Ext.refl wn).alloc (.cells #[.int .i64 m] 3))
            have gI := own_ext hI ((Ext.refl wn).alloc (.cells #[.int .i64 m] 3))
            replace hE := (hE.alloc (.cells #[.int .i64 m] 3)).grown hgrow (fun q hq => (row_type gI q hq).1)
            replace hL := gL.kept hgrow (own_apart gI gL (by decide))
            exact ⟨⟨k + 1, ts ++ [u], gs ++ [m], m, by omega, by omega, by go_num, rfl, by rw [List.length_append, List.flatMap_append]; exact hL, by rw [List.length_append]; unfold intL at hown ⊢; rw [List.map_append]; exact hown, hT2, hE⟩, by simp [intOf]; omega⟩

end Go.Proofs.YtlnjeklmkjgidaaDoor
