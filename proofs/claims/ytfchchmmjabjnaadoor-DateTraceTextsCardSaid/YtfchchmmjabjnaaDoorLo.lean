/- The reference's Text and Parse. -/
import Derived.Deep.CutBlock
import Derived.Test.YtfchchmmjabjnaaDoorLk
namespace Go.Proofs.YtfchchmmjabjnaaDoor
open Go Go.RowKit
attribute [local go_sem] gv_yes

theorem rtext_any (t : Tr) (w : World) :
    Calls Tryd.prog 47 #[.agg #[.int .i64 t.d, .bool t.more, .int .i64 t.m, .bool t.s, .string t.nm, .int .i64 t.af, .string t.kg]] w fun e w' => e = .returned (.tuple #[.string (if t.ok then textS t else ⟨#[]⟩), .int .i64 (if t.ok then 0 else 72)]) ∧ Ext w w' := by
  cases hv : t.ok
  · have hc := fun w => (checkTraceR_any t w)
    unfold trChk at hc
    rw [hv] at hc
    go_enter Tryd.func47, Tryd.ntmps47
    go_upto_region 1 with (fail)
    obtain ⟨v, hv⟩ : ∃ v, v = (w.alloc (.cells #[.int .i64 t.d, .bool t.more, .int .i64 t.m, .bool t.s, .string t.nm, .int .i64 t.af, .string t.kg] 33)) := ⟨_, rfl⟩
    rw [← hv]
    have E : Ext w v := by rw [hv]; exact (Ext.refl _).alloc _
    have B : Held v w.heap.size 33 #[.int .i64 t.d, .bool t.more, .int .i64 t.m, .bool t.s, .string t.nm, .int .i64 t.af, .string t.kg] := by rw [hv]; exact Held.new _ _ _
    clear hv
    generalize w.heap.size = b at *
    obtain ⟨k0, k1, k2, k3, k4, k5, k6⟩ := B.c7; have lk := B.lt
    go_wp2_with (go_at_call 49; (with_reducible refine Calls.mono (hc _) ?_); rintro e v2 ⟨rfl, hx⟩)
    go_ret2
    exact ⟨rfl, E.trans hx⟩
  · obtain ⟨h1, h2, h3, h4, h5, h6, h7, h8, h9, h10, h11⟩ := ok_iff.1 hv
    obtain ⟨_, _, _, _, _, _, hnm, hkg⟩ := ok_bds hv
    have hc := fun w => (checkTraceR_any t w)
    unfold trChk at hc
    rw [hv] at hc
    obtain ⟨d, more, m, s, nm, af, kg⟩ := t
    simp only at h1 h2 h3 h4 h5 h6 h7 h8 h9 h10 h11 hnm hkg hc ⊢
    obtain ⟨d, rfl⟩ := Int.eq_ofNat_of_zero_le h1
    obtain ⟨m, rfl⟩ := Int.eq_ofNat_of_zero_le h4
    obtain ⟨af, rfl⟩ := Int.eq_ofNat_of_zero_le h8
    have := rtext_yes (d := d) (m := m) (af := af) (more := more) (sc := s) (nm := nm) (kg := kg) w (by omega) (by omega) (by omega) hnm hkg (fun e => by have := h3 e; omega) (fun e => by have := h6 e; omega) rfl rfl hc
    refine this.mono fun e w' ⟨he, hx⟩ => ⟨?_, hx⟩
    rw [he]
    unfold textS kingS yearS
    simp only [emptyB_eq, Int.toNat_natCast, if_true]
    cases kg.toList.isEmpty <;> simp only [Bool.false_eq_true, if_false, if_true, ByteArray.append_assoc]

theorem part_r43 : ((List.range 31).all fun n => [false, true].all fun b => decide (numR (partS n ⟨#[43]⟩ b).data.toList = (n, if b && decide (0 < n) then [43] else []))) = true := by kernel_rfl
theorem part_r98 : ((List.range 31).all fun n => [false, true].all fun b => decide (numR (partS n ⟨#[98]⟩ b).data.toList = (n, if b && decide (0 < n) then [98] else []))) = true := by kernel_rfl
theorem part_num {m : UInt8} (hm : m = 43 ∨ m = 98) {n : Nat} (hn : n ≤ 30) {b : Bool} (hb : b = true → n ≠ 0) {x : Nat} {q : List UInt8} (h : numR (partS n ⟨#[m]⟩ b).data.toList = (x, q)) : x = n ∧ decide (q = [m]) = b := by
  have hb2 : b ∈ [false, true] := by cases b <;> simp
  have hbn : (b && decide (0 < n)) = b := by
    cases b
    · rfl
    · have := hb rfl
      rw [Bool.true_and]; exact decide_eq_true (by omega)
  rcases hm with rfl | rfl
  · have := of_decide_eq_true (List.all_eq_true.1 (List.all_eq_true.1 part_r43 n (List.mem_range.2 (by omega))) b hb2)
    rw [h, hbn] at this
    obtain ⟨rfl, rfl⟩ := Prod.mk.inj this
    cases b <;> simp
  · have := of_decide_eq_true (List.all_eq_true.1 (List.all_eq_true.1 part_r98 n (List.mem_range.2 (by omega))) b hb2)
    rw [h, hbn] at this
    obtain ⟨rfl, rfl⟩ := Prod.mk.inj this
    cases b <;> simp
theorem tw_ge : ∀ {l : List UInt8} {k : Nat}, k ≤ l.length → (∀ i, i < k → l.getD i 0 = 43) → k ≤ (l.takeWhile isPlus).length
  | _, 0, _, _ => Nat.zero_le _
  | [], k + 1, h, _ => by simp at h
  | x :: l, k + 1, h, h0 => by
    have hx : isPlus x = true := by simp [isPlus]; simpa using h0 0 (by omega)
    have := @tw_ge l k (by simpa using h) (fun i hi => by simpa using h0 (i + 1) (by omega))
    rw [List.takeWhile_cons_of_pos hx, List.length_cons]
    omega
theorem rparse_is {s : ByteArray} {l1 r1 l2 r2 l3 r3 q1 q2 : List UInt8} {b1 b2 b3 : Bool} {n1 n2 k : Nat} (e1 : cutL s.data.toList 47 = (l1, r1, b1)) (e2 : cutL r1 47 = (l2, r2, b2)) (e3 : cutL r2 64 = (l3, r3, b3)) (i1 : numR l1 = (n1, q1)) (i2 : numR l2 = (n2, q2))
    (hk3 : k ≤ 3) (hk : k ≤ l3.length) (h0 : ∀ i, i < k → l3.getD i 0 = 43) (hs : k = 3 ∨ k = l3.length ∨ l3.getD k 0 ≠ 43) {T : Tr} (hT : T = ⟨n1, decide (q1 = [43]), n2, decide (q2 = [98]), if l3.drop k = [45] then ⟨#[]⟩ else ⟨(l3.drop k).toArray⟩, k, ⟨r3.toArray⟩⟩) :
    parseS s = if T.ok && decide (textS T = s) then some T else none := by
  cases hp : parseS s with
  | none =>
    rw [if_neg]
    intro h
    rw [Bool.and_eq_true, decide_eq_true_eq] at h
    have := parse_text h.1
    rw [h.2, hp] at this
    cases this
  | some u =>
    obtain ⟨hu, us⟩ := text_parse hp
    subst us
    have e : T = u := by
      obtain ⟨h1, h2, h3, h4, h5, h6, h7, h8, h9, h10, h11⟩ := ok_iff.1 hu
      obtain ⟨_, a2⟩ := part_read (.inl rfl) (n := u.d.toNat) (by omega) u.more
      obtain ⟨_, c2⟩ := part_read (.inr rfl) (n := u.m.toNat) (by omega) u.s
      obtain ⟨y1, y2, y3, _⟩ := year_read h7 h8 h10
      obtain ⟨k1, k2, _⟩ := king_read (y := yearS u) h11 y3
      rw [text_list, cutL_app _ _ _ a2] at e1
      obtain ⟨rfl, e1'⟩ := Prod.mk.inj e1
      obtain ⟨rfl, _⟩ := Prod.mk.inj e1'
      rw [cutL_app _ _ _ c2] at e2
      obtain ⟨rfl, e2'⟩ := Prod.mk.inj e2
      obtain ⟨rfl, _⟩ := Prod.mk.inj e2'
      rw [e3] at k1 k2
      simp only at k1 k2
      subst k1
      obtain ⟨rfl, f1⟩ := part_num (.inl rfl) (by omega) (fun e => by have := h3 e; omega) i1
      obtain ⟨rfl, f2⟩ := part_num (.inr rfl) (by omega) (fun e => by have := h6 e; omega) i2
      have hs' : k = (yearS u).data.toList.length ∨ (yearS u).data.toList.getD k 0 ≠ 43 := by
        rcases hs with h | h | h
        · by_cases hh : k = (yearS u).data.toList.length ∨ (yearS u).data.toList.getD k 0 ≠ 43
          · exact hh
          · rw [not_or] at hh
            have := tw_ge (l := (yearS u).data.toList) (k := k + 1) (by omega) (fun i hi => by
              by_cases e : i = k
              · subst e; exact Decidable.of_not_not hh.2
              · exact h0 i (by omega))
            omega
        · exact .inl h
        · exact .inr h
      obtain ⟨p1, p2⟩ := plus_at hk h0 hs'
      unfold nameL at y1
      rw [p2] at y1
      rw [p1] at y2
      rw [hT, f1, f2, y1, y2, k2, Int.toNat_of_nonneg h1, Int.toNat_of_nonneg h4]
    rw [e, hu]
    simp
theorem set7_0 {W : World} {b : Nat} {t : TypeId} {v0 v1 v2 v3 v4 v5 v6 : Value} (h : Held W b t #[v0, v1, v2, v3, v4, v5, v6]) (u : Value) : Held (W.setCell ⟨b, 0, none⟩ u) b t #[u, v1, v2, v3, v4, v5, v6] := by unfold Held at h ⊢; simp [World.setCell, Array.getElem?_modify, h]
theorem set7_1 {W : World} {b : Nat} {t : TypeId} {v0 v1 v2 v3 v4 v5 v6 : Value} (h : Held W b t #[v0, v1, v2, v3, v4, v5, v6]) (u : Value) : Held (W.setCell ⟨b, 1, none⟩ u) b t #[v0, u, v2, v3, v4, v5, v6] := by unfold Held at h ⊢; simp [World.setCell, Array.getElem?_modify, h]
theorem set7_2 {W : World} {b : Nat} {t : TypeId} {v0 v1 v2 v3 v4 v5 v6 : Value} (h : Held W b t #[v0, v1, v2, v3, v4, v5, v6]) (u : Value) : Held (W.setCell ⟨b, 2, none⟩ u) b t #[v0, v1, u, v3, v4, v5, v6] := by unfold Held at h ⊢; simp [World.setCell, Array.getElem?_modify, h]
theorem set7_3 {W : World} {b : Nat} {t : TypeId} {v0 v1 v2 v3 v4 v5 v6 : Value} (h : Held W b t #[v0, v1, v2, v3, v4, v5, v6]) (u : Value) : Held (W.setCell ⟨b, 3, none⟩ u) b t #[v0, v1, v2, u, v4, v5, v6] := by unfold Held at h ⊢; simp [World.setCell, Array.getElem?_modify, h]
theorem cutL_len : ∀ (l : List UInt8) (c : UInt8), (cutL l c).1.length ≤ l.length ∧ (cutL l c).2.1.length ≤ l.length
  | [], _ => ⟨Nat.le_refl _, Nat.le_refl _⟩
  | x :: l, c => by
    rw [cutL]
    split
    · simp
    · have := cutL_len l c
      simp only [List.length_cons]
      omega
theorem size_mk (l : List UInt8) : (⟨l.toArray⟩ : ByteArray).size = l.length := rfl
set_option maxRecDepth 100000 in
set_option maxHeartbeats 4000000 in
theorem rparse_any (s : ByteArray) (w : World) (h63 : s.size ≤ 9223372036854775807) :
    Calls Tryd.prog 51 #[.string s] w fun e w' => e = .returned (.tuple #[(parseV s).val, .int .i64 (parseE s)]) ∧ Ext w w' := by
  obtain ⟨L1, R1, L2, R2, L3, R3, Q1, Q2, c1, c2, c3, d1, d2, n1, n2, N1, N2, N3, N4, N5, hq1, hq2, hl3, HR⟩ : ∃ (L1 R1 L2 R2 L3 R3 Q1 Q2 : ByteArray) (c1 c2 c3 d1 d2 : Bool) (n1 n2 : Nat),
      (∀ w, Calls Tryd.prog 98 #[.string s, .int .u8 47] w fun e w' => e = .returned (.tuple #[.string L1, .string R1, .bool c1]) ∧ Ext w w') ∧
      (∀ w, Calls Tryd.prog 98 #[.string R1, .int .u8 47] w fun e w' => e = .returned (.tuple #[.string L2, .string R2, .bool c2]) ∧ Ext w w') ∧
      (∀ w, Calls Tryd.prog 98 #[.string R2, .int .u8 64] w fun e w' => e = .returned (.tuple #[.string L3, .string R3, .bool c3]) ∧ Ext w w') ∧
      (∀ w, Calls Tryd.prog 99 #[.string L1] w fun e w' => e = .returned (.tuple #[.int .i64 n1, .string Q1]) ∧ Ext w w') ∧
      (∀ w, Calls Tryd.prog 99 #[.string L2] w fun e w' => e = .returned (.tuple #[.int .i64 n2, .string Q2]) ∧ Ext w w') ∧
      (Q1.toList == [43]) = d1 ∧ (Q2.toList == [98]) = d2 ∧ L3.size ≤ 9223372036854775807 ∧
      Hid (∀ (k : Nat) (X NM : ByteArray), k ≤ 3 → k ≤ L3.size → (∀ i, i < k → L3.data.toList.getD i 0 = 43) → (k = 3 ∨ k = L3.size ∨ L3.data.toList.getD k 0 ≠ 43) → X.data.toList = L3.data.toList.drop k → NM = (if X.data.toList = [45] then ⟨#[]⟩ else X) → ∀ T : Tr, T = ⟨n1, d1, n2, d2, NM, k, R3⟩ → parseS s = if T.ok && decide (textS T = s) then some T else none) := by
    obtain ⟨l1, r1, c1, e1⟩ : ∃ l r c, cutL s.data.toList 47 = (l, r, c) := ⟨_, _, _, rfl⟩
    obtain ⟨l2, r2, c2, e2⟩ : ∃ l r c, cutL r1 47 = (l, r, c) := ⟨_, _, _, rfl⟩
    obtain ⟨l3, r3, c3, e3⟩ : ∃ l r c, cutL r2 64 = (l, r, c) := ⟨_, _, _, rfl⟩
    obtain ⟨n1, q1, i1⟩ : ∃ n q, numR l1 = (n, q) := ⟨_, _, rfl⟩
    obtain ⟨n2, q2, i2⟩ : ∃ n q, numR l2 = (n, q) := ⟨_, _, rfl⟩
    have hl := show s.data.toList.length = s.size by simp
    have z1 := cutL_len s.data.toList 47
    have z2 := cutL_len r1 47
    have z3 := cutL_len r2 64
    rw [e1] at z1
    rw [e2] at z2
    rw [e3] at z3
    simp only at z1 z2 z3
    have N1 := fun w => rcut_any s 47 w h63
    have N2 := fun w => rcut_any ⟨r1.toArray⟩ 47 w (by rw [size_mk]; omega)
    have N3 := fun w => rcut_any ⟨r2.toArray⟩ 64 w (by rw [size_mk]; omega)
    have N4 := fun w => number_any_r ⟨l1.toArray⟩ w (by rw [size_mk]; omega)
    have N5 := fun w => number_any_r ⟨l2.toArray⟩ w (by rw [size_mk]; omega)
    simp only [e1, e2, e3, i1, i2] at N1 N2 N3 N4 N5
    refine ⟨_, _, _, _, _, _, _, _, c1, c2, c3, _, _, n1, n2, N1, N2, N3, N4, N5, rfl, rfl, by rw [size_mk]; omega, ?_⟩
    intro k X NM a1 a2 a3 a4 a5 a6 T hT
    refine rparse_is e1 e2 e3 i1 i2 a1 a2 a3 a4 ?_
    rw [hT, a6, a5]
    have g1 : ((⟨q1.toArray⟩ : ByteArray).toList == [43]) = decide (q1 = [43]) := by rw [Go.ByteArray.toList_eq, Bool.eq_iff_iff, beq_iff_eq, decide_eq_true_eq]
    have g2 : ((⟨q2.toArray⟩ : ByteArray).toList == [98]) = decide (q2 = [98]) := by rw [Go.ByteArray.toList_eq, Bool.eq_iff_iff, beq_iff_eq, decide_eq_true_eq]
    rw [g1, g2, bytes_eq (a := X) (b := ⟨(l3.drop k).toArray⟩) a5]
  clear h63
  go_enter Tryd.func51, Tryd.ntmps51
  go_upto_region 1 with (fail)
  obtain ⟨v, hv⟩ : ∃ v, v = (w.alloc (.cells #[.int .i64 0, .bool false, .int .i64 0, .bool false, .string ⟨#[]⟩, .int .i64 0, .string ⟨#[]⟩] 33)) := ⟨_, rfl⟩
  rw [← hv]
  have E : Ext w v := by rw [hv]; exact (Ext.refl _).alloc _
  have BZ : Held v w.heap.size 33 #[.int .i64 0, .bool false, .int .i64 0, .bool false, .string ⟨#[]⟩, .int .i64 0, .string ⟨#[]⟩] := by rw [hv]; exact Held.new _ _ _
  clear hv
  have hw0 : w.heap.size ≤ w.heap.size := Nat.le_refl _
  obtain ⟨b0, hb0⟩ : ∃ b0, b0 = w.heap.size := ⟨_, rfl⟩
  rw [← hb0] at hw0 BZ ⊢
  have hb0' : w.heap.size ≤ b0 := Nat.le_of_eq hb0.symm
  clear hb0 hw0

  go_upto_region 2 with (go_at_call 98; (with_reducible refine Calls.mono (N1 _) ?_); rintro e v1 ⟨rfl, h⟩)
  replace E := Ext.trans E h
  replace BZ := BZ.ext h
  clear h
  go_upto_region 3 with (go_at_call 98; (with_reducible refine Calls.mono (N2 _) ?_); rintro e v2 ⟨rfl, h⟩)
  replace E := Ext.trans E h
  replace BZ := BZ.ext h
  clear h
  go_upto_region 4 with (go_at_call 98; (with_reducible refine Calls.mono (N3 _) ?_); rintro e v3 ⟨rfl, h⟩)
  replace E := Ext.trans E h
  replace BZ := BZ.ext h
  clear h
  go_upto_region 5 with (fail)
  obtain ⟨v4, hv⟩ : ∃ v, v = (v3.alloc (.cells #[.int .i64 0, .bool false, .int .i64 0, .bool false, .string ⟨#[]⟩, .int .i64 0, .string ⟨#[]⟩] 33)) := ⟨_, rfl⟩
  rw [← hv]
  have E4 : Ext v3 v4 := by rw [hv]; exact (Ext.refl _).alloc _
  have B : Held v4 v3.heap.size 33 #[.int .i64 0, .bool false, .int .i64 0, .bool false, .string ⟨#[]⟩, .int .i64 0, .string ⟨#[]⟩] := by rw [hv]; exact Held.new _ _ _
  clear hv
  obtain ⟨b, hb⟩ : ∃ b, b = v3.heap.size := ⟨_, rfl⟩
  rw [← hb] at B ⊢
  have hb' : v3.heap.size ≤ b := Nat.le_of_eq hb.symm
  clear hb
  go_upto_region 6 with (go_at_call 99; (with_reducible refine Calls.mono (N4 _) ?_); rintro e v5 ⟨rfl, h⟩; replace B := B.ext h; replace E4 := Ext.trans E4 h; obtain ⟨f0, f1, f2, f3, f4, f5, f6⟩ := frozen7 B; obtain ⟨t0, t1, t2, t3, t4, t5, t6⟩ := B.c7; have l5 := B.lt)
  replace B := set7_0 B (.int .i64 n1)
  replace E4 := E4.setCell (p := ⟨b, 0, none⟩) hb' (.int .i64 n1)
  clear f0 f1 f2 f3 f4 f5 f6 t0 t1 t2 t3 t4 t5 t6 l5 h
  generalize World.setCell v5 _ _ = v5_ at *
  obtain ⟨f0, f1, f2, f3, f4, f5, f6⟩ := frozen7 B; obtain ⟨t0, t1, t2, t3, t4, t5, t6⟩ := B.c7; have l5 := B.lt
  go_upto_region 7 with (fail)
  replace B := set7_1 B (.bool d1)
  replace E4 := E4.setCell (p := ⟨b, 1, none⟩) hb' (.bool d1)
  clear f0 f1 f2 f3 f4 f5 f6 t0 t1 t2 t3 t4 t5 t6 l5
  generalize World.setCell v5_ _ _ = v6 at *
  go_upto_region 8 with (go_at_call 99; (with_reducible refine Calls.mono (N5 _) ?_); rintro e v7 ⟨rfl, h⟩; replace B := B.ext h; replace E4 := Ext.trans E4 h; obtain ⟨f0, f1, f2, f3, f4, f5, f6⟩ := frozen7 B; obtain ⟨t0, t1, t2, t3, t4, t5, t6⟩ := B.c7; have l5 := B.lt)
  replace B := set7_2 B (.int .i64 n2)
  replace E4 := E4.setCell (p := ⟨b, 2, none⟩) hb' (.int .i64 n2)
  clear f0 f1 f2 f3 f4 f5 f6 t0 t1 t2 t3 t4 t5 t6 l5 h
  generalize World.setCell v7 _ _ = v7_ at *
  obtain ⟨f0, f1, f2, f3, f4, f5, f6⟩ := frozen7 B; obtain ⟨t0, t1, t2, t3, t4, t5, t6⟩ := B.c7; have l5 := B.lt
  go_upto_block 0 with (fail)
  replace B := set7_3 B (.bool d2)
  replace E4 := E4.setCell (p := ⟨b, 3, none⟩) hb' (.bool d2)
  clear f0 f1 f2 f3 f4 f5 f6 t0 t1 t2 t3 t4 t5 t6 l5
  generalize World.setCell v7_ _ _ = v8 at *
  go_cut [10] from 52 (fun nv wx => ∃ (k : Nat) (X : ByteArray), nv = .string X ∧ Hid (k ≤ 3 ∧ k ≤ L3.size ∧ (∀ i, i < k → L3.data.toList.getD i 0 = 43) ∧ (k = 3 ∨ k = L3.size ∨ L3.data.toList.getD k 0 ≠ 43) ∧ X.data.toList = L3.data.toList.drop k) ∧ Hid (Held wx b 33 #[.int .i64 n1, .bool d1, .int .i64 n2, .bool d2, .string ⟨#[]⟩, .int .i64 (k : Int), .string ⟨#[]⟩]) ∧ Hid (Ext v3 wx))
  case first =>
    go_wp2_with fail
    go_loopg [10] 3 (fun g nv wx => ∃ (k : Nat) (X : ByteArray), nv = .string X ∧ g = 3 - k ∧ Hid (k ≤ 3 ∧ k ≤ L3.size ∧ (∀ i, i < k → L3.data.toList.getD i 0 = 43) ∧ X.data.toList = L3.data.toList.drop k) ∧ Hid (Held wx b 33 #[.int .i64 n1, .bool d1, .int .i64 n2, .bool d2, .string ⟨#[]⟩, .int .i64 (k : Int), .string ⟨#[]⟩]) ∧ Hid (Ext v3 wx))
    case atStart => exact ⟨0, L3, rfl, rfl, ⟨Nat.zero_le _, Nat.zero_le _, fun i hi => absurd hi (by omega), rfl⟩, B, E4⟩
    case round =>
      clear B E4
      obtain ⟨k, X, rfl, rfl, HP, B', E'⟩ := hrel
      have B := B'.out
      have E4 := E'.out
      clear B' E'
      obtain ⟨f0, f1, f2, f3, f4, f5, f6⟩ := frozen7 B; obtain ⟨t0, t1, t2, t3, t4, t5, t6⟩ := B.c7; have l5 := B.lt
      obtain ⟨p1, p2, p3, p4⟩ := HP.out
      clear HP
      have hlen : X.size = L3.size - k := by
        have := congrArg List.length p4
        simpa using this
      by_cases hk : k < 3
      · have hkb : decide ((k : Int) < 3) = true := decide_eq_true (by omega)
        by_cases hx : 0 < X.size
        · have he := isE_no hx
          by_cases hc : X[0] = 43
          · have hb43 : ((X[0].toNat : Int) == 43) = true := by rw [hc]; rfl
            have hgd : L3.data.toList.getD k 0 = X[0] := by
              have h1 := byte_at X hx
              rw [p4] at h1
              rw [← h1, List.getD_eq_getElem?_getD, List.getD_eq_getElem?_getD, List.getElem?_drop, Nat.add_zero]
            have HP' : Hid (k + 1 ≤ 3 ∧ k + 1 ≤ L3.size ∧ (∀ i, i < k + 1 → L3.data.toList.getD i 0 = 43) ∧ (X.extract 1 X.size).data.toList = L3.data.toList.drop (k + 1)) := by
              refine ⟨hk, by omega, fun i hi => ?_, ?_⟩
              · by_cases e : i = k
                · subst e; rw [hgd, hc]
                · exact p3 i (by omega)
              · rw [cut_hi X 1 hx]
                show X.data.toList.drop 1 = _
                rw [p4, List.drop_drop]
            clear p1 p2 p3 p4 hlen hc hgd
            go_wp2
            go_roundg (3 - (k + 1))
            case measure => omega
            case rel => exact ⟨k + 1, _, rfl, rfl, HP', set7_5 B _, E4.setCell (p := ⟨b, 5, none⟩) hb' _⟩
          · have hb43 : ((X[0].toNat : Int) == 43) = false := by have := byte_ne hc; simpa using this
            have hgd : L3.data.toList.getD k 0 = X[0] := by
              have h1 := byte_at X hx
              rw [p4] at h1
              rw [← h1, List.getD_eq_getElem?_getD, List.getD_eq_getElem?_getD, List.getElem?_drop, Nat.add_zero]
            have HQ : Hid (k ≤ 3 ∧ k ≤ L3.size ∧ (∀ i, i < k → L3.data.toList.getD i 0 = 43) ∧ (k = 3 ∨ k = L3.size ∨ L3.data.toList.getD k 0 ≠ 43) ∧ X.data.toList = L3.data.toList.drop k) := ⟨p1, p2, p3, .inr (.inr (by rw [hgd]; exact hc)), p4⟩
            clear p1 p2 p3 p4 hlen hc hgd
            go_wp2
            go_meet
            exact ⟨k, X, rfl, HQ, B, E4⟩
        · have he : X.toList.isEmpty = true := by
            have h0 : X.data.toList.length = 0 := by have : X.data.toList.length = X.size := by simp
                                                     omega
            rw [Go.ByteArray.toList_eq, List.isEmpty_iff]
            exact List.length_eq_zero_iff.1 h0
          have HQ : Hid (k ≤ 3 ∧ k ≤ L3.size ∧ (∀ i, i < k → L3.data.toList.getD i 0 = 43) ∧ (k = 3 ∨ k = L3.size ∨ L3.data.toList.getD k 0 ≠ 43) ∧ X.data.toList = L3.data.toList.drop k) := ⟨p1, p2, p3, .inr (.inl (by omega)), p4⟩
          clear p1 p2 p3 p4 hlen hx
          go_wp2
          go_meet
          exact ⟨k, X, rfl, HQ, B, E4⟩
      · have hkb : decide ((k : Int) < 3) = false := decide_eq_false (by omega)
        have HQ : Hid (k ≤ 3 ∧ k ≤ L3.size ∧ (∀ i, i < k → L3.data.toList.getD i 0 = 43) ∧ (k = 3 ∨ k = L3.size ∨ L3.data.toList.getD k 0 ≠ 43) ∧ X.data.toList = L3.data.toList.drop k) := ⟨p1, p2, p3, .inl (by omega), p4⟩
        clear p1 p2 p3 p4 hlen
        go_wp2
        go_meet
        exact ⟨k, X, rfl, HQ, B, E4⟩
  case rest =>
    clear B E4
    obtain ⟨k, X, rfl, HP, B', E'⟩ := hcut
    have B := B'.out
    have E4 := E'.out
    clear B' E'
    obtain ⟨p1, p2, p3, p4, p5⟩ := HP.out
    clear HP
    obtain ⟨f0, f1, f2, f3, f4, f5, f6⟩ := frozen7 B; obtain ⟨t0, t1, t2, t3, t4, t5, t6⟩ := B.c7; have l5 := B.lt
    have hk9 : k ≤ 3 := p1
    by_cases hd : X.data.toList = [45]
    · have hxf : (X.toList == [45]) = true := by rw [Go.ByteArray.toList_eq, hd]; rfl
      have HR' := HR.out k X ⟨#[]⟩ p1 p2 p3 p4 p5 (by rw [if_pos hd])
      clear p2 p3 p4 p5 HR p1
      clear hd
      go_upto_region 14 with (fail)
      go_upto_region 15 with (fail)
      replace B := set7_6 B (.string R3)
      replace E4 := E4.setCell (p := ⟨b, 6, none⟩) hb' (.string R3)
      clear f0 f1 f2 f3 f4 f5 f6 t0 t1 t2 t3 t4 t5 t6 l5
      generalize World.setCell _ _ _ = v10 at *
      obtain ⟨t0, t1, t2, t3, t4, t5, t6⟩ := B.c7
      have l5 := B.lt
      obtain ⟨T, hT⟩ : ∃ T : Tr, T = ⟨n1, d1, n2, d2, ⟨#[]⟩, k, R3⟩ := ⟨_, rfl⟩
      have HR2 := HR' T hT
      have NT : ∀ w, Calls Tryd.prog 47 #[.agg #[.int .i64 n1, .bool d1, .int .i64 n2, .bool d2, .string ⟨#[]⟩, .int .i64 k, .string R3]] w fun e w' => e = .returned (.tuple #[.string (if T.ok then textS T else ⟨#[]⟩), .int .i64 (if T.ok then 0 else 72)]) ∧ Ext w w' := by rw [hT]; exact fun w => rtext_any _ w
      replace hT := Lib.hid hT
      clear HR' hq1 hq2
      cases hok : T.ok
      · rw [hok] at HR2
        simp only [hok, Bool.false_eq_true, if_false] at NT
        replace HR2 : Hid (parseS s = none) := by rw [HR2]; rfl
        go_upto_region 16 with (go_at_call 47; (with_reducible refine Calls.mono (NT _) ?_); rintro e wh ⟨rfl, hh⟩; have hh7 := B.ext hh; obtain ⟨u0, u1, u2, u3, u4, u5, u6⟩ := hh7.c7; have lh := hh7.lt; have hz3 := (BZ.ext E4).ext hh; have lz := hz3.lt; obtain ⟨z0, z1, z2, z3, z4, z5, z6⟩ := hz3.c7; obtain ⟨f0, f1, f2, f3, f4, f5, f6⟩ := frozen7 hz3)
        go_wp2
        obtain ⟨hs, gE⟩ := seven_set hz3 (.int .i64 0) (.bool false) (.int .i64 0) (.bool false) (.string ⟨#[]⟩) (.int .i64 0) (.string ⟨#[]⟩)
        obtain ⟨q0, q1, q2, q3, q4, q5, q6⟩ := hs.c7
        refine bodyPost_ret (v := .tuple #[.agg #[.int .i64 0, .bool false, .int .i64 0, .bool false, .string ⟨#[]⟩, .int .i64 0, .string ⟨#[]⟩], .int .i64 5]) (by simp [results, Tryd.results51, go_sem, q0, q1, q2, q3, q4, q5, q6]) rfl ⟨by unfold parseV parseE; rw [HR2.out]; rfl, gE w (Ext.trans E (Ext.trans E4 hh)) hb0'⟩
      · rw [hok] at HR2
        simp only [hok, if_true] at NT
        by_cases hts : textS T = s
        · have hbe : ((textS T).toList == s.toList) = true := by rw [hts]; exact beq_self_eq_true _
          replace HR2 := Lib.hid (show parseS s = some T by rw [HR2]; simp [hts])
          generalize textS T = tx at *
          clear hts
          go_upto_region 16 with (go_at_call 47; (with_reducible refine Calls.mono (NT _) ?_); rintro e wh ⟨rfl, hh⟩; have hh7 := B.ext hh; obtain ⟨u0, u1, u2, u3, u4, u5, u6⟩ := hh7.c7; have lh := hh7.lt; have hz3 := (BZ.ext E4).ext hh; have lz := hz3.lt; obtain ⟨z0, z1, z2, z3, z4, z5, z6⟩ := hz3.c7; obtain ⟨f0, f1, f2, f3, f4, f5, f6⟩ := frozen7 hz3)
          go_wp2
          obtain ⟨hs, gE⟩ := seven_set hz3 (.int .i64 n1) (.bool d1) (.int .i64 n2) (.bool d2) (.string ⟨#[]⟩) (.int .i64 k) (.string R3)
          obtain ⟨q0, q1, q2, q3, q4, q5, q6⟩ := hs.c7
          refine bodyPost_ret (v := .tuple #[.agg #[.int .i64 n1, .bool d1, .int .i64 n2, .bool d2, .string ⟨#[]⟩, .int .i64 k, .string R3], .int .i64 0]) (by simp [results, Tryd.results51, go_sem, q0, q1, q2, q3, q4, q5, q6]) rfl ⟨by unfold parseV parseE; rw [HR2.out, hT.out]; rfl, gE w (Ext.trans E (Ext.trans E4 hh)) hb0'⟩
        · have hbe : ((textS T).toList == s.toList) = false := by rw [Go.ByteArray.toList_eq, Go.ByteArray.toList_eq]; exact beq_eq_false_iff_ne.2 (fun e => hts (ByteArray.ext (Array.toList_inj.1 e)))
          replace HR2 := Lib.hid (show parseS s = none by rw [HR2]; simp [hts])
          generalize textS T = tx at *
          clear hts
          go_upto_region 16 with (go_at_call 47; (with_reducible refine Calls.mono (NT _) ?_); rintro e wh ⟨rfl, hh⟩; have hh7 := B.ext hh; obtain ⟨u0, u1, u2, u3, u4, u5, u6⟩ := hh7.c7; have lh := hh7.lt; have hz3 := (BZ.ext E4).ext hh; have lz := hz3.lt; obtain ⟨z0, z1, z2, z3, z4, z5, z6⟩ := hz3.c7; obtain ⟨f0, f1, f2, f3, f4, f5, f6⟩ := frozen7 hz3)
          go_wp2
          obtain ⟨hs, gE⟩ := seven_set hz3 (.int .i64 0) (.bool false) (.int .i64 0) (.bool false) (.string ⟨#[]⟩) (.int .i64 0) (.string ⟨#[]⟩)
          obtain ⟨q0, q1, q2, q3, q4, q5, q6⟩ := hs.c7
          refine bodyPost_ret (v := .tuple #[.agg #[.int .i64 0, .bool false, .int .i64 0, .bool false, .string ⟨#[]⟩, .int .i64 0, .string ⟨#[]⟩], .int .i64 5]) (by simp [results, Tryd.results51, go_sem, q0, q1, q2, q3, q4, q5, q6]) rfl ⟨by unfold parseV parseE; rw [HR2.out]; rfl, gE w (Ext.trans E (Ext.trans E4 hh)) hb0'⟩
    · have hxf : (X.toList == [45]) = false := by rw [Go.ByteArray.toList_eq]; exact beq_eq_false_iff_ne.2 hd
      have HR' := HR.out k X X p1 p2 p3 p4 p5 (by rw [if_neg hd])
      clear p2 p3 p4 p5 HR p1
      clear hd
      go_upto_region 14 with (fail)
      replace B := set7_4 B (.string X)
      replace E4 := E4.setCell (p := ⟨b, 4, none⟩) hb' (.string X)
      clear f0 f1 f2 f3 f4 f5 f6 t0 t1 t2 t3 t4 t5 t6 l5
      generalize World.setCell _ _ _ = v9 at *
      obtain ⟨f0, f1, f2, f3, f4, f5, f6⟩ := frozen7 B; obtain ⟨t0, t1, t2, t3, t4, t5, t6⟩ := B.c7; have l5 := B.lt
      go_upto_region 15 with (fail)
      replace B := set7_6 B (.string R3)
      replace E4 := E4.setCell (p := ⟨b, 6, none⟩) hb' (.string R3)
      clear f0 f1 f2 f3 f4 f5 f6 t0 t1 t2 t3 t4 t5 t6 l5
      generalize World.setCell _ _ _ = v10 at *
      obtain ⟨t0, t1, t2, t3, t4, t5, t6⟩ := B.c7
      have l5 := B.lt
      obtain ⟨T, hT⟩ : ∃ T : Tr, T = ⟨n1, d1, n2, d2, X, k, R3⟩ := ⟨_, rfl⟩
      have HR2 := HR' T hT
      have NT : ∀ w, Calls Tryd.prog 47 #[.agg #[.int .i64 n1, .bool d1, .int .i64 n2, .bool d2, .string X, .int .i64 k, .string R3]] w fun e w' => e = .returned (.tuple #[.string (if T.ok then textS T else ⟨#[]⟩), .int .i64 (if T.ok then 0 else 72)]) ∧ Ext w w' := by rw [hT]; exact fun w => rtext_any _ w
      replace hT := Lib.hid hT
      clear HR' hq1 hq2
      cases hok : T.ok
      · rw [hok] at HR2
        simp only [hok, Bool.false_eq_true, if_false] at NT
        replace HR2 : Hid (parseS s = none) := by rw [HR2]; rfl
        go_upto_region 16 with (go_at_call 47; (with_reducible refine Calls.mono (NT _) ?_); rintro e wh ⟨rfl, hh⟩; have hh7 := B.ext hh; obtain ⟨u0, u1, u2, u3, u4, u5, u6⟩ := hh7.c7; have lh := hh7.lt; have hz3 := (BZ.ext E4).ext hh; have lz := hz3.lt; obtain ⟨z0, z1, z2, z3, z4, z5, z6⟩ := hz3.c7; obtain ⟨f0, f1, f2, f3, f4, f5, f6⟩ := frozen7 hz3)
        go_wp2
        obtain ⟨hs, gE⟩ := seven_set hz3 (.int .i64 0) (.bool false) (.int .i64 0) (.bool false) (.string ⟨#[]⟩) (.int .i64 0) (.string ⟨#[]⟩)
        obtain ⟨q0, q1, q2, q3, q4, q5, q6⟩ := hs.c7
        refine bodyPost_ret (v := .tuple #[.agg #[.int .i64 0, .bool false, .int .i64 0, .bool false, .string ⟨#[]⟩, .int .i64 0, .string ⟨#[]⟩], .int .i64 5]) (by simp [results, Tryd.results51, go_sem, q0, q1, q2, q3, q4, q5, q6]) rfl ⟨by unfold parseV parseE; rw [HR2.out]; rfl, gE w (Ext.trans E (Ext.trans E4 hh)) hb0'⟩
      · rw [hok] at HR2
        simp only [hok, if_true] at NT
        by_cases hts : textS T = s
        · have hbe : ((textS T).toList == s.toList) = true := by rw [hts]; exact beq_self_eq_true _
          replace HR2 := Lib.hid (show parseS s = some T by rw [HR2]; simp [hts])
          generalize textS T = tx at *
          clear hts
          go_upto_region 16 with (go_at_call 47; (with_reducible refine Calls.mono (NT _) ?_); rintro e wh ⟨rfl, hh⟩; have hh7 := B.ext hh; obtain ⟨u0, u1, u2, u3, u4, u5, u6⟩ := hh7.c7; have lh := hh7.lt; have hz3 := (BZ.ext E4).ext hh; have lz := hz3.lt; obtain ⟨z0, z1, z2, z3, z4, z5, z6⟩ := hz3.c7; obtain ⟨f0, f1, f2, f3, f4, f5, f6⟩ := frozen7 hz3)
          go_wp2
          obtain ⟨hs, gE⟩ := seven_set hz3 (.int .i64 n1) (.bool d1) (.int .i64 n2) (.bool d2) (.string X) (.int .i64 k) (.string R3)
          obtain ⟨q0, q1, q2, q3, q4, q5, q6⟩ := hs.c7
          refine bodyPost_ret (v := .tuple #[.agg #[.int .i64 n1, .bool d1, .int .i64 n2, .bool d2, .string X, .int .i64 k, .string R3], .int .i64 0]) (by simp [results, Tryd.results51, go_sem, q0, q1, q2, q3, q4, q5, q6]) rfl ⟨by unfold parseV parseE; rw [HR2.out, hT.out]; rfl, gE w (Ext.trans E (Ext.trans E4 hh)) hb0'⟩
        · have hbe : ((textS T).toList == s.toList) = false := by rw [Go.ByteArray.toList_eq, Go.ByteArray.toList_eq]; exact beq_eq_false_iff_ne.2 (fun e => hts (ByteArray.ext (Array.toList_inj.1 e)))
          replace HR2 := Lib.hid (show parseS s = none by rw [HR2]; simp [hts])
          generalize textS T = tx at *
          clear hts
          go_upto_region 16 with (go_at_call 47; (with_reducible refine Calls.mono (NT _) ?_); rintro e wh ⟨rfl, hh⟩; have hh7 := B.ext hh; obtain ⟨u0, u1, u2, u3, u4, u5, u6⟩ := hh7.c7; have lh := hh7.lt; have hz3 := (BZ.ext E4).ext hh; have lz := hz3.lt; obtain ⟨z0, z1, z2, z3, z4, z5, z6⟩ := hz3.c7; obtain ⟨f0, f1, f2, f3, f4, f5, f6⟩ := frozen7 hz3)
          go_wp2
          obtain ⟨hs, gE⟩ := seven_set hz3 (.int .i64 0) (.bool false) (.int .i64 0) (.bool false) (.string ⟨#[]⟩) (.int .i64 0) (.string ⟨#[]⟩)
          obtain ⟨q0, q1, q2, q3, q4, q5, q6⟩ := hs.c7
          refine bodyPost_ret (v := .tuple #[.agg #[.int .i64 0, .bool false, .int .i64 0, .bool false, .string ⟨#[]⟩, .int .i64 0, .string ⟨#[]⟩], .int .i64 5]) (by simp [results, Tryd.results51, go_sem, q0, q1, q2, q3, q4, q5, q6]) rfl ⟨by unfold parseV parseE; rw [HR2.out]; rfl, gE w (Ext.trans E (Ext.trans E4 hh)) hb0'⟩
end Go.Proofs.YtfchchmmjabjnaaDoor
