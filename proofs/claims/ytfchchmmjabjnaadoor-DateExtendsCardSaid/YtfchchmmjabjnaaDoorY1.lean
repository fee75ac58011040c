/- The reference's functions on calendars: Months, Has, days, Counted, All, at, two, Number, In, Between, Scheme, At, Add, Copy, EqTexts, EqInts, Same. -/
import Derived.Test.YtfchchmmjabjnaaDoorWb
import Derived.Test.YtfchchmmjabjnaaDoorPl3
import Derived.Test.YtfchchmmjabjnaaDoorWr
import Derived.Test.YtfchchmmjabjnaaDoorWq
import Derived.Maps.AppendAt
import Derived.Test.YtfchchmmjabjnaaDoorWs
import Derived.Test.YtfchchmmjabjnaaDoorRh
import Derived.Laws.Append
import Derived.Test.YtfchchmmjabjnaaDoorEq
namespace Go.Proofs.YtfchchmmjabjnaaDoor
open Go Go.RowKit
attribute [local go_sem] gv_yes

theorem info_mon : (Tryd.prog.info? 141).map (fun i => (i.zero, i.size, i.bytes)) = some (some (.agg #[.int .i64 0, .bool false, .int .i64 0]), 3, 24) := by kernel_rfl
theorem cells_newL (w : World) (l : List Value) (t : TypeId) : ∀ j u, l[j]? = some u → (w.alloc (.cells l.toArray t)).cell? ((⟨w.heap.size, 0, none⟩ : Addr).add j) = some u := fun j u hj => by
  have h := (Held.new w t l.toArray).cell j
  have e : ((⟨w.heap.size, 0, none⟩ : Addr).add j) = ⟨w.heap.size, j, none⟩ := by unfold Addr.add; split <;> simp_all
  rw [e, h]
  simpa using hj
theorem owns_ext {w w' : World} {base size n : Nat} {e : TypeId} {v : Value} {xs : List Value} (h : w.ownsRow base e size v n xs) (x : Ext w w') : w'.ownsRow base e size v n xs := h.kept (grown_of_ext x) (by
  rcases h.2 with ⟨rfl, _⟩ | ⟨g, cap, cur, rfl, _⟩
  · exact .inl rfl
  · exact .inr (fun e => by cases e))
def mcells (y : Yr) (l : List (Int × Bool)) : List Value := l.flatMap fun p => [.int .i64 p.1, .bool p.2, .int .i64 (y.len p.1 p.2)]
theorem mcells_snoc (y : Yr) (l l' : List (Int × Bool)) : mcells y (l ++ l') = mcells y l ++ mcells y l' := by simp [mcells]
theorem mcells_get (y : Yr) : ∀ (l : List (Int × Bool)) (i j : Nat) (v : Value), i < l.length → [Value.int .i64 (l.getD i (0, false)).1, .bool (l.getD i (0, false)).2, .int .i64 (y.len (l.getD i (0, false)).1 (l.getD i (0, false)).2)][j]? = some v → (mcells y l)[i * 3 + j]? = some v
  | [], i, _, _, h, _ => by simp at h
  | p :: l, 0, j, v, _, h => by
    have hj : j < 3 := by have := (List.getElem?_eq_some_iff.1 h).1; simpa using this
    show ([Value.int .i64 p.1, .bool p.2, .int .i64 (y.len p.1 p.2)] ++ mcells y l)[0 * 3 + j]? = some v
    rw [Nat.zero_mul, Nat.zero_add, List.getElem?_append_left (by simpa using hj)]
    exact h
  | p :: l, i + 1, j, v, hi, h => by
    show ([Value.int .i64 p.1, .bool p.2, .int .i64 (y.len p.1 p.2)] ++ mcells y l)[(i + 1) * 3 + j]? = some v
    rw [List.getElem?_append_right (by simp; omega)]
    have := mcells_get y l i j v (by simpa using hi) h
    simpa [show (i + 1) * 3 + j - 3 = i * 3 + j by omega] using this
def mrow (y : Yr) (i : Nat) : List Value := [.int .i64 (y.mos.getD i (0, false)).1, .bool (y.mos.getD i (0, false)).2, .int .i64 (y.len (y.mos.getD i (0, false)).1 (y.mos.getD i (0, false)).2)]
/-- The value v reads as the months of y. -/
def MonAt (w : World) (v : Value) (y : Yr) : Prop := ∃ A cap, v = .slice A y.mos.length cap ∧ RowsAt w A y.mos.length 3 (mrow y)
theorem MonAt.ext {w w' : World} {v : Value} {y : Yr} (h : MonAt w v y) (e : Ext w w') : MonAt w' v y := by
  obtain ⟨A, cap, hv, hr⟩ := h
  exact ⟨A, cap, hv, hr.ext e⟩
theorem monAt_own {w : World} {base : Nat} {v : Value} {y : Yr} (h : w.ownsRow base 141 3 v y.mos.length (mcells y y.mos)) : MonAt w v y := by
  rcases h.2 with ⟨rfl, h0⟩ | ⟨q, cap, cur, rfl, hb, hq, hn, hm, _⟩
  · exact ⟨none, 0, by rw [h0], fun hp => by omega⟩
  · refine ⟨_, _, rfl, fun _ => ⟨q, 0, rfl, (Array.getElem?_eq_some_iff.1 hq).1, fun i j v hi hv => ?_⟩⟩
    have hj : j < 3 := by have := (List.getElem?_eq_some_iff.1 hv).1; simpa [mrow] using this
    rw [Nat.zero_add, World.ownsRow.cellAt h (i * 3 + j) (by omega)]
    exact mcells_get y y.mos i j v hi hv
set_option maxRecDepth 100000 in
set_option maxHeartbeats 2000000 in
theorem months_any_r (y : Yr) (w : World) (hl : 0 ≤ y.lg) (hl' : y.lg ≤ 8191) :
    Calls Tryd.prog 107 #[.agg #[.int .i64 y.k, .string y.nm, .int .i64 y.lg, .int .i64 y.db]] w fun e w' => ∃ v, e = .returned v ∧ Ext w w' ∧ MonAt w' v y := by
  obtain ⟨i0, hi, hz0, hz1, hz2⟩ := info_parts info_mon
  go_enter Tryd.func107, Tryd.ntmps107
  go_upto_region 1 with (fail)
  obtain ⟨v, hv⟩ : ∃ v, v = (w.alloc (.cells #[.int .i64 y.k, .string y.nm, .int .i64 y.lg, .int .i64 y.db] 99)) := ⟨_, rfl⟩
  rw [← hv]
  have E : Ext w v := by rw [hv]; exact (Ext.refl _).alloc _
  have B : Held v w.heap.size 99 #[.int .i64 y.k, .string y.nm, .int .i64 y.lg, .int .i64 y.db] := by rw [hv]; exact Held.new _ _ _
  clear hv
  generalize w.heap.size = b at *
  go_upto_region 3 with (fail)
  go_loopw [3, 4] (fun o i wr => ∃ k : Nat, k ≤ 12 ∧ i = .int .i64 (k + 1) ∧ Ext v wr ∧ wr.ownsRow v.heap.size 141 3 o (y.moTo k).length (mcells y (y.moTo k))) (fun _ i _ => 13 - (intOf i).toNat)
  case atStart => exact ⟨0, by omega, rfl, Ext.refl _, ⟨rfl, Or.inl ⟨rfl, rfl⟩⟩⟩
  case round =>
    obtain ⟨k, hk, rfl, hB, hO⟩ := hrel
    obtain ⟨wo, rfl⟩ : ∃ wo : World, wo = wr := ⟨_, rfl⟩
    have B1 := B.ext hB
    obtain ⟨c0, c1, c2, c3⟩ := B1.c4
    have lb := B1.lt
    by_cases hlt : k < 12
    · have hlen := moTo_length y k
      have hml : (y.moTo k).length ≤ 13 := by rw [hlen]; split <;> omega
      clear hlen
      have HM := Lib.hid hml
      clear hml
      have L1 : ∀ w, Calls Tryd.prog 127 #[.agg #[.int .i64 y.k, .string y.nm, .int .i64 y.lg, .int .i64 y.db], .int .i64 k] w fun e w' => e = .returned (.int .i64 (y.len ((k : Int) + 1) false)) ∧ Ext w w' := fun w => by
        have := long_any y k w (by omega) (by omega) hl hl'
        rwa [show mlen y.lg (k : Int).toNat = y.len ((k : Int) + 1) false by unfold Yr.len; congr 1] at this
      have L2 : ∀ w, Calls Tryd.prog 127 #[.agg #[.int .i64 y.k, .string y.nm, .int .i64 y.lg, .int .i64 y.db], .int .i64 12] w fun e w' => e = .returned (.int .i64 (y.len ((k : Int) + 1) true)) ∧ Ext w w' := fun w => long_any y 12 w (by omega) (by omega) hl hl'
      have M1 : Hid (mcells y (y.moTo k) ++ [.int .i64 ((k : Int) + 1), .bool false, .int .i64 (y.len ((k : Int) + 1) false)] = mcells y (y.moTo k ++ [((k : Int) + 1, false)])) := (mcells_snoc y (y.moTo k) [((k : Int) + 1, false)]).symm
      have M2 : Hid (mcells y (y.moTo k ++ [((k : Int) + 1, false)]) ++ [.int .i64 ((k : Int) + 1), .bool true, .int .i64 (y.len ((k : Int) + 1) true)] = mcells y ((y.moTo k ++ [((k : Int) + 1, false)]) ++ [((k : Int) + 1, true)])) := (mcells_snoc y (y.moTo k ++ [((k : Int) + 1, false)]) [((k : Int) + 1, true)]).symm
      generalize y.len ((k : Int) + 1) false = q1 at *
      generalize y.len ((k : Int) + 1) true = q2 at *
      have hkb : decide ((k : Int) + 1 ≤ 12) = true := decide_eq_true (by omega)
      go_upto_region 6 with (first
        | (go_at_call 127; (with_reducible refine Calls.mono (L1 _) ?_); rintro e w1 ⟨rfl, h1⟩)
        | (at_builtin; refine wpList_append_own_at _ rfl _ _ 138 rfl v.heap.size 141 i0 (.agg #[.int .i64 0, .bool false, .int .i64 0]) 3 24 Tryd.underlying138 hi hz0 hz1 hz2 rfl (by decide) _ _ _ rfl ((owns_ext hO h1).alloc _) ⟨w1.heap.size, 0, none⟩ 1 1 [.int .i64 ((k : Int) + 1), .bool false, .int .i64 q1] rfl rfl (cells_newL _ _ _) (by simp [Value.oneCell']) (by have := HM.out; unfold maxLen; omega) (by have := HM.out; omega) (by have := hB.size; have := h1.size; simp; omega) ?_; intro o' w2 hown hgrow _ _))
      have E2 : Ext v w2 := ((hB.trans h1).alloc _).grown hgrow (fun q hq => (hO.lt q hq).1)
      rw [M1.out] at hown
      clear hgrow h1 c0 c1 c2 c3 lb B1
      have B1 := B.ext E2
      obtain ⟨c0, c1, c2, c3⟩ := B1.c4
      have lb := B1.lt
      clear hO
      by_cases hdb : y.db = (k : Int) + 1
      · have hdbb : (y.db == (k : Int) + 1) = true := by rw [hdb]; exact beq_self_eq_true _
        have HS : Hid ((y.moTo k ++ [((k : Int) + 1, false)]) ++ [((k : Int) + 1, true)] = y.moTo (k + 1)) := by unfold Hid; rw [moTo_succ, if_pos hdb, List.append_assoc]; rfl
        clear hdb
        go_upto_region 4 with (first
          | (go_at_call 127; (with_reducible refine Calls.mono (L2 _) ?_); rintro e w3 ⟨rfl, h3⟩)
          | (at_builtin; refine wpList_append_own_at _ rfl _ _ 138 rfl v.heap.size 141 i0 (.agg #[.int .i64 0, .bool false, .int .i64 0]) 3 24 Tryd.underlying138 hi hz0 hz1 hz2 rfl (by decide) _ _ _ rfl ((owns_ext hown h3).alloc _) ⟨w3.heap.size, 0, none⟩ 1 1 [.int .i64 ((k : Int) + 1), .bool true, .int .i64 q2] rfl rfl (cells_newL _ _ _) (by simp [Value.oneCell']) (by have := HM.out; unfold maxLen; omega) (by have := HM.out; omega) (by have := E2.size; have := h3.size; simp; omega) ?_; intro o2 w4 hown2 hgrow2 _ _))
        have E4 : Ext v w4 := ((E2.trans h3).alloc _).grown hgrow2 (fun q hq => (hown.lt q hq).1)
        rw [M2.out, HS.out] at hown2
        have hl4 : (y.moTo k).length + 1 + 1 = (y.moTo (k + 1)).length := by rw [← HS.out]; simp
        rw [hl4] at hown2
        clear M1 M2 HS hgrow2
        go_wp2
        exact ⟨⟨k + 1, by omega, by go_num, E4, hown2⟩, by simp [intOf]; omega⟩
      · have hdbb : (y.db == (k : Int) + 1) = false := beq_eq_false_iff_ne.2 hdb
        have HS : Hid ((y.moTo k ++ [((k : Int) + 1, false)]) = y.moTo (k + 1)) := by unfold Hid; rw [moTo_succ, if_neg hdb]
        clear hdb
        rw [HS.out] at hown
        have hl4 : (y.moTo k).length + 1 = (y.moTo (k + 1)).length := by rw [← HS.out]; simp
        rw [hl4] at hown
        clear M1 M2 HS
        go_wp2
        exact ⟨⟨k + 1, by omega, by go_num, E2, hown⟩, by simp [intOf]; omega⟩
    · obtain rfl : k = 12 := by omega
      go_wp2
      go_ret
      exact ⟨_, rfl, E.trans hB, monAt_own hO⟩
theorem mon_get {w : World} {A : Option Addr} {y : Yr} {i : Nat} (h : RowsAt w A y.mos.length 3 (mrow y)) (hi : i < y.mos.length) :
    ∃ b off, A = some ⟨b, off, none⟩ ∧ b < w.heap.size ∧ w.cell? ⟨b, off + i * 3, none⟩ = some (.int .i64 (y.mos.getD i (0, false)).1) ∧ w.cell? ⟨b, off + i * 3 + 1, none⟩ = some (.bool (y.mos.getD i (0, false)).2) ∧
      w.cell? ⟨b, off + i * 3 + 2, none⟩ = some (.int .i64 (y.len (y.mos.getD i (0, false)).1 (y.mos.getD i (0, false)).2)) := by
  obtain ⟨b, off, hA, hb, hc⟩ := h (by omega)
  exact ⟨b, off, hA, hb, hc i 0 _ hi rfl, hc i 1 _ hi rfl, hc i 2 _ hi rfl⟩
theorem mos_at {y : Yr} {m : Int} {s : Bool} (h1 : 1 ≤ m) (h2 : m ≤ 12) (h3 : s = true → y.db = m) : ∃ i, i < y.mos.length ∧ y.mos.getD i (0, false) = (m, s) := by
  have hm : (m, s) ∈ y.mos := by
    cases s
    · exact (moTo_has y 12 m h1 h2).1
    · exact (moTo_has y 12 m h1 h2).2 (h3 rfl)
  obtain ⟨i, hi, he⟩ := List.mem_iff_getElem.1 hm
  exact ⟨i, hi, by rw [List.getD_eq_getElem?_getD, List.getElem?_eq_getElem hi, Option.getD_some, he]⟩
theorem mos_of {y : Yr} {i : Nat} (h : i < y.mos.length) : 1 ≤ (y.mos.getD i (0, false)).1 ∧ (y.mos.getD i (0, false)).1 ≤ 12 ∧ ((y.mos.getD i (0, false)).2 = true → y.db = (y.mos.getD i (0, false)).1) := by
  have hm : y.mos.getD i (0, false) ∈ y.mos := by rw [List.getD_eq_getElem?_getD, List.getElem?_eq_getElem h, Option.getD_some]; exact List.getElem_mem h
  exact moTo_mem y 12 _ hm
theorem has_hit {c : Cal} {n : Nat} {m d : Int} {s : Bool} {i : Nat} (hn : n < c.ny) (hi : i < (c.yr n).mos.length) (h1 : ((c.yr n).mos.getD i (0, false)).1 = m) (h2 : ((c.yr n).mos.getD i (0, false)).2 = s) :
    c.has ⟨n, m, s, d⟩ = (decide (1 ≤ d) && decide (d ≤ (c.yr n).len m s)) := by
  have h := mos_of hi
  rw [h1, h2] at h
  rw [Bool.eq_iff_iff, has_iff, Bool.and_eq_true, decide_eq_true_eq, decide_eq_true_eq]
  have e : c.yrI (n : Int) = c.yr n := by unfold Cal.yrI; rw [Int.toNat_natCast]
  simp only [e]
  constructor
  · exact fun g => g.2.2.2
  · exact fun g => ⟨⟨by omega, by omega⟩, ⟨h.1, h.2.1⟩, h.2.2, g⟩
theorem has_miss {c : Cal} {n : Nat} {m d : Int} {s : Bool} (h : ∀ i, i < (c.yr n).mos.length → ¬ (((c.yr n).mos.getD i (0, false)).1 = m ∧ ((c.yr n).mos.getD i (0, false)).2 = s)) : c.has ⟨n, m, s, d⟩ = false := by
  rw [Bool.eq_false_iff, ne_eq, has_iff]
  intro g
  have e : c.yrI (n : Int) = c.yr n := by unfold Cal.yrI; rw [Int.toNat_natCast]
  simp only [e] at g
  obtain ⟨i, hi, he⟩ := mos_at (y := c.yr n) g.2.1.1 g.2.1.2 g.2.2.1
  exact h i hi (by rw [he]; exact ⟨rfl, rfl⟩)
theorem has_out {c : Cal} {y m d : Int} {s : Bool} (h : y < 0 ∨ (c.ny : Int) ≤ y) : c.has ⟨y, m, s, d⟩ = false := by
  rw [Bool.eq_false_iff, ne_eq, has_iff]
  intro g
  have := g.1
  simp only at this
  omega
set_option maxRecDepth 100000 in
set_option maxHeartbeats 2000000 in
theorem has_any_r (A A' : Option Addr) (ca cb : Nat) (c : Cal) (D : Dt) (w : World) (hC : CalAt w A ca A' cb c) (hv : c.valid = true) :
    Calls Tryd.prog 101 #[.agg #[.slice A c.nk ca, .slice A' c.ny cb], .agg #[.int .i64 D.y, .int .i64 D.m, .bool D.s, .int .i64 D.d]] w fun e w' => e = .returned (.bool (c.has D)) ∧ Ext w w' := by
  have hny := valid_ny hv
  have hlg := valid_lg hv
  clear hv
  obtain ⟨y, m, s, d⟩ := D
  simp only
  by_cases h0 : y < 0
  · have HR := Lib.hid (has_out (c := c) (m := m) (d := d) (s := s) (.inl h0))
    go_enter Tryd.func101, Tryd.ntmps101
    go_upto_region 1 with (fail)
    obtain ⟨v, hv⟩ : ∃ v, v = ((w.alloc (.cells #[.slice A c.nk ca, .slice A' c.ny cb] 25)).alloc (.cells #[.int .i64 y, .int .i64 m, .bool s, .int .i64 d] 39)) := ⟨_, rfl⟩
    rw [← hv]
    have E : Ext w v := by rw [hv]; exact ((Ext.refl _).alloc _).alloc _
    have B1 : Held v w.heap.size 25 #[.slice A c.nk ca, .slice A' c.ny cb] := by rw [hv]; exact (Held.new _ _ _).alloc _
    have B2 : Held v (w.heap.size + 1) 39 #[.int .i64 y, .int .i64 m, .bool s, .int .i64 d] := by rw [hv]; exact Held.at _ _ _ _ (by simp)
    clear hv
    have C := hC.ext E
    clear hC
    generalize w.heap.size = b1 at *
    obtain ⟨k0, k1⟩ := B1.c2; have lk := B1.lt
    obtain ⟨p0, p1, p2, p3⟩ := B2.c4; have lp := B2.lt
    go_wp2
    go_ret
    exact ⟨by rw [HR.out]; rfl, E⟩
  · by_cases h1 : (c.ny : Int) ≤ y
    · have HR := Lib.hid (has_out (c := c) (m := m) (d := d) (s := s) (.inr h1))
      go_enter Tryd.func101, Tryd.ntmps101
      go_upto_region 1 with (fail)
      obtain ⟨v, hv⟩ : ∃ v, v = ((w.alloc (.cells #[.slice A c.nk ca, .slice A' c.ny cb] 25)).alloc (.cells #[.int .i64 y, .int .i64 m, .bool s, .int .i64 d] 39)) := ⟨_, rfl⟩
      rw [← hv]
      have E : Ext w v := by rw [hv]; exact ((Ext.refl _).alloc _).alloc _
      have B1 : Held v w.heap.size 25 #[.slice A c.nk ca, .slice A' c.ny cb] := by rw [hv]; exact (Held.new _ _ _).alloc _
      have B2 : Held v (w.heap.size + 1) 39 #[.int .i64 y, .int .i64 m, .bool s, .int .i64 d] := by rw [hv]; exact Held.at _ _ _ _ (by simp)
      clear hv
      have C := hC.ext E
      clear hC
      generalize w.heap.size = b1 at *
      obtain ⟨k0, k1⟩ := B1.c2; have lk := B1.lt
      obtain ⟨p0, p1, p2, p3⟩ := B2.c4; have lp := B2.lt
      go_wp2
      go_ret
      exact ⟨by rw [HR.out]; rfl, E⟩
    · obtain ⟨n, rfl⟩ := Int.eq_ofNat_of_zero_le (show 0 ≤ y by omega)
      have hn : n < c.ny := by omega
      have hlg := hlg n hn
      go_enter Tryd.func101, Tryd.ntmps101
      go_upto_region 1 with (fail)
      obtain ⟨v, hv⟩ : ∃ v, v = ((w.alloc (.cells #[.slice A c.nk ca, .slice A' c.ny cb] 25)).alloc (.cells #[.int .i64 (n : Int), .int .i64 m, .bool s, .int .i64 d] 39)) := ⟨_, rfl⟩
      rw [← hv]
      have E : Ext w v := by rw [hv]; exact ((Ext.refl _).alloc _).alloc _
      have B1 : Held v w.heap.size 25 #[.slice A c.nk ca, .slice A' c.ny cb] := by rw [hv]; exact (Held.new _ _ _).alloc _
      have B2 : Held v (w.heap.size + 1) 39 #[.int .i64 (n : Int), .int .i64 m, .bool s, .int .i64 d] := by rw [hv]; exact Held.at _ _ _ _ (by simp)
      clear hv
      have C := hC.ext E
      clear hC
      generalize w.heap.size = b1 at *
      obtain ⟨k0, k1⟩ := B1.c2; have lk := B1.lt
      obtain ⟨p0, p1, p2, p3⟩ := B2.c4; have lp := B2.lt
      obtain ⟨yb, yo, hA', hyb, y0, y1, y2, y3⟩ := C.year hn
      subst hA'
      have hmo := fun w => months_any_r (c.yr n) w hlg.1 hlg.2
      go_upto_region 4 with (go_at_call 107; (with_reducible refine Calls.mono (hmo _) ?_); rintro e v2 ⟨mv, rfl, h, MA⟩)
      obtain ⟨MA, mcap, rfl, MM⟩ := MA
      clear y0 y1 y2 y3 hyb hmo
      replace E := Ext.trans E h
      replace C := C.ext h
      replace B1 := B1.ext h
      replace B2 := B2.ext h
      clear h
      clear k0 k1 lk
      clear p0 p1 p2 p3 lp
      obtain ⟨k0, k1⟩ := B1.c2; have lk := B1.lt
      obtain ⟨p0, p1, p2, p3⟩ := B2.c4; have lp := B2.lt
      have HH := Lib.hid (fun i hi h1 h2 => has_hit (c := c) (n := n) (m := m) (d := d) (s := s) (i := i) hn hi h1 h2)
      have HM := Lib.hid (has_miss (c := c) (n := n) (m := m) (d := d) (s := s))
      generalize hY : c.yr n = Y at *
      clear hY
      have hml := (mos_length Y).2
      go_upto_region 5 with (fail)
      go_loopw [6] (fun i wr => ∃ k : Nat, k ≤ Y.mos.length ∧ i = .int .i64 k ∧ (∀ i, i < k → ¬ ((Y.mos.getD i (0, false)).1 = m ∧ (Y.mos.getD i (0, false)).2 = s)) ∧ Ext v2 wr) (fun i _ => Y.mos.length - (intOf i).toNat)
      case atStart => exact ⟨0, Nat.zero_le _, rfl, (fun i hi => absurd hi (by omega)), Ext.refl _⟩
      case round =>
        obtain ⟨k, hk, rfl, hno, hE⟩ := hrel
        obtain ⟨wo, rfl⟩ : ∃ wo : World, wo = wr := ⟨_, rfl⟩
        have HN := Lib.hid hno
        clear hno
        clear p0 p1 p2 p3 lp k0 k1 lk
        obtain ⟨p0, p1, p2, p3⟩ := (B2.ext hE).c4
        have lp := (B2.ext hE).lt
        by_cases hlt : k < Y.mos.length
        · obtain ⟨mb, mo, rfl, hmb, c0, c1, c2⟩ := mon_get (MM.ext hE) hlt
          have HH := HH.out k hlt
          have HS : Hid (¬ ((Y.mos.getD k (0, false)).1 = m ∧ (Y.mos.getD k (0, false)).2 = s) → ∀ i, i < k + 1 → ¬ ((Y.mos.getD i (0, false)).1 = m ∧ (Y.mos.getD i (0, false)).2 = s)) := fun h i hi => by
            by_cases e : i = k
            · subst e; exact h
            · exact HN.out i (by omega)
          generalize Y.mos.length = L at *
          generalize (Y.mos.getD k (0, false)).1 = x at *
          generalize (Y.mos.getD k (0, false)).2 = z at *
          by_cases hx : x = m
          · have hxb : (x == m) = true := by rw [hx]; exact beq_self_eq_true _
            by_cases hz : z = s
            · have hzb : (z == s) = true := by rw [hz]; exact beq_self_eq_true _
              replace HH := HH hx hz
              rw [show Y.len m s = Y.len x z by rw [hx, hz]] at HH
              clear hx hz HS
              generalize Y.len x z = q at *
              by_cases g1 : 1 ≤ d
              · by_cases g2 : d ≤ q
                · replace HH : Hid (_ = true) := HH.trans (by rw [decide_eq_true g1, decide_eq_true g2]; rfl)
                  go_upto_region 7 with (fail)
                  refine wp_region_xw wo mixed (by kernel_rfl) (by repeat (first | exact Ext.refl _ | (refine Ext.alloc ?_ _) | (refine Ext.trans ?_ (by assumption)))) ?_
                  intro hne hrx hry
                  try simp only []
                  try simp only [List.append_eq, List.cons_append, List.nil_append]
                  skip
                  repeat (first
                    | go_big_quiet_skip
                    | (go_big_quiet_want; go_big_quiet_op; go_big_quiet_on))
                  clear hne hry hrx
                  refine wpQuiet_nil ?_
                  intro wn hwn
                  obtain ⟨hcwn, hfwn, hzwn⟩ := Ext.rules hwn
                  try simp only [World.size_alloc] at hzwn
                  obtain ⟨hcbwn, hfbwn, hzbwn⟩ := Ext.rules (show Ext wo wn from (by repeat (first | exact Ext.refl _ | (refine Ext.alloc ?_ _) | (refine Ext.trans ?_ (by assumption)))))
                  clear hcwn hfwn
                  go_upto_region 8 with (fail)
                  refine wp_region_xw wo mixed (by kernel_rfl) (by repeat (first | exact Ext.refl _ | (refine Ext.alloc ?_ _) | (refine Ext.trans ?_ (by assumption)))) ?_
                  intro hne hrx hry
                  try simp only []
                  try simp only [List.append_eq, List.cons_append, List.nil_append]
                  skip
                  repeat (first
                    | go_big_quiet_skip
                    | (go_big_quiet_want; go_big_quiet_op; go_big_quiet_on))
                  clear hne hry hrx
                  refine wpQuiet_nil ?_
                  intro wp hwp
                  obtain ⟨hcwp, hfwp, hzwp⟩ := Ext.rules hwp
                  try simp only [World.size_alloc] at hzwp
                  obtain ⟨hcbwp, hfbwp, hzbwp⟩ := Ext.rules (show Ext wo wp from (by repeat (first | exact Ext.refl _ | (refine Ext.alloc ?_ _) | (refine Ext.trans ?_ (by assumption)))))
                  clear hcwp hfwp
                  go_wp2
                  go_ret
                  exact ⟨by rw [HH.out]; rfl, E.trans (hE.trans (hwn.trans hwp))⟩
                · replace HH : Hid (_ = false) := HH.trans (by rw [decide_eq_false g2, Bool.and_false])
                  go_upto_region 7 with (fail)
                  refine wp_region_xw wo mixed (by kernel_rfl) (by repeat (first | exact Ext.refl _ | (refine Ext.alloc ?_ _) | (refine Ext.trans ?_ (by assumption)))) ?_
                  intro hne hrx hry
                  try simp only []
                  try simp only [List.append_eq, List.cons_append, List.nil_append]
                  skip
                  repeat (first
                    | go_big_quiet_skip
                    | (go_big_quiet_want; go_big_quiet_op; go_big_quiet_on))
                  clear hne hry hrx
                  refine wpQuiet_nil ?_
                  intro wn hwn
                  obtain ⟨hcwn, hfwn, hzwn⟩ := Ext.rules hwn
                  try simp only [World.size_alloc] at hzwn
                  obtain ⟨hcbwn, hfbwn, hzbwn⟩ := Ext.rules (show Ext wo wn from (by repeat (first | exact Ext.refl _ | (refine Ext.alloc ?_ _) | (refine Ext.trans ?_ (by assumption)))))
                  clear hcwn hfwn
                  go_upto_region 8 with (fail)
                  refine wp_region_xw wo mixed (by kernel_rfl) (by repeat (first | exact Ext.refl _ | (refine Ext.alloc ?_ _) | (refine Ext.trans ?_ (by assumption)))) ?_
                  intro hne hrx hry
                  try simp only []
                  try simp only [List.append_eq, List.cons_append, List.nil_append]
                  skip
                  repeat (first
                    | go_big_quiet_skip
                    | (go_big_quiet_want; go_big_quiet_op; go_big_quiet_on))
                  clear hne hry hrx
                  refine wpQuiet_nil ?_
                  intro wp hwp
                  obtain ⟨hcwp, hfwp, hzwp⟩ := Ext.rules hwp
                  try simp only [World.size_alloc] at hzwp
                  obtain ⟨hcbwp, hfbwp, hzbwp⟩ := Ext.rules (show Ext wo wp from (by repeat (first | exact Ext.refl _ | (refine Ext.alloc ?_ _) | (refine Ext.trans ?_ (by assumption)))))
                  clear hcwp hfwp
                  go_wp2
                  go_ret
                  exact ⟨by rw [HH.out]; rfl, E.trans (hE.trans (hwn.trans hwp))⟩
              · replace HH : Hid (_ = false) := HH.trans (by rw [decide_eq_false g1]; rfl)
                go_upto_region 7 with (fail)
                refine wp_region_xw wo mixed (by kernel_rfl) (by repeat (first | exact Ext.refl _ | (refine Ext.alloc ?_ _) | (refine Ext.trans ?_ (by assumption)))) ?_
                intro hne hrx hry
                try simp only []
                try simp only [List.append_eq, List.cons_append, List.nil_append]
                skip
                repeat (first
                  | go_big_quiet_skip
                  | (go_big_quiet_want; go_big_quiet_op; go_big_quiet_on))
                clear hne hry hrx
                refine wpQuiet_nil ?_
                intro wn hwn
                obtain ⟨hcwn, hfwn, hzwn⟩ := Ext.rules hwn
                try simp only [World.size_alloc] at hzwn
                obtain ⟨hcbwn, hfbwn, hzbwn⟩ := Ext.rules (show Ext wo wn from (by repeat (first | exact Ext.refl _ | (refine Ext.alloc ?_ _) | (refine Ext.trans ?_ (by assumption)))))
                clear hcwn hfwn
                go_upto_region 8 with (fail)
                refine wp_region_xw wo mixed (by kernel_rfl) (by repeat (first | exact Ext.refl _ | (refine Ext.alloc ?_ _) | (refine Ext.trans ?_ (by assumption)))) ?_
                intro hne hrx hry
                try simp only []
                try simp only [List.append_eq, List.cons_append, List.nil_append]
                skip
                repeat (first
                  | go_big_quiet_skip
                  | (go_big_quiet_want; go_big_quiet_op; go_big_quiet_on))
                clear hne hry hrx
                refine wpQuiet_nil ?_
                intro wp hwp
                obtain ⟨hcwp, hfwp, hzwp⟩ := Ext.rules hwp
                try simp only [World.size_alloc] at hzwp
                obtain ⟨hcbwp, hfbwp, hzbwp⟩ := Ext.rules (show Ext wo wp from (by repeat (first | exact Ext.refl _ | (refine Ext.alloc ?_ _) | (refine Ext.trans ?_ (by assumption)))))
                clear hcwp hfwp
                go_wp2
                go_ret
                exact ⟨by rw [HH.out]; rfl, E.trans (hE.trans (hwn.trans hwp))⟩
            · have hzb : (z == s) = false := beq_eq_false_iff_ne.2 hz
              have HS := Lib.hid (HS.out (fun h => hz h.2))
              clear HH hx hz
              go_upto_region 7 with (fail)
              refine wp_region_xw wo mixed (by kernel_rfl) (by repeat (first | exact Ext.refl _ | (refine Ext.alloc ?_ _) | (refine Ext.trans ?_ (by assumption)))) ?_
              intro hne hrx hry
              try simp only []
              try simp only [List.append_eq, List.cons_append, List.nil_append]
              skip
              repeat (first
                | go_big_quiet_skip
                | (go_big_quiet_want; go_big_quiet_op; go_big_quiet_on))
              clear hne hry hrx
              refine wpQuiet_nil ?_
              intro wn hwn
              obtain ⟨hcwn, hfwn, hzwn⟩ := Ext.rules hwn
              try simp only [World.size_alloc] at hzwn
              obtain ⟨hcbwn, hfbwn, hzbwn⟩ := Ext.rules (show Ext wo wn from (by repeat (first | exact Ext.refl _ | (refine Ext.alloc ?_ _) | (refine Ext.trans ?_ (by assumption)))))
              clear hcwn hfwn
              go_wp2
              exact ⟨⟨k + 1, by omega, by go_num, HS.out, hE.trans hwn⟩, by simp [intOf]; omega⟩
          · have hxb : (x == m) = false := beq_eq_false_iff_ne.2 hx
            have HS := Lib.hid (HS.out (fun h => hx h.1))
            clear HH hx
            go_upto_region 7 with (fail)
            refine wp_region_xw wo mixed (by kernel_rfl) (by repeat (first | exact Ext.refl _ | (refine Ext.alloc ?_ _) | (refine Ext.trans ?_ (by assumption)))) ?_
            intro hne hrx hry
            try simp only []
            try simp only [List.append_eq, List.cons_append, List.nil_append]
            skip
            repeat (first
              | go_big_quiet_skip
              | (go_big_quiet_want; go_big_quiet_op; go_big_quiet_on))
            clear hne hry hrx
            refine wpQuiet_nil ?_
            intro wn hwn
            obtain ⟨hcwn, hfwn, hzwn⟩ := Ext.rules hwn
            try simp only [World.size_alloc] at hzwn
            obtain ⟨hcbwn, hfbwn, hzbwn⟩ := Ext.rules (show Ext wo wn from (by repeat (first | exact Ext.refl _ | (refine Ext.alloc ?_ _) | (refine Ext.trans ?_ (by assumption)))))
            clear hcwn hfwn
            go_wp2
            exact ⟨⟨k + 1, by omega, by go_num, HS.out, hE.trans hwn⟩, by simp [intOf]; omega⟩
        · have hkl : k = Y.mos.length := by omega
          have HR : Hid (c.has ⟨n, m, s, d⟩ = false) := HM.out (fun i hi => HN.out i (by omega))
          generalize Y.mos.length = L at *
          subst hkl
          go_wp2
          go_ret
          exact ⟨by rw [HR.out]; rfl, E.trans hE⟩
end Go.Proofs.YtfchchmmjabjnaaDoor

namespace Go.Proofs.YtfchchmmjabjnaaDoor
open Go Go.RowKit
attribute [local go_sem] gv_yes

def moI (y : Yr) (k : Nat) : Int := (y.mos.getD k (0, false)).1
def moS (y : Yr) (k : Nat) : Bool := (y.mos.getD k (0, false)).2
def moL (y : Yr) (k : Nat) : Int := y.len (moI y k) (moS y k)
def pre (y : Yr) (k : Nat) : Int := y.lens (y.mos.take k)
theorem pre_zero (y : Yr) : pre y 0 = 0 := rfl
theorem pre_succ {y : Yr} {k : Nat} (h : k < y.mos.length) : pre y (k + 1) = pre y k + moL y k := by
  unfold pre moL moI moS
  rw [List.take_add_one, List.getElem?_eq_getElem h, lens_append, List.getD_eq_getElem?_getD, List.getElem?_eq_getElem h]
  simp [Yr.lens]
theorem pre_all (y : Yr) : pre y y.mos.length = y.days := by unfold pre; rw [List.take_length]; rfl
theorem pre_bd {y : Yr} {k : Nat} (h : k ≤ y.mos.length) : 29 * (k : Int) ≤ pre y k ∧ pre y k ≤ 30 * (k : Int) := by
  have := lens_29 y (y.mos.take k)
  rw [List.length_take, Nat.min_eq_left h] at this
  exact this
theorem moL_bd (y : Yr) (k : Nat) : 29 ≤ moL y k ∧ moL y k ≤ 30 := len_29 _ _ _
theorem runs_get (i : Nat) (y : Yr) : ∀ (l : List (Int × Bool)) (d : Int) (k : Nat), k < l.length → (runs i y d l)[k]? = some ⟨i, (l.getD k (0, false)).1, (l.getD k (0, false)).2, d + y.lens (l.take k)⟩
  | [], _, _, h => by simp at h
  | p :: l, d, 0, _ => by simp [runs, Yr.lens]
  | p :: l, d, k + 1, h => by
    have := runs_get i y l (d + y.len p.1 p.2) k (by simpa using h)
    simp only [runs, List.getElem?_cons_succ, this, List.getD_cons_succ, List.take_succ_cons, Yr.lens]
    congr 2
    omega
theorem items_pos {c : Cal} {y k : Nat} (hy : y < c.ny) (hk : k < (c.yr y).mos.length) : c.items[(c.itemsTo y).length + k]? = some ⟨y, moI (c.yr y) k, moS (c.yr y) k, c.dayAt y + pre (c.yr y) k⟩ := by
  obtain ⟨t, ht⟩ := itemsTo_pre c (show y + 1 ≤ c.ny from hy)
  unfold Cal.items
  rw [← ht]
  show ((c.itemsTo y ++ runs y (c.yr y) (c.dayAt y) (c.yr y).mos) ++ t)[_]? = _
  have hl : ((c.itemsTo y).length + k) < (c.itemsTo y ++ runs y (c.yr y) (c.dayAt y) (c.yr y).mos).length := by rw [List.length_append, runs_length]; omega
  rw [List.getElem?_append_left hl, List.getElem?_append_right (by omega), Nat.add_sub_cancel_left]
  exact runs_get _ _ _ _ _ hk
theorem itemsTo_next (c : Cal) (y : Nat) : (c.itemsTo (y + 1)).length = (c.itemsTo y).length + (c.yr y).mos.length := by
  show (c.itemsTo y ++ runs y (c.yr y) (c.dayAt y) (c.yr y).mos).length = _
  rw [List.length_append, runs_length]
theorem num_pos {c : Cal} {d : Dt} {y k : Nat} (hd : c.has d = true) (hy : y < c.ny) (hk : k < (c.yr y).mos.length) (h1 : (y : Int) = d.y) (h2 : moI (c.yr y) k = d.m) (h3 : moS (c.yr y) k = d.s) :
    c.num d = (c.dayAt y + pre (c.yr y) k + d.d - 1, (((c.itemsTo y).length + k : Nat) : Int) + 1) := by
  obtain ⟨i, x, hx, ⟨g1, g2, g3⟩, hn, _, _⟩ := num_ix hd
  have hp := items_pos hy hk
  have e : i = (c.itemsTo y).length + k := items_key hx hp (by simp only; omega) (by simp only; rw [g2, h2]) (by simp only; rw [g3, h3])
  subst e
  rw [hx] at hp
  obtain rfl := Option.some.inj hp
  rw [hn]
theorem has_pos {c : Cal} {y k : Nat} {d : Int} (hy : y < c.ny) (hk : k < (c.yr y).mos.length) (h1 : 1 ≤ d) (h2 : d ≤ moL (c.yr y) k) : c.has ⟨y, moI (c.yr y) k, moS (c.yr y) k, d⟩ = true := by
  rw [has_hit (m := moI (c.yr y) k) (s := moS (c.yr y) k) hy hk rfl rfl, Bool.and_eq_true, decide_eq_true_eq, decide_eq_true_eq]
  exact ⟨h1, h2⟩
theorem at_pos {c : Cal} {y k : Nat} {n : Int} (hy : y < c.ny) (hk : k < (c.yr y).mos.length) (h1 : c.dayAt y + pre (c.yr y) k ≤ n) (h2 : n - (c.dayAt y + pre (c.yr y) k) < moL (c.yr y) k) :
    c.at? n = some ⟨y, moI (c.yr y) k, moS (c.yr y) k, n - (c.dayAt y + pre (c.yr y) k) + 1⟩ := by
  have hd : c.has ⟨y, moI (c.yr y) k, moS (c.yr y) k, n - (c.dayAt y + pre (c.yr y) k) + 1⟩ = true := has_pos hy hk (by omega) (by omega)
  have := at_num hd
  rw [num_pos hd hy hk rfl rfl rfl] at this
  simp only at this
  rwa [show c.dayAt y + pre (c.yr y) k + (n - (c.dayAt y + pre (c.yr y) k) + 1) - 1 = n by omega] at this
theorem num_pos_at {c : Cal} {n k M j : Nat} {m d X : Int} {s : Bool} {NV : Int × Int} (_hk : k < c.ny) (hj : j < (c.yr k).mos.length) (HN : Hid (∀ k, k < (c.yr n).mos.length → moI (c.yr n) k = m → moS (c.yr n) k = s → NV = (c.dayAt n + pre (c.yr n) k + d - 1, (((c.itemsTo n).length + k : Nat) : Int) + 1)))
    (HX : Hid (X = c.dayAt k + d - 1)) (HM : Hid (M = (c.itemsTo k).length)) (e : k = n) (h1 : moI (c.yr k) j = m) (h2 : moS (c.yr k) j = s) : NV = (X + pre (c.yr k) j, ((M + j : Nat) : Int) + 1) := by
  subst e
  have := HN.out j hj h1 h2
  rw [this, HX.out, HM.out]
  congr 1
  omega
theorem has_find {c : Cal} {n : Nat} {m d : Int} {s : Bool} (h : c.has ⟨n, m, s, d⟩ = true) : n < c.ny ∧ (∃ k, k < (c.yr n).mos.length ∧ moI (c.yr n) k = m ∧ moS (c.yr n) k = s) ∧ 1 ≤ d ∧ d ≤ 30 := by
  have g := has_iff.1 h
  have e : c.yrI (n : Int) = c.yr n := by unfold Cal.yrI; rw [Int.toNat_natCast]
  simp only [e] at g
  obtain ⟨i, hi, he⟩ := mos_at (y := c.yr n) g.2.1.1 g.2.1.2 g.2.2.1
  have := (len_29 (c.yr n) m s).2
  exact ⟨by omega, ⟨i, hi, by unfold moI; rw [he], by unfold moS; rw [he]⟩, g.2.2.2.1, by omega⟩
theorem mon_at {w : World} {A : Option Addr} {y : Yr} {i : Nat} (h : RowsAt w A y.mos.length 3 (mrow y)) (hi : i < y.mos.length) :
    ∃ b off, A = some ⟨b, off, none⟩ ∧ b < w.heap.size ∧ w.cell? ⟨b, off + i * 3, none⟩ = some (.int .i64 (moI y i)) ∧ w.cell? ⟨b, off + i * 3 + 1, none⟩ = some (.bool (moS y i)) ∧ w.cell? ⟨b, off + i * 3 + 2, none⟩ = some (.int .i64 (moL y i)) := mon_get h hi
set_option maxRecDepth 100000 in
set_option maxHeartbeats 2000000 in
theorem days_any_r (y : Yr) (w : World) (hl : 0 ≤ y.lg) (hl' : y.lg ≤ 8191) :
    Calls Tryd.prog 108 #[.agg #[.int .i64 y.k, .string y.nm, .int .i64 y.lg, .int .i64 y.db]] w fun e w' => e = .returned (.int .i64 y.days) ∧ Ext w w' := by
  have hmo := fun w => months_any_r y w hl hl'
  go_enter Tryd.func108, Tryd.ntmps108
  go_upto_region 1 with (fail)
  obtain ⟨v, hv⟩ : ∃ v, v = (w.alloc (.cells #[.int .i64 y.k, .string y.nm, .int .i64 y.lg, .int .i64 y.db] 99)) := ⟨_, rfl⟩
  rw [← hv]
  have E : Ext w v := by rw [hv]; exact (Ext.refl _).alloc _
  have B1 : Held v w.heap.size 99 #[.int .i64 y.k, .string y.nm, .int .i64 y.lg, .int .i64 y.db] := by rw [hv]; exact (Held.new _ _ _)
  clear hv
  generalize w.heap.size = b1 at *
  obtain ⟨k0, k1, k2, k3⟩ := B1.c4; have lk := B1.lt
  go_upto_region 3 with (go_at_call 107; (with_reducible refine Calls.mono (hmo _) ?_); rintro e v2 ⟨mv, rfl, h, MA⟩)
  obtain ⟨MA, mcap, rfl, MM⟩ := MA
  replace E := E.trans h
  clear k0 k1 k2 k3 lk hmo h B1
  have hml := (mos_length y).2
  go_upto_region 4 with (fail)
  go_loopw [3, 5] (fun s i wr => ∃ (k : Nat) (X : Int), k ≤ y.mos.length ∧ i = .int .i64 k ∧ s = .int .i64 X ∧ 0 ≤ X ∧ X ≤ 1000 ∧ Hid (X = pre y k) ∧ Ext v2 wr) (fun _ i _ => y.mos.length - (intOf i).toNat)
  case atStart => exact ⟨0, 0, Nat.zero_le _, rfl, rfl, by omega, by omega, rfl, Ext.refl _⟩
  case round =>
    obtain ⟨k, X, hk, rfl, rfl, x0, x1, HX, hE⟩ := hrel
    obtain ⟨wo, rfl⟩ : ∃ wo : World, wo = wr := ⟨_, rfl⟩
    by_cases hlt : k < y.mos.length
    · obtain ⟨mb, mo, rfl, hmb, c0, c1, c2⟩ := mon_at (MM.ext hE) hlt
      have hb := moL_bd y k
      have HS := Lib.hid (pre_succ hlt)
      have HP := Lib.hid (pre_bd (y := y) (k := k + 1) hlt)
      generalize y.mos.length = L at *
      generalize moL y k = q at *
      obtain ⟨q0, q1⟩ := hb
      go_wp2
      have g1 := HX.out
      have g2 := HS.out
      have g3 := HP.out
      exact ⟨⟨k + 1, X + q, by omega, by go_num, by go_num, by omega, by omega, by unfold Hid; rw [g2, g1], hE⟩, by simp [intOf]; omega⟩
    · obtain rfl : k = y.mos.length := by omega
      have HR := Lib.hid (pre_all y)
      generalize y.mos.length = L at *
      go_wp2
      go_ret
      exact ⟨by rw [← HR.out, ← HX.out]; rfl, E.trans hE⟩
set_option maxRecDepth 100000 in
set_option maxHeartbeats 2000000 in
theorem all_any_r (A A' : Option Addr) (ca cb : Nat) (c : Cal) (w : World) (hC : CalAt w A ca A' cb c) (hv : c.valid = true) :
    Calls Tryd.prog 80 #[.agg #[.slice A c.nk ca, .slice A' c.ny cb]] w fun e w' => e = .returned (.int .i64 c.all) ∧ Ext w w' := by
  have hny := valid_ny hv
  have hlg := valid_lg hv
  clear hv
  go_enter Tryd.func80, Tryd.ntmps80
  go_upto_region 1 with (fail)
  obtain ⟨v, hv⟩ : ∃ v, v = (w.alloc (.cells #[.slice A c.nk ca, .slice A' c.ny cb] 25)) := ⟨_, rfl⟩
  rw [← hv]
  have E : Ext w v := by rw [hv]; exact (Ext.refl _).alloc _
  have B1 : Held v w.heap.size 25 #[.slice A c.nk ca, .slice A' c.ny cb] := by rw [hv]; exact (Held.new _ _ _)
  clear hv
  have C := hC.ext E
  clear hC
  generalize w.heap.size = b1 at *
  obtain ⟨k0, k1⟩ := B1.c2; have lk := B1.lt
  go_upto_region 3 with (fail)
  go_loopw [3, 4] (fun s i wr => ∃ (k : Nat) (X : Int), k ≤ c.ny ∧ i = .int .i64 k ∧ s = .int .i64 X ∧ 0 ≤ X ∧ X ≤ 156000 ∧ Hid (X = c.dayAt k - 1) ∧ Ext v wr) (fun _ i _ => c.ny - (intOf i).toNat)
  case atStart => exact ⟨0, 0, Nat.zero_le _, rfl, rfl, by omega, by omega, rfl, Ext.refl _⟩
  case round =>
    obtain ⟨k, X, hk, rfl, rfl, x0, x1, HX, hE⟩ := hrel
    obtain ⟨wo, rfl⟩ : ∃ wo : World, wo = wr := ⟨_, rfl⟩
    clear k0 k1 lk
    obtain ⟨k0, k1⟩ := (B1.ext hE).c2
    have lk := (B1.ext hE).lt
    by_cases hlt : k < c.ny
    · obtain ⟨yb, yo, hA', hyb, y0, y1, y2, y3⟩ := (C.ext hE).year hlt
      subst hA'
      have hda := fun w => days_any_r (c.yr k) w (hlg k hlt).1 (hlg k hlt).2
      have hb := days_bd (c.yr k)
      have hd1 := dayAt_bd c (k + 1)
      have HS : Hid (c.dayAt (k + 1) = c.dayAt k + (c.yr k).days) := rfl
      have HD := Lib.hid hd1
      clear hd1
      generalize (c.yr k).days = q at *
      obtain ⟨q0, q1⟩ := hb
      go_upto_region 4 with (go_at_call 108; (with_reducible refine Calls.mono (hda _) ?_); rintro e v2 ⟨rfl, h⟩)
      go_wp2
      have g1 := HX.out
      have g2 := HS.out
      have g3 := HD.out
      exact ⟨⟨k + 1, X + q, by omega, by go_num, by go_num, by omega, by omega, by unfold Hid; omega, hE.trans h⟩, by simp [intOf]; omega⟩
    · obtain rfl : k = c.ny := by omega
      have hR : Hid (c.all = X) := by have := HX.out; unfold Hid Cal.all; omega
      go_wp2
      go_ret
      exact ⟨by rw [hR.out]; rfl, E.trans hE⟩
set_option maxRecDepth 100000 in
set_option maxHeartbeats 4000000 in
theorem counted_any_r (A A' : Option Addr) (ca cb : Nat) (c : Cal) (D : Dt) (w : World) (hC : CalAt w A ca A' cb c) (hv : c.valid = true) (hd : c.has D = true) :
    Calls Tryd.prog 91 #[.agg #[.slice A c.nk ca, .slice A' c.ny cb], .agg #[.int .i64 D.y, .int .i64 D.m, .bool D.s, .int .i64 D.d]] w fun e w' => e = .returned (.tuple #[.int .i64 (c.num D).1, .int .i64 (c.num D).2]) ∧ Ext w w' := by
  have hny := valid_ny hv
  have hlg := valid_lg hv
  clear hv
  obtain ⟨y, m, s, d⟩ := D
  simp only
  have hy0 : 0 ≤ y := (has_iff.1 hd).1.1
  obtain ⟨n, rfl⟩ := Int.eq_ofNat_of_zero_le hy0
  clear hy0
  obtain ⟨hn, hfind, d0, d1⟩ := has_find hd
  have HF := Lib.hid hfind
  have HNUM := Lib.hid (fun k hk h2 h3 => num_pos hd hn (k := k) hk rfl h2 h3)
  clear hfind hd
  generalize c.num ⟨n, m, s, d⟩ = NV at *
  go_enter Tryd.func91, Tryd.ntmps91
  go_upto_region 1 with (fail)
  obtain ⟨v, hv⟩ : ∃ v, v = ((w.alloc (.cells #[.slice A c.nk ca, .slice A' c.ny cb] 25)).alloc (.cells #[.int .i64 (n : Int), .int .i64 m, .bool s, .int .i64 d] 39)) := ⟨_, rfl⟩
  rw [← hv]
  have E : Ext w v := by rw [hv]; exact ((Ext.refl _).alloc _).alloc _
  have B1 : Held v w.heap.size 25 #[.slice A c.nk ca, .slice A' c.ny cb] := by rw [hv]; exact (Held.new _ _ _).alloc _
  have B2 : Held v (w.heap.size + 1) 39 #[.int .i64 (n : Int), .int .i64 m, .bool s, .int .i64 d] := by rw [hv]; exact Held.at _ _ _ _ (by simp)
  clear hv
  have C := hC.ext E
  clear hC
  generalize w.heap.size = b1 at *
  obtain ⟨k0, k1⟩ := B1.c2; have lk := B1.lt
  obtain ⟨p0, p1, p2, p3⟩ := B2.c4; have lp := B2.lt
  go_upto_region 3 with (fail)
  go_loopw [6, 7, 8, 9, 10] (fun dv mv yv _ _ wr => ∃ (k : Nat) (X : Int) (M : Nat), k ≤ n ∧ yv = .int .i64 k ∧ dv = .int .i64 X ∧ mv = .int .i64 (M : Int) ∧ 0 ≤ X ∧ X ≤ 156030 ∧ M ≤ 5200 ∧ Hid (X = c.dayAt k + d - 1) ∧ Hid (M = (c.itemsTo k).length) ∧ Ext v wr) (fun _ _ yv _ _ _ => n + 1 - (intOf yv).toNat)
  case atStart => exact ⟨0, d, 0, Nat.zero_le _, rfl, rfl, rfl, by omega, by omega, by omega, (by show d = 1 + d - 1; omega), rfl, Ext.refl _⟩
  case round =>
    obtain ⟨k, X, M, hk, rfl, rfl, rfl, x0, x1, m1, HX, HM, hE⟩ := hrel
    obtain ⟨wo, rfl⟩ : ∃ wo : World, wo = wr := ⟨_, rfl⟩
    clear k0 k1 lk p0 p1 p2 p3 lp
    replace B1 := B1.ext hE
    replace B2 := B2.ext hE
    replace C := C.ext hE
    obtain ⟨k0, k1⟩ := B1.c2
    have lk := B1.lt
    obtain ⟨p0, p1, p2, p3⟩ := B2.c4
    have lp := B2.lt
    have hkn : k < c.ny := by omega
    have hkb : decide ((k : Int) ≤ (n : Int)) = true := decide_eq_true (by omega)
    obtain ⟨yb, yo, hA', hyb, y0, y1, y2, y3⟩ := C.year hkn
    subst hA'
    have hmo := fun w => months_any_r (c.yr k) w (hlg k hkn).1 (hlg k hkn).2
    have HP := Lib.hid (fun j hj => num_pos_at (c := c) (d := d) hkn (j := j) hj HNUM HX HM)
    have HD : Hid (c.dayAt (k + 1) = c.dayAt k + (c.yr k).days) := rfl
    have HB := Lib.hid (dayAt_bd c (k + 1))
    have HI := Lib.hid (itemsTo_next c k)
    have HIL := Lib.hid (itemsTo_length c (k + 1))
    have HA := Lib.hid (pre_all (c.yr k))
    have HF' : Hid (k = n → ∃ j, j < (c.yr k).mos.length ∧ moI (c.yr k) j = m ∧ moS (c.yr k) j = s) := fun e => by subst e; exact HF.out
    have hml := (mos_length (c.yr k)).2
    generalize (c.yr k).days = dys at *
    generalize c.yr k = Y at *
    go_upto_region 6 with (go_at_call 107; (with_reducible refine Calls.mono (hmo _) ?_); rintro e v2 ⟨mv, rfl, h, MA⟩)
    obtain ⟨MA, mcap, rfl, MM⟩ := MA
    clear y0 y1 y2 y3 hyb hmo k0 k1 lk p0 p1 p2 p3 lp
    replace B2 := B2.ext h
    obtain ⟨p0, p1, p2, p3⟩ := B2.c4
    have lp := B2.lt
    go_upto_region 7 with (fail)
    go_loopw [6, 7, 10] (fun dv mv iv wr => ∃ (j : Nat) (X' : Int), j ≤ Y.mos.length ∧ iv = .int .i64 j ∧ dv = .int .i64 X' ∧ mv = .int .i64 ((M + j : Nat) : Int) ∧ 0 ≤ X' ∧ X' ≤ 156500 ∧ Hid (X' = X + pre Y j) ∧ Hid (k = n → ∀ i, i < j → ¬ (moI Y i = m ∧ moS Y i = s)) ∧ Ext v2 wr) (fun _ _ iv _ => Y.mos.length - (intOf iv).toNat)
    case atStart => exact ⟨0, X, Nat.zero_le _, rfl, rfl, rfl, x0, by omega, (by show X = X + 0; omega), (fun _ i hi => absurd hi (by omega)), Ext.refl _⟩
    case round =>
      obtain ⟨j, X', hj, rfl, rfl, rfl, z0, z1, HX', HN, hE2⟩ := hrel
      obtain ⟨wi, rfl⟩ : ∃ wi : World, wi = wr := ⟨_, rfl⟩
      clear p0 p1 p2 p3 lp
      obtain ⟨p0, p1, p2, p3⟩ := (B2.ext hE2).c4
      have lp := (B2.ext hE2).lt
      by_cases hlt : j < Y.mos.length
      · obtain ⟨mb, mo, rfl, hmb, c0, c1, c2⟩ := mon_at (MM.ext hE2) hlt
        have HPj := HP.out j hlt
        have hq := moL_bd Y j
        have HS := Lib.hid (pre_succ hlt)
        have HPB := Lib.hid (pre_bd (y := Y) (k := j + 1) hlt)
        have HN' : Hid ((k = n → ¬ (moI Y j = m ∧ moS Y j = s)) → k = n → ∀ i, i < j + 1 → ¬ (moI Y i = m ∧ moS Y i = s)) := fun h0 e i hi => by
          by_cases e2 : i = j
          · subst e2; exact h0 e
          · exact HN.out e i (by omega)
        generalize Y.mos.length = L at *
        generalize moI Y j = x at *
        generalize moS Y j = z at *
        generalize moL Y j = q at *
        obtain ⟨q0, q1⟩ := hq
        by_cases hkn : k = n
        · have hknb : ((k : Int) == (n : Int)) = true := by rw [hkn]; exact beq_self_eq_true _
          by_cases hx : x = m
          · have hxb : (x == m) = true := by rw [hx]; exact beq_self_eq_true _
            by_cases hz : z = s
            · have hzb : (z == s) = true := by rw [hz]; exact beq_self_eq_true _
              have HR : Hid (NV = (X', ((M + j : Nat) : Int) + 1)) := by rw [HX'.out]; exact HPj hkn hx hz
              clear HPj hkn hx hz HN'
              go_upto_region 10 with (fail)
              refine wp_region_xw wi mixed (by kernel_rfl) (by repeat (first | exact Ext.refl _ | (refine Ext.alloc ?_ _) | (refine Ext.trans ?_ (by assumption)))) ?_
              intro hne hrx hry
              try simp only []
              try simp only [List.append_eq, List.cons_append, List.nil_append]
              skip
              repeat (first
                | go_big_quiet_skip
                | (go_big_quiet_want; go_big_quiet_op; go_big_quiet_on))
              clear hne hry hrx
              refine wpQuiet_nil ?_
              intro wn hwn
              obtain ⟨hcwn, hfwn, hzwn⟩ := Ext.rules hwn
              try simp only [World.size_alloc] at hzwn
              obtain ⟨hcbwn, hfbwn, hzbwn⟩ := Ext.rules (show Ext wi wn from (by repeat (first | exact Ext.refl _ | (refine Ext.alloc ?_ _) | (refine Ext.trans ?_ (by assumption)))))
              clear hcwn hfwn
              go_wp2
              go_ret2
              exact ⟨by rw [HR.out]; rfl, (by repeat (first | exact Ext.refl _ | (refine Ext.alloc ?_ _) | (refine Ext.trans ?_ (by assumption))))⟩
            · have hzb : (z == s) = false := beq_eq_false_iff_ne.2 hz
              have HQ := Lib.hid (HN'.out (fun _ g => hz g.2))
              clear HPj hkn hx hz HN'
              go_upto_region 10 with (fail)
              refine wp_region_xw wi mixed (by kernel_rfl) (by repeat (first | exact Ext.refl _ | (refine Ext.alloc ?_ _) | (refine Ext.trans ?_ (by assumption)))) ?_
              intro hne hrx hry
              try simp only []
              try simp only [List.append_eq, List.cons_append, List.nil_append]
              skip
              repeat (first
                | go_big_quiet_skip
                | (go_big_quiet_want; go_big_quiet_op; go_big_quiet_on))
              clear hne hry hrx
              refine wpQuiet_nil ?_
              intro wn hwn
              obtain ⟨hcwn, hfwn, hzwn⟩ := Ext.rules hwn
              try simp only [World.size_alloc] at hzwn
              obtain ⟨hcbwn, hfbwn, hzbwn⟩ := Ext.rules (show Ext wi wn from (by repeat (first | exact Ext.refl _ | (refine Ext.alloc ?_ _) | (refine Ext.trans ?_ (by assumption)))))
              clear hcwn hfwn
              go_wp2
              have g1 := HX'.out
              have g2 := HS.out
              have g3 := HPB.out
              exact ⟨⟨j + 1, X' + q, by omega, by go_num, by go_num, by go_num, by omega, by omega, by unfold Hid; rw [g2, g1]; omega, HQ.out, (by repeat (first | exact Ext.refl _ | (refine Ext.alloc ?_ _) | (refine Ext.trans ?_ (by assumption))))⟩, by simp [intOf]; omega⟩
          · have hxb : (x == m) = false := beq_eq_false_iff_ne.2 hx
            have HQ := Lib.hid (HN'.out (fun _ g => hx g.1))
            clear HPj hkn hx HN'
            go_upto_region 10 with (fail)
            refine wp_region_xw wi mixed (by kernel_rfl) (by repeat (first | exact Ext.refl _ | (refine Ext.alloc ?_ _) | (refine Ext.trans ?_ (by assumption)))) ?_
            intro hne hrx hry
            try simp only []
            try simp only [List.append_eq, List.cons_append, List.nil_append]
            skip
            repeat (first
              | go_big_quiet_skip
              | (go_big_quiet_want; go_big_quiet_op; go_big_quiet_on))
            clear hne hry hrx
            refine wpQuiet_nil ?_
            intro wn hwn
            obtain ⟨hcwn, hfwn, hzwn⟩ := Ext.rules hwn
            try simp only [World.size_alloc] at hzwn
            obtain ⟨hcbwn, hfbwn, hzbwn⟩ := Ext.rules (show Ext wi wn from (by repeat (first | exact Ext.refl _ | (refine Ext.alloc ?_ _) | (refine Ext.trans ?_ (by assumption)))))
            clear hcwn hfwn
            go_wp2
            have g1 := HX'.out
            have g2 := HS.out
            have g3 := HPB.out
            exact ⟨⟨j + 1, X' + q, by omega, by go_num, by go_num, by go_num, by omega, by omega, by unfold Hid; rw [g2, g1]; omega, HQ.out, (by repeat (first | exact Ext.refl _ | (refine Ext.alloc ?_ _) | (refine Ext.trans ?_ (by assumption))))⟩, by simp [intOf]; omega⟩
        · have hknb : ((k : Int) == (n : Int)) = false := beq_eq_false_iff_ne.2 (by omega)
          have HQ := Lib.hid (HN'.out (fun g _ => hkn g))
          clear HPj hkn HN'
          go_upto_region 10 with (fail)
          refine wp_region_xw wi mixed (by kernel_rfl) (by repeat (first | exact Ext.refl _ | (refine Ext.alloc ?_ _) | (refine Ext.trans ?_ (by assumption)))) ?_
          intro hne hrx hry
          try simp only []
          try simp only [List.append_eq, List.cons_append, List.nil_append]
          skip
          repeat (first
            | go_big_quiet_skip
            | (go_big_quiet_want; go_big_quiet_op; go_big_quiet_on))
          clear hne hry hrx
          refine wpQuiet_nil ?_
          intro wn hwn
          obtain ⟨hcwn, hfwn, hzwn⟩ := Ext.rules hwn
          try simp only [World.size_alloc] at hzwn
          obtain ⟨hcbwn, hfbwn, hzbwn⟩ := Ext.rules (show Ext wi wn from (by repeat (first | exact Ext.refl _ | (refine Ext.alloc ?_ _) | (refine Ext.trans ?_ (by assumption)))))
          clear hcwn hfwn
          go_wp2
          have g1 := HX'.out
          have g2 := HS.out
          have g3 := HPB.out
          exact ⟨⟨j + 1, X' + q, by omega, by go_num, by go_num, by go_num, by omega, by omega, by unfold Hid; rw [g2, g1]; omega, HQ.out, (by repeat (first | exact Ext.refl _ | (refine Ext.alloc ?_ _) | (refine Ext.trans ?_ (by assumption))))⟩, by simp [intOf]; omega⟩
      · obtain rfl : j = Y.mos.length := by omega
        have hkn : k < n := by
          rcases Nat.lt_or_ge k n with h | h
          · exact h
          · obtain ⟨i, hi, h1, h2⟩ := HF'.out (by omega)
            exact absurd ⟨h1, h2⟩ (HN.out (by omega) i hi)
        have f1 := HX'.out
        have f2 := HX.out
        have f3 := HD.out
        have f4 := HA.out
        have f5 := HM.out
        have f6 := HI.out
        have f7 := HB.out
        have f8 := HIL.out
        have G1 : Hid (X' = c.dayAt (k + 1) + d - 1 ∧ M + Y.mos.length = (c.itemsTo (k + 1)).length ∧ X' ≤ 156030 ∧ M + Y.mos.length ≤ 5200) := ⟨by omega, by omega, by omega, by omega⟩
        clear f1 f2 f3 f4 f5 f6 f7 f8
        generalize Y.mos.length = L at *
        go_wp2
        obtain ⟨e1, e2, e3, e4⟩ := G1.out
        exact ⟨⟨k + 1, X', M + L, by omega, by go_num, rfl, by go_num, z0, by omega, by omega, e1, e2, (by repeat (first | exact Ext.refl _ | (refine Ext.alloc ?_ _) | (refine Ext.trans ?_ (by assumption))))⟩, by simp [intOf]; omega⟩
end Go.Proofs.YtfchchmmjabjnaaDoor

namespace Go.Proofs.YtfchchmmjabjnaaDoor
open Go Go.RowKit
attribute [local go_sem] gv_yes

theorem at_found {c : Cal} {n X' : Int} {k j : Nat} {D : Dt} (hD : c.at? n = some D) (hy : k < c.ny) (hj : j < (c.yr k).mos.length) (hX : X' = n - (c.dayAt k - 1) - pre (c.yr k) j) (h1 : 1 ≤ X') (h2 : X' ≤ moL (c.yr k) j) : D = ⟨k, moI (c.yr k) j, moS (c.yr k) j, X'⟩ := by
  have := at_pos hy hj (n := n) (by omega) (by omega)
  rw [hD] at this
  rw [Option.some.inj this, hX]
  congr 1
  omega
set_option maxRecDepth 100000 in
set_option maxHeartbeats 4000000 in
theorem at_any_r (A A' : Option Addr) (ca cb : Nat) (c : Cal) (n : Int) (D : Dt) (w : World) (hC : CalAt w A ca A' cb c) (hv : c.valid = true) (hD : c.at? n = some D) :
    Calls Tryd.prog 92 #[.agg #[.slice A c.nk ca, .slice A' c.ny cb], .int .i64 n] w fun e w' => e = .returned (.agg #[.int .i64 D.y, .int .i64 D.m, .bool D.s, .int .i64 D.d]) ∧ Ext w w' := by
  have hny := valid_ny hv
  have hlg := valid_lg hv
  clear hv
  obtain ⟨hh, hnn⟩ := at_has hD
  have hin := num_in hh
  rw [hnn] at hin
  obtain ⟨n0, n1⟩ := hin
  have HB0 := Lib.hid (dayAt_bd c c.ny)
  have HN1 := Lib.hid n1
  have n2 : n ≤ 156000 := by have := HB0.out; omega
  have HDD := Lib.hid (fun k hk j X' hj hX h1 h2 => at_found hD (k := k) (j := j) (X' := X') hk hj hX h1 h2)
  clear hh hnn n1 HB0 hD
  go_enter Tryd.func92, Tryd.ntmps92
  go_upto_region 1 with (fail)
  obtain ⟨v, hv⟩ : ∃ v, v = ((w.alloc (.cells #[.slice A c.nk ca, .slice A' c.ny cb] 25)).alloc (.cells #[.int .i64 0, .int .i64 0, .bool false, .int .i64 0] 39)) := ⟨_, rfl⟩
  rw [← hv]
  have E : Ext w v := by rw [hv]; exact ((Ext.refl _).alloc _).alloc _
  have B1 : Held v w.heap.size 25 #[.slice A c.nk ca, .slice A' c.ny cb] := by rw [hv]; exact (Held.new _ _ _).alloc _
  have B2 : Held v (w.heap.size + 1) 39 #[.int .i64 0, .int .i64 0, .bool false, .int .i64 0] := by rw [hv]; exact Held.at _ _ _ _ (by simp)
  clear hv
  have C := hC.ext E
  clear hC
  generalize hb1 : w.heap.size = b1 at *
  replace hb1 := Lib.hid hb1
  obtain ⟨k0, k1⟩ := B1.c2; have lk := B1.lt
  obtain ⟨p0, p1, p2, p3⟩ := B2.c4; have lp := B2.lt
  go_upto_region 2 with (fail)
  go_loopw [1, 5, 6, 7] (fun nv yv _ _ wr => ∃ (k : Nat) (X : Int), k ≤ c.ny ∧ yv = .int .i64 k ∧ nv = .int .i64 X ∧ 1 ≤ X ∧ X ≤ 156000 ∧ Hid (X = n - (c.dayAt k - 1)) ∧ Ext v wr) (fun _ yv _ _ _ => c.ny - (intOf yv).toNat)
  case atStart => exact ⟨0, n, Nat.zero_le _, rfl, rfl, n0, n2, (by show n = n - (1 - 1); omega), Ext.refl _⟩
  case round =>
    obtain ⟨k, X, hk, rfl, rfl, x0, x1, HX, hE⟩ := hrel
    obtain ⟨wo, rfl⟩ : ∃ wo : World, wo = wr := ⟨_, rfl⟩
    clear k0 k1 lk p0 p1 p2 p3 lp
    replace B1 := B1.ext hE
    replace B2 := B2.ext hE
    replace C := C.ext hE
    obtain ⟨k0, k1⟩ := B1.c2
    have lk := B1.lt
    have hkn : k < c.ny := by
      rcases Nat.lt_or_ge k c.ny with h | h
      · exact h
      · have f1 := HX.out
        have f2 := HN1.out
        obtain rfl : k = c.ny := by omega
        omega
    have hkb : decide ((k : Int) < (c.ny : Int)) = true := decide_eq_true (by omega)
    obtain ⟨yb, yo, hA', hyb, y0, y1, y2, y3⟩ := C.year hkn
    subst hA'
    have hmo := fun w => months_any_r (c.yr k) w (hlg k hkn).1 (hlg k hkn).2
    have HP := Lib.hid (fun j X' hj hX h1 h2 => HDD.out k hkn j X' hj hX h1 h2)
    have HD : Hid (c.dayAt (k + 1) = c.dayAt k + (c.yr k).days) := rfl
    have HA := Lib.hid (pre_all (c.yr k))
    have hml := (mos_length (c.yr k)).2
    generalize (c.yr k).days = dys at *
    generalize c.yr k = Y at *
    go_upto_region 5 with (go_at_call 107; (with_reducible refine Calls.mono (hmo _) ?_); rintro e v2 ⟨mv, rfl, h, MA⟩)
    obtain ⟨MA, mcap, rfl, MM⟩ := MA
    clear y0 y1 y2 y3 hyb hmo k0 k1 lk
    replace B2 := B2.ext h
    go_upto_region 6 with (fail)
    go_loopw [1, 7] (fun nv iv wr => ∃ (j : Nat) (X' : Int), j ≤ Y.mos.length ∧ iv = .int .i64 j ∧ nv = .int .i64 X' ∧ 1 ≤ X' ∧ X' ≤ 156000 ∧ Hid (X' = X - pre Y j) ∧ Ext v2 wr) (fun _ iv _ => Y.mos.length - (intOf iv).toNat)
    case atStart => exact ⟨0, X, Nat.zero_le _, rfl, rfl, x0, x1, (by show X = X - 0; omega), Ext.refl _⟩
    case round =>
      obtain ⟨j, X', hj, rfl, rfl, z0, z1, HX', hE2⟩ := hrel
      obtain ⟨wi, rfl⟩ : ∃ wi : World, wi = wr := ⟨_, rfl⟩
      by_cases hlt : j < Y.mos.length
      · obtain ⟨mb, mo, rfl, hmb, c0, c1, c2⟩ := mon_at (MM.ext hE2) hlt
        have HPj := fun h2 => HP.out j X' hlt (by have f1 := HX'.out; have f2 := HX.out; omega) z0 h2
        have hq := moL_bd Y j
        have HS := Lib.hid (pre_succ hlt)
        generalize Y.mos.length = L at *
        generalize moI Y j = x at *
        generalize moS Y j = z at *
        generalize moL Y j = q at *
        obtain ⟨q0, q1⟩ := hq
        by_cases hle : X' ≤ q
        · have HR : Hid (D = ⟨k, x, z, X'⟩) := HPj hle
          have hleb : decide (X' ≤ q) = true := decide_eq_true hle
          clear HPj
          have B2i := B2.ext hE2
          obtain ⟨p0, p1, p2, p3⟩ := B2i.c4
          have lp := B2i.lt
          go_upto_region 9 with (fail)
          refine wp_region_xs 13 wi mixed (by kernel_rfl) (by repeat (first | exact Ext.refl _ | (refine Ext.alloc ?_ _) | (refine Ext.trans ?_ (by assumption)))) ?_
          intro hne hrx hry
          try simp only []
          try simp only [List.append_eq, List.cons_append, List.nil_append]
          simp only [List.take_succ_cons, List.take_zero, List.drop_succ_cons, List.drop_zero]
          skip
          repeat (first
            | go_big_quiet_skip
            | (go_big_quiet_want; go_big_quiet_op; go_big_quiet_on))
          clear hne hry hrx
          refine wpQuiet_nil ?_
          intro wn hwn
          obtain ⟨hcwn, hfwn, hzwn⟩ := Ext.rules hwn
          try simp only [World.size_alloc] at hzwn
          obtain ⟨hcbwn, hfbwn, hzbwn⟩ := Ext.rules (show Ext wi wn from (by repeat (first | exact Ext.refl _ | (refine Ext.alloc ?_ _) | (refine Ext.trans ?_ (by assumption)))))
          clear hcwn hfwn
          have hrb := B2i.ext hwn
          have f0 := B2i.frozen 0
          have f1 := B2i.frozen 1
          have f2 := B2i.frozen 2
          have f3 := B2i.frozen 3
          have lr := hrb.lt
          go_wp2
          obtain ⟨⟨g0, g1, g2, g3⟩, gE⟩ := four_set hrb (.int .i64 (k : Int)) (.int .i64 x) (.bool z) (.int .i64 X')
          have hfin : Ext w wn := E.trans (hE.trans (h.trans (hE2.trans hwn)))
          refine bodyPost_ret (v := .agg #[.int .i64 (k : Int), .int .i64 x, .bool z, .int .i64 X']) (by simp [results, Tryd.results92, go_sem, g0, g1, g2, g3]) rfl ⟨by rw [HR.out], gE w hfin (by have := hb1.out; omega)⟩
        · have hleb : decide (X' ≤ q) = false := decide_eq_false hle
          clear HPj
          go_wp2
          have g1 := HX'.out
          have g2 := HS.out
          exact ⟨⟨j + 1, X' - q, by omega, by go_num, by go_num, by omega, by omega, by unfold Hid; rw [g2, g1]; omega, hE2⟩, by simp [intOf]; omega⟩
      · obtain rfl : j = Y.mos.length := by omega
        have G1 : Hid (X' = n - (c.dayAt (k + 1) - 1)) := by
          have f1 := HX'.out
          have f2 := HX.out
          have f3 := HD.out
          have f4 := HA.out
          show X' = _
          omega
        generalize Y.mos.length = L at *
        go_wp2
        exact ⟨⟨k + 1, X', by omega, by go_num, rfl, z0, z1, G1, hE.trans (h.trans hE2)⟩, by simp [intOf]; omega⟩
end Go.Proofs.YtfchchmmjabjnaaDoor

namespace Go.Proofs.YtfchchmmjabjnaaDoor
open Go Go.RowKit
attribute [local go_sem] gv_yes
set_option maxRecDepth 100000 in
set_option maxHeartbeats 4000000 in
theorem two_any_r (A A' : Option Addr) (ca cb : Nat) (c : Cal) (a b : Dt) (w : World) (hC : CalAt w A ca A' cb c) :
    Calls Tryd.prog 87 #[.agg #[.slice A c.nk ca, .slice A' c.ny cb], .agg #[.int .i64 a.y, .int .i64 a.m, .bool a.s, .int .i64 a.d], .agg #[.int .i64 b.y, .int .i64 b.m, .bool b.s, .int .i64 b.d]] w fun e w' => e = .returned (.int .i64 (c.in2E a b)) ∧ Ext w w' := by
  have NV := fun v (h : CalAt v A ca A' cb c) => validR_any A A' ca cb c v h
  unfold Cal.in2E
  cases hv : c.valid
  · rw [hv] at NV
    clear hv
    go_enter Tryd.func87, Tryd.ntmps87
    go_upto_region 1 with (fail)
    obtain ⟨v, hv⟩ : ∃ v, v = (((w.alloc (.cells #[.slice A c.nk ca, .slice A' c.ny cb] 25)).alloc (.cells #[.int .i64 a.y, .int .i64 a.m, .bool a.s, .int .i64 a.d] 39)).alloc (.cells #[.int .i64 b.y, .int .i64 b.m, .bool b.s, .int .i64 b.d] 39)) := ⟨_, rfl⟩
    rw [← hv]
    have E : Ext w v := by rw [hv]; exact (((Ext.refl _).alloc _).alloc _).alloc _
    have B1 : Held v w.heap.size 25 #[.slice A c.nk ca, .slice A' c.ny cb] := by rw [hv]; exact ((Held.new _ _ _).alloc _).alloc _
    have B2 : Held v (w.heap.size + 1) 39 #[.int .i64 a.y, .int .i64 a.m, .bool a.s, .int .i64 a.d] := by rw [hv]; exact (Held.at _ _ _ _ (by simp)).alloc _
    have B3 : Held v (w.heap.size + 1 + 1) 39 #[.int .i64 b.y, .int .i64 b.m, .bool b.s, .int .i64 b.d] := by rw [hv]; exact Held.at _ _ _ _ (by simp)
    clear hv
    have C := hC.ext E
    clear hC
    generalize hb1 : w.heap.size = b1 at *
    replace hb1 := Lib.hid hb1
    obtain ⟨k0, k1⟩ := B1.c2; have lk := B1.lt
    obtain ⟨p0, p1, p2, p3⟩ := B2.c4; have lp := B2.lt
    obtain ⟨q0, q1, q2, q3⟩ := B3.c4; have lq := B3.lt
    go_wp2_with (go_at_call 78; (with_reducible refine Calls.mono (NV _ C) ?_); rintro e v2 ⟨rfl, hx⟩)
    go_ret
    exact ⟨rfl, E.trans hx⟩
  · have N1 := fun v (h : CalAt v A ca A' cb c) => has_any_r A A' ca cb c a v h hv
    have N2 := fun v (h : CalAt v A ca A' cb c) => has_any_r A A' ca cb c b v h hv
    rw [hv] at NV
    clear hv
    cases ha : c.has a
    · rw [ha] at N1
      clear ha
      go_enter Tryd.func87, Tryd.ntmps87
      go_upto_region 1 with (fail)
      obtain ⟨v, hv⟩ : ∃ v, v = (((w.alloc (.cells #[.slice A c.nk ca, .slice A' c.ny cb] 25)).alloc (.cells #[.int .i64 a.y, .int .i64 a.m, .bool a.s, .int .i64 a.d] 39)).alloc (.cells #[.int .i64 b.y, .int .i64 b.m, .bool b.s, .int .i64 b.d] 39)) := ⟨_, rfl⟩
      rw [← hv]
      have E : Ext w v := by rw [hv]; exact (((Ext.refl _).alloc _).alloc _).alloc _
      have B1 : Held v w.heap.size 25 #[.slice A c.nk ca, .slice A' c.ny cb] := by rw [hv]; exact ((Held.new _ _ _).alloc _).alloc _
      have B2 : Held v (w.heap.size + 1) 39 #[.int .i64 a.y, .int .i64 a.m, .bool a.s, .int .i64 a.d] := by rw [hv]; exact (Held.at _ _ _ _ (by simp)).alloc _
      have B3 : Held v (w.heap.size + 1 + 1) 39 #[.int .i64 b.y, .int .i64 b.m, .bool b.s, .int .i64 b.d] := by rw [hv]; exact Held.at _ _ _ _ (by simp)
      clear hv
      have C := hC.ext E
      clear hC
      generalize hb1 : w.heap.size = b1 at *
      replace hb1 := Lib.hid hb1
      obtain ⟨k0, k1⟩ := B1.c2; have lk := B1.lt
      obtain ⟨p0, p1, p2, p3⟩ := B2.c4; have lp := B2.lt
      obtain ⟨q0, q1, q2, q3⟩ := B3.c4; have lq := B3.lt
      go_upto_region 3 with (go_at_call 78; (with_reducible refine Calls.mono (NV _ C) ?_); rintro e v2 ⟨rfl, h⟩)
      replace E := Ext.trans E h
      replace C := C.ext h
      replace B1 := B1.ext h
      replace B2 := B2.ext h
      replace B3 := B3.ext h
      clear h
      clear k0 k1 lk
      clear p0 p1 p2 p3 lp
      clear q0 q1 q2 q3 lq
      obtain ⟨k0, k1⟩ := B1.c2; have lk := B1.lt
      obtain ⟨p0, p1, p2, p3⟩ := B2.c4; have lp := B2.lt
      obtain ⟨q0, q1, q2, q3⟩ := B3.c4; have lq := B3.lt
      go_wp2_with (go_at_call 101; (with_reducible refine Calls.mono (N1 _ C) ?_); rintro e v3 ⟨rfl, hx⟩)
      go_ret
      exact ⟨rfl, E.trans hx⟩
    · rw [ha] at N1
      clear ha
      cases hb : c.has b
      · rw [hb] at N2
        clear hb
        go_enter Tryd.func87, Tryd.ntmps87
        go_upto_region 1 with (fail)
        obtain ⟨v, hv⟩ : ∃ v, v = (((w.alloc (.cells #[.slice A c.nk ca, .slice A' c.ny cb] 25)).alloc (.cells #[.int .i64 a.y, .int .i64 a.m, .bool a.s, .int .i64 a.d] 39)).alloc (.cells #[.int .i64 b.y, .int .i64 b.m, .bool b.s, .int .i64 b.d] 39)) := ⟨_, rfl⟩
        rw [← hv]
        have E : Ext w v := by rw [hv]; exact (((Ext.refl _).alloc _).alloc _).alloc _
        have B1 : Held v w.heap.size 25 #[.slice A c.nk ca, .slice A' c.ny cb] := by rw [hv]; exact ((Held.new _ _ _).alloc _).alloc _
        have B2 : Held v (w.heap.size + 1) 39 #[.int .i64 a.y, .int .i64 a.m, .bool a.s, .int .i64 a.d] := by rw [hv]; exact (Held.at _ _ _ _ (by simp)).alloc _
        have B3 : Held v (w.heap.size + 1 + 1) 39 #[.int .i64 b.y, .int .i64 b.m, .bool b.s, .int .i64 b.d] := by rw [hv]; exact Held.at _ _ _ _ (by simp)
        clear hv
        have C := hC.ext E
        clear hC
        generalize hb1 : w.heap.size = b1 at *
        replace hb1 := Lib.hid hb1
        obtain ⟨k0, k1⟩ := B1.c2; have lk := B1.lt
        obtain ⟨p0, p1, p2, p3⟩ := B2.c4; have lp := B2.lt
        obtain ⟨q0, q1, q2, q3⟩ := B3.c4; have lq := B3.lt
        go_upto_region 3 with (go_at_call 78; (with_reducible refine Calls.mono (NV _ C) ?_); rintro e v2 ⟨rfl, h⟩)
        replace E := Ext.trans E h
        replace C := C.ext h
        replace B1 := B1.ext h
        replace B2 := B2.ext h
        replace B3 := B3.ext h
        clear h
        clear k0 k1 lk
        clear p0 p1 p2 p3 lp
        clear q0 q1 q2 q3 lq
        obtain ⟨k0, k1⟩ := B1.c2; have lk := B1.lt
        obtain ⟨p0, p1, p2, p3⟩ := B2.c4; have lp := B2.lt
        obtain ⟨q0, q1, q2, q3⟩ := B3.c4; have lq := B3.lt
        clear k0 k1 lk p0 p1 p2 p3 lp q0 q1 q2 q3 lq
        obtain ⟨k0, k1⟩ := B1.c2; have lk := B1.lt
        obtain ⟨p0, p1, p2, p3⟩ := B2.c4; have lp := B2.lt
        obtain ⟨q0, q1, q2, q3⟩ := B3.c4; have lq := B3.lt
        go_wp2_with (first | (go_at_call 101; (with_reducible refine Calls.mono (N1 _ C) ?_); rintro e v3 ⟨rfl, h1⟩; have C3 := C.ext h1; clear k0 k1 lk q0 q1 q2 q3 lq; obtain ⟨k0, k1⟩ := (B1.ext h1).c2; have lk := (B1.ext h1).lt; obtain ⟨q0, q1, q2, q3⟩ := (B3.ext h1).c4; have lq := (B3.ext h1).lt) | (go_at_call 101; (with_reducible refine Calls.mono (N2 _ C3) ?_); rintro e v4 ⟨rfl, h2⟩))
        go_ret
        exact ⟨rfl, E.trans (h1.trans h2)⟩
      · rw [hb] at N2
        clear hb
        go_enter Tryd.func87, Tryd.ntmps87
        go_upto_region 1 with (fail)
        obtain ⟨v, hv⟩ : ∃ v, v = (((w.alloc (.cells #[.slice A c.nk ca, .slice A' c.ny cb] 25)).alloc (.cells #[.int .i64 a.y, .int .i64 a.m, .bool a.s, .int .i64 a.d] 39)).alloc (.cells #[.int .i64 b.y, .int .i64 b.m, .bool b.s, .int .i64 b.d] 39)) := ⟨_, rfl⟩
        rw [← hv]
        have E : Ext w v := by rw [hv]; exact (((Ext.refl _).alloc _).alloc _).alloc _
        have B1 : Held v w.heap.size 25 #[.slice A c.nk ca, .slice A' c.ny cb] := by rw [hv]; exact ((Held.new _ _ _).alloc _).alloc _
        have B2 : Held v (w.heap.size + 1) 39 #[.int .i64 a.y, .int .i64 a.m, .bool a.s, .int .i64 a.d] := by rw [hv]; exact (Held.at _ _ _ _ (by simp)).alloc _
        have B3 : Held v (w.heap.size + 1 + 1) 39 #[.int .i64 b.y, .int .i64 b.m, .bool b.s, .int .i64 b.d] := by rw [hv]; exact Held.at _ _ _ _ (by simp)
        clear hv
        have C := hC.ext E
        clear hC
        generalize hb1 : w.heap.size = b1 at *
        replace hb1 := Lib.hid hb1
        obtain ⟨k0, k1⟩ := B1.c2; have lk := B1.lt
        obtain ⟨p0, p1, p2, p3⟩ := B2.c4; have lp := B2.lt
        obtain ⟨q0, q1, q2, q3⟩ := B3.c4; have lq := B3.lt
        go_upto_region 3 with (go_at_call 78; (with_reducible refine Calls.mono (NV _ C) ?_); rintro e v2 ⟨rfl, h⟩)
        replace E := Ext.trans E h
        replace C := C.ext h
        replace B1 := B1.ext h
        replace B2 := B2.ext h
        replace B3 := B3.ext h
        clear h
        clear k0 k1 lk
        clear p0 p1 p2 p3 lp
        clear q0 q1 q2 q3 lq
        obtain ⟨k0, k1⟩ := B1.c2; have lk := B1.lt
        obtain ⟨p0, p1, p2, p3⟩ := B2.c4; have lp := B2.lt
        obtain ⟨q0, q1, q2, q3⟩ := B3.c4; have lq := B3.lt
        clear k0 k1 lk p0 p1 p2 p3 lp q0 q1 q2 q3 lq
        obtain ⟨k0, k1⟩ := B1.c2; have lk := B1.lt
        obtain ⟨p0, p1, p2, p3⟩ := B2.c4; have lp := B2.lt
        obtain ⟨q0, q1, q2, q3⟩ := B3.c4; have lq := B3.lt
        go_wp2_with (first | (go_at_call 101; (with_reducible refine Calls.mono (N1 _ C) ?_); rintro e v3 ⟨rfl, h1⟩; have C3 := C.ext h1; clear k0 k1 lk q0 q1 q2 q3 lq; obtain ⟨k0, k1⟩ := (B1.ext h1).c2; have lk := (B1.ext h1).lt; obtain ⟨q0, q1, q2, q3⟩ := (B3.ext h1).c4; have lq := (B3.ext h1).lt) | (go_at_call 101; (with_reducible refine Calls.mono (N2 _ C3) ?_); rintro e v4 ⟨rfl, h2⟩))
        go_ret
        exact ⟨rfl, E.trans (h1.trans h2)⟩
theorem num_month {c : Cal} {d : Dt} (h : c.has d = true) (hny : c.ny ≤ 400) : 0 ≤ (c.num d).2 ∧ (c.num d).2 ≤ 5200 := by
  obtain ⟨i, x, hx, _, hn, _, _⟩ := num_ix h
  have hi := (List.getElem?_eq_some_iff.1 hx).1
  have hl := itemsTo_length c c.ny
  rw [hn]
  simp only
  have : c.items.length = (c.itemsTo c.ny).length := rfl
  omega
theorem in2E_same (c : Cal) (d : Dt) : c.in2E d d = c.inE d := by unfold Cal.in2E Cal.inE; cases c.has d <;> rfl
set_option maxRecDepth 100000 in
set_option maxHeartbeats 4000000 in
theorem number_any_rr (A A' : Option Addr) (ca cb : Nat) (c : Cal) (d : Dt) (w : World) (hC : CalAt w A ca A' cb c) :
    Calls Tryd.prog 55 #[.agg #[.slice A c.nk ca, .slice A' c.ny cb], .agg #[.int .i64 d.y, .int .i64 d.m, .bool d.s, .int .i64 d.d]] w fun e w' => e = .returned (.tuple #[.int .i64 (c.numV d), .int .i64 (c.inE d)]) ∧ Ext w w' := by
  have NT := fun v (h : CalAt v A ca A' cb c) => two_any_r A A' ca cb c d d v h
  simp only [in2E_same] at NT
  unfold Cal.numV
  by_cases hE : c.inE d = 0
  · have hvh : c.valid = true ∧ c.has d = true := by rcases inE_cases c d with ⟨_, h⟩ | ⟨_, _, h⟩ | ⟨h1, h2, _⟩ <;> first | exact ⟨h1, h2⟩ | omega
    have N2 := fun v (h : CalAt v A ca A' cb c) => counted_any_r A A' ca cb c d v h hvh.1 hvh.2
    simp only [hE] at NT
    rw [if_pos hE, hE]
    generalize c.num d = NV at *
    clear hvh hE
    go_enter Tryd.func55, Tryd.ntmps55
    go_upto_region 1 with (fail)
    obtain ⟨v, hv⟩ : ∃ v, v = ((w.alloc (.cells #[.slice A c.nk ca, .slice A' c.ny cb] 25)).alloc (.cells #[.int .i64 d.y, .int .i64 d.m, .bool d.s, .int .i64 d.d] 39)) := ⟨_, rfl⟩
    rw [← hv]
    have E : Ext w v := by rw [hv]; exact ((Ext.refl _).alloc _).alloc _
    have B1 : Held v w.heap.size 25 #[.slice A c.nk ca, .slice A' c.ny cb] := by rw [hv]; exact (Held.new _ _ _).alloc _
    have B2 : Held v (w.heap.size + 1) 39 #[.int .i64 d.y, .int .i64 d.m, .bool d.s, .int .i64 d.d] := by rw [hv]; exact Held.at _ _ _ _ (by simp)
    clear hv
    have C := hC.ext E
    clear hC
    generalize hb1 : w.heap.size = b1 at *
    replace hb1 := Lib.hid hb1
    obtain ⟨k0, k1⟩ := B1.c2; have lk := B1.lt
    obtain ⟨p0, p1, p2, p3⟩ := B2.c4; have lp := B2.lt
    go_upto_region 2 with (go_at_call 87; (with_reducible refine Calls.mono (NT _ C) ?_); rintro e v2 ⟨rfl, h⟩)
    replace E := Ext.trans E h
    replace C := C.ext h
    replace B1 := B1.ext h
    replace B2 := B2.ext h
    clear h
    clear k0 k1 lk
    clear p0 p1 p2 p3 lp
    obtain ⟨k0, k1⟩ := B1.c2; have lk := B1.lt
    obtain ⟨p0, p1, p2, p3⟩ := B2.c4; have lp := B2.lt
    go_wp2_with (go_at_call 91; (with_reducible refine Calls.mono (N2 _ C) ?_); rintro e v3 ⟨rfl, hx⟩)
    go_ret2
    exact ⟨rfl, E.trans hx⟩
  · have hne : (c.inE d == 0) = false := beq_eq_false_iff_ne.2 hE
    rw [if_neg hE]
    clear hE
    generalize c.inE d = ee at *
    go_enter Tryd.func55, Tryd.ntmps55
    go_upto_region 1 with (fail)
    obtain ⟨v, hv⟩ : ∃ v, v = ((w.alloc (.cells #[.slice A c.nk ca, .slice A' c.ny cb] 25)).alloc (.cells #[.int .i64 d.y, .int .i64 d.m, .bool d.s, .int .i64 d.d] 39)) := ⟨_, rfl⟩
    rw [← hv]
    have E : Ext w v := by rw [hv]; exact ((Ext.refl _).alloc _).alloc _
    have B1 : Held v w.heap.size 25 #[.slice A c.nk ca, .slice A' c.ny cb] := by rw [hv]; exact (Held.new _ _ _).alloc _
    have B2 : Held v (w.heap.size + 1) 39 #[.int .i64 d.y, .int .i64 d.m, .bool d.s, .int .i64 d.d] := by rw [hv]; exact Held.at _ _ _ _ (by simp)
    clear hv
    have C := hC.ext E
    clear hC
    generalize hb1 : w.heap.size = b1 at *
    replace hb1 := Lib.hid hb1
    obtain ⟨k0, k1⟩ := B1.c2; have lk := B1.lt
    obtain ⟨p0, p1, p2, p3⟩ := B2.c4; have lp := B2.lt
    go_upto_region 2 with (go_at_call 87; (with_reducible refine Calls.mono (NT _ C) ?_); rintro e v2 ⟨rfl, h⟩)
    replace E := Ext.trans E h
    replace C := C.ext h
    replace B1 := B1.ext h
    replace B2 := B2.ext h
    clear h
    clear k0 k1 lk
    clear p0 p1 p2 p3 lp
    obtain ⟨k0, k1⟩ := B1.c2; have lk := B1.lt
    obtain ⟨p0, p1, p2, p3⟩ := B2.c4; have lp := B2.lt
    go_wp2
    go_ret2
    exact ⟨rfl, E⟩
set_option maxRecDepth 100000 in
set_option maxHeartbeats 4000000 in
theorem inX_any_r (A A' : Option Addr) (ca cb : Nat) (c : Cal) (d : Dt) (w : World) (hC : CalAt w A ca A' cb c) :
    Calls Tryd.prog 53 #[.agg #[.slice A c.nk ca, .slice A' c.ny cb], .agg #[.int .i64 d.y, .int .i64 d.m, .bool d.s, .int .i64 d.d]] w fun e w' => e = .returned (.tuple #[.bool (c.valid && c.has d), .int .i64 c.chk]) ∧ Ext w w' := by
  have NV := fun v (h : CalAt v A ca A' cb c) => validR_any A A' ca cb c v h
  unfold Cal.chk
  cases hv : c.valid
  · rw [hv] at NV
    clear hv
    go_enter Tryd.func53, Tryd.ntmps53
    go_upto_region 1 with (fail)
    obtain ⟨v, hv⟩ : ∃ v, v = ((w.alloc (.cells #[.slice A c.nk ca, .slice A' c.ny cb] 25)).alloc (.cells #[.int .i64 d.y, .int .i64 d.m, .bool d.s, .int .i64 d.d] 39)) := ⟨_, rfl⟩
    rw [← hv]
    have E : Ext w v := by rw [hv]; exact ((Ext.refl _).alloc _).alloc _
    have B1 : Held v w.heap.size 25 #[.slice A c.nk ca, .slice A' c.ny cb] := by rw [hv]; exact (Held.new _ _ _).alloc _
    have B2 : Held v (w.heap.size + 1) 39 #[.int .i64 d.y, .int .i64 d.m, .bool d.s, .int .i64 d.d] := by rw [hv]; exact Held.at _ _ _ _ (by simp)
    clear hv
    have C := hC.ext E
    clear hC
    generalize hb1 : w.heap.size = b1 at *
    replace hb1 := Lib.hid hb1
    obtain ⟨k0, k1⟩ := B1.c2; have lk := B1.lt
    obtain ⟨p0, p1, p2, p3⟩ := B2.c4; have lp := B2.lt
    go_wp2_with (go_at_call 78; (with_reducible refine Calls.mono (NV _ C) ?_); rintro e v2 ⟨rfl, hx⟩)
    go_ret2
    exact ⟨rfl, E.trans hx⟩
  · have N1 := fun v (h : CalAt v A ca A' cb c) => has_any_r A A' ca cb c d v h hv
    rw [hv] at NV
    clear hv
    go_enter Tryd.func53, Tryd.ntmps53
    go_upto_region 1 with (fail)
    obtain ⟨v, hv⟩ : ∃ v, v = ((w.alloc (.cells #[.slice A c.nk ca, .slice A' c.ny cb] 25)).alloc (.cells #[.int .i64 d.y, .int .i64 d.m, .bool d.s, .int .i64 d.d] 39)) := ⟨_, rfl⟩
    rw [← hv]
    have E : Ext w v := by rw [hv]; exact ((Ext.refl _).alloc _).alloc _
    have B1 : Held v w.heap.size 25 #[.slice A c.nk ca, .slice A' c.ny cb] := by rw [hv]; exact (Held.new _ _ _).alloc _
    have B2 : Held v (w.heap.size + 1) 39 #[.int .i64 d.y, .int .i64 d.m, .bool d.s, .int .i64 d.d] := by rw [hv]; exact Held.at _ _ _ _ (by simp)
    clear hv
    have C := hC.ext E
    clear hC
    generalize hb1 : w.heap.size = b1 at *
    replace hb1 := Lib.hid hb1
    obtain ⟨k0, k1⟩ := B1.c2; have lk := B1.lt
    obtain ⟨p0, p1, p2, p3⟩ := B2.c4; have lp := B2.lt
    go_upto_region 3 with (go_at_call 78; (with_reducible refine Calls.mono (NV _ C) ?_); rintro e v2 ⟨rfl, h⟩)
    replace E := Ext.trans E h
    replace C := C.ext h
    replace B1 := B1.ext h
    replace B2 := B2.ext h
    clear h
    clear k0 k1 lk
    clear p0 p1 p2 p3 lp
    obtain ⟨k0, k1⟩ := B1.c2; have lk := B1.lt
    obtain ⟨p0, p1, p2, p3⟩ := B2.c4; have lp := B2.lt
    go_wp2_with (go_at_call 101; (with_reducible refine Calls.mono (N1 _ C) ?_); rintro e v3 ⟨rfl, hx⟩)
    go_ret2
    exact ⟨rfl, E.trans hx⟩
set_option maxRecDepth 100000 in
set_option maxHeartbeats 4000000 in
theorem between_any_r (A A' : Option Addr) (ca cb : Nat) (c : Cal) (a b : Dt) (w : World) (hC : CalAt w A ca A' cb c) :
    Calls Tryd.prog 44 #[.agg #[.slice A c.nk ca, .slice A' c.ny cb], .agg #[.int .i64 a.y, .int .i64 a.m, .bool a.s, .int .i64 a.d], .agg #[.int .i64 b.y, .int .i64 b.m, .bool b.s, .int .i64 b.d]] w fun e w' => e = .returned (.tuple #[.int .i64 (c.betV a b), .int .i64 (c.in2E a b)]) ∧ Ext w w' := by
  have NT := fun v (h : CalAt v A ca A' cb c) => two_any_r A A' ca cb c a b v h
  unfold Cal.betV
  by_cases hE : c.in2E a b = 0
  · have hvh : c.valid = true ∧ (c.has a && c.has b) = true := by rcases in2E_cases c a b with ⟨_, h⟩ | ⟨_, _, h⟩ | ⟨h1, h2, _⟩ <;> first | exact ⟨h1, h2⟩ | omega
    obtain ⟨hv, hh⟩ := hvh
    rw [Bool.and_eq_true] at hh
    have N2 := fun v (h : CalAt v A ca A' cb c) => counted_any_r A A' ca cb c a v h hv hh.1
    have N3 := fun v (h : CalAt v A ca A' cb c) => counted_any_r A A' ca cb c b v h hv hh.2
    have d1 := has_day hh.1
    have d2 := has_day hh.2
    have x1 := num_in hh.1
    have y1 := num_in hh.2
    have x2 := num_month hh.1 (valid_ny hv)
    have y2 := num_month hh.2 (valid_ny hv)
    have hb := dayAt_bd c c.ny
    have hny := valid_ny hv
    have x3 : 0 ≤ (c.num a).1 ∧ (c.num a).1 ≤ 156000 := by omega
    have y3 : 0 ≤ (c.num b).1 ∧ (c.num b).1 ≤ 156000 := by omega
    simp only [hE] at NT
    rw [if_pos hE, hE]
    generalize c.num a = x at *
    generalize c.num b = y at *
    obtain ⟨x31, x32⟩ := x3
    obtain ⟨y31, y32⟩ := y3
    obtain ⟨x21, x22⟩ := x2
    obtain ⟨y21, y22⟩ := y2
    obtain ⟨d11, d12⟩ := d1
    obtain ⟨d21, d22⟩ := d2
    clear hv hh hE x1 y1 hb
    go_enter Tryd.func44, Tryd.ntmps44
    go_upto_region 1 with (fail)
    obtain ⟨v, hv⟩ : ∃ v, v = (((w.alloc (.cells #[.slice A c.nk ca, .slice A' c.ny cb] 25)).alloc (.cells #[.int .i64 a.y, .int .i64 a.m, .bool a.s, .int .i64 a.d] 39)).alloc (.cells #[.int .i64 b.y, .int .i64 b.m, .bool b.s, .int .i64 b.d] 39)) := ⟨_, rfl⟩
    rw [← hv]
    have E : Ext w v := by rw [hv]; exact (((Ext.refl _).alloc _).alloc _).alloc _
    have B1 : Held v w.heap.size 25 #[.slice A c.nk ca, .slice A' c.ny cb] := by rw [hv]; exact ((Held.new _ _ _).alloc _).alloc _
    have B2 : Held v (w.heap.size + 1) 39 #[.int .i64 a.y, .int .i64 a.m, .bool a.s, .int .i64 a.d] := by rw [hv]; exact (Held.at _ _ _ _ (by simp)).alloc _
    have B3 : Held v (w.heap.size + 1 + 1) 39 #[.int .i64 b.y, .int .i64 b.m, .bool b.s, .int .i64 b.d] := by rw [hv]; exact Held.at _ _ _ _ (by simp)
    clear hv
    have C := hC.ext E
    clear hC
    generalize hb1 : w.heap.size = b1 at *
    replace hb1 := Lib.hid hb1
    obtain ⟨k0, k1⟩ := B1.c2; have lk := B1.lt
    obtain ⟨p0, p1, p2, p3⟩ := B2.c4; have lp := B2.lt
    obtain ⟨q0, q1, q2, q3⟩ := B3.c4; have lq := B3.lt
    go_upto_region 2 with (go_at_call 87; (with_reducible refine Calls.mono (NT _ C) ?_); rintro e v2 ⟨rfl, h⟩)
    replace E := Ext.trans E h
    replace C := C.ext h
    replace B1 := B1.ext h
    replace B2 := B2.ext h
    replace B3 := B3.ext h
    clear h
    clear k0 k1 lk
    clear p0 p1 p2 p3 lp
    clear q0 q1 q2 q3 lq
    obtain ⟨k0, k1⟩ := B1.c2; have lk := B1.lt
    obtain ⟨p0, p1, p2, p3⟩ := B2.c4; have lp := B2.lt
    obtain ⟨q0, q1, q2, q3⟩ := B3.c4; have lq := B3.lt
    go_upto_region 5 with (go_at_call 91; (with_reducible refine Calls.mono (N2 _ C) ?_); rintro e v3 ⟨rfl, h⟩)
    replace E := Ext.trans E h
    replace C := C.ext h
    replace B1 := B1.ext h
    replace B2 := B2.ext h
    replace B3 := B3.ext h
    clear h
    clear k0 k1 lk
    clear p0 p1 p2 p3 lp
    clear q0 q1 q2 q3 lq
    obtain ⟨k0, k1⟩ := B1.c2; have lk := B1.lt
    obtain ⟨p0, p1, p2, p3⟩ := B2.c4; have lp := B2.lt
    obtain ⟨q0, q1, q2, q3⟩ := B3.c4; have lq := B3.lt
    go_upto_region 6 with (go_at_call 91; (with_reducible refine Calls.mono (N3 _ C) ?_); rintro e v4 ⟨rfl, h⟩)
    replace E := Ext.trans E h
    replace C := C.ext h
    replace B1 := B1.ext h
    replace B2 := B2.ext h
    replace B3 := B3.ext h
    clear h
    clear k0 k1 lk
    clear p0 p1 p2 p3 lp
    clear q0 q1 q2 q3 lq
    obtain ⟨k0, k1⟩ := B1.c2; have lk := B1.lt
    obtain ⟨p0, p1, p2, p3⟩ := B2.c4; have lp := B2.lt
    obtain ⟨q0, q1, q2, q3⟩ := B3.c4; have lq := B3.lt
    obtain ⟨x1, x2⟩ := x
    obtain ⟨y1, y2⟩ := y
    simp only at x31 x32 y31 y32 x21 x22 y21 y22 ⊢
    go_wp2
    refine bodyPost_ret (v := .tuple #[.int .i64 (y1 - x1), .int .i64 0]) (by simp [results, Tryd.results44, go_sem]) rfl ⟨rfl, E⟩
  · have hne : (c.in2E a b == 0) = false := beq_eq_false_iff_ne.2 hE
    rw [if_neg hE]
    clear hE
    generalize c.in2E a b = ee at *
    go_enter Tryd.func44, Tryd.ntmps44
    go_upto_region 1 with (fail)
    obtain ⟨v, hv⟩ : ∃ v, v = (((w.alloc (.cells #[.slice A c.nk ca, .slice A' c.ny cb] 25)).alloc (.cells #[.int .i64 a.y, .int .i64 a.m, .bool a.s, .int .i64 a.d] 39)).alloc (.cells #[.int .i64 b.y, .int .i64 b.m, .bool b.s, .int .i64 b.d] 39)) := ⟨_, rfl⟩
    rw [← hv]
    have E : Ext w v := by rw [hv]; exact (((Ext.refl _).alloc _).alloc _).alloc _
    have B1 : Held v w.heap.size 25 #[.slice A c.nk ca, .slice A' c.ny cb] := by rw [hv]; exact ((Held.new _ _ _).alloc _).alloc _
    have B2 : Held v (w.heap.size + 1) 39 #[.int .i64 a.y, .int .i64 a.m, .bool a.s, .int .i64 a.d] := by rw [hv]; exact (Held.at _ _ _ _ (by simp)).alloc _
    have B3 : Held v (w.heap.size + 1 + 1) 39 #[.int .i64 b.y, .int .i64 b.m, .bool b.s, .int .i64 b.d] := by rw [hv]; exact Held.at _ _ _ _ (by simp)
    clear hv
    have C := hC.ext E
    clear hC
    generalize hb1 : w.heap.size = b1 at *
    replace hb1 := Lib.hid hb1
    obtain ⟨k0, k1⟩ := B1.c2; have lk := B1.lt
    obtain ⟨p0, p1, p2, p3⟩ := B2.c4; have lp := B2.lt
    obtain ⟨q0, q1, q2, q3⟩ := B3.c4; have lq := B3.lt
    go_upto_region 2 with (go_at_call 87; (with_reducible refine Calls.mono (NT _ C) ?_); rintro e v2 ⟨rfl, h⟩)
    replace E := Ext.trans E h
    replace C := C.ext h
    replace B1 := B1.ext h
    replace B2 := B2.ext h
    replace B3 := B3.ext h
    clear h
    clear k0 k1 lk
    clear p0 p1 p2 p3 lp
    clear q0 q1 q2 q3 lq
    obtain ⟨k0, k1⟩ := B1.c2; have lk := B1.lt
    obtain ⟨p0, p1, p2, p3⟩ := B2.c4; have lp := B2.lt
    obtain ⟨q0, q1, q2, q3⟩ := B3.c4; have lq := B3.lt
    go_wp2
    go_ret2
    exact ⟨rfl, E⟩
set_option maxRecDepth 100000 in
set_option maxHeartbeats 4000000 in
theorem scheme_any_r (A A' : Option Addr) (ca cb : Nat) (c : Cal) (a b : Dt) (w : World) (hC : CalAt w A ca A' cb c) :
    Calls Tryd.prog 45 #[.agg #[.slice A c.nk ca, .slice A' c.ny cb], .agg #[.int .i64 a.y, .int .i64 a.m, .bool a.s, .int .i64 a.d], .agg #[.int .i64 b.y, .int .i64 b.m, .bool b.s, .int .i64 b.d]] w fun e w' => e = .returned (.tuple #[.int .i64 (c.schV a b), .int .i64 (c.in2E a b)]) ∧ Ext w w' := by
  have NT := fun v (h : CalAt v A ca A' cb c) => two_any_r A A' ca cb c a b v h
  unfold Cal.schV
  by_cases hE : c.in2E a b = 0
  · have hvh : c.valid = true ∧ (c.has a && c.has b) = true := by rcases in2E_cases c a b with ⟨_, h⟩ | ⟨_, _, h⟩ | ⟨h1, h2, _⟩ <;> first | exact ⟨h1, h2⟩ | omega
    obtain ⟨hv, hh⟩ := hvh
    rw [Bool.and_eq_true] at hh
    have N2 := fun v (h : CalAt v A ca A' cb c) => counted_any_r A A' ca cb c a v h hv hh.1
    have N3 := fun v (h : CalAt v A ca A' cb c) => counted_any_r A A' ca cb c b v h hv hh.2
    have d1 := has_day hh.1
    have d2 := has_day hh.2
    have x1 := num_in hh.1
    have y1 := num_in hh.2
    have x2 := num_month hh.1 (valid_ny hv)
    have y2 := num_month hh.2 (valid_ny hv)
    have hb := dayAt_bd c c.ny
    have hny := valid_ny hv
    have x3 : 0 ≤ (c.num a).1 ∧ (c.num a).1 ≤ 156000 := by omega
    have y3 : 0 ≤ (c.num b).1 ∧ (c.num b).1 ≤ 156000 := by omega
    simp only [hE] at NT
    rw [if_pos hE, hE]
    generalize c.num a = x at *
    generalize c.num b = y at *
    obtain ⟨x31, x32⟩ := x3
    obtain ⟨y31, y32⟩ := y3
    obtain ⟨x21, x22⟩ := x2
    obtain ⟨y21, y22⟩ := y2
    obtain ⟨d11, d12⟩ := d1
    obtain ⟨d21, d22⟩ := d2
    clear hv hh hE x1 y1 hb
    go_enter Tryd.func45, Tryd.ntmps45
    go_upto_region 1 with (fail)
    obtain ⟨v, hv⟩ : ∃ v, v = (((w.alloc (.cells #[.slice A c.nk ca, .slice A' c.ny cb] 25)).alloc (.cells #[.int .i64 a.y, .int .i64 a.m, .bool a.s, .int .i64 a.d] 39)).alloc (.cells #[.int .i64 b.y, .int .i64 b.m, .bool b.s, .int .i64 b.d] 39)) := ⟨_, rfl⟩
    rw [← hv]
    have E : Ext w v := by rw [hv]; exact (((Ext.refl _).alloc _).alloc _).alloc _
    have B1 : Held v w.heap.size 25 #[.slice A c.nk ca, .slice A' c.ny cb] := by rw [hv]; exact ((Held.new _ _ _).alloc _).alloc _
    have B2 : Held v (w.heap.size + 1) 39 #[.int .i64 a.y, .int .i64 a.m, .bool a.s, .int .i64 a.d] := by rw [hv]; exact (Held.at _ _ _ _ (by simp)).alloc _
    have B3 : Held v (w.heap.size + 1 + 1) 39 #[.int .i64 b.y, .int .i64 b.m, .bool b.s, .int .i64 b.d] := by rw [hv]; exact Held.at _ _ _ _ (by simp)
    clear hv
    have C := hC.ext E
    clear hC
    generalize hb1 : w.heap.size = b1 at *
    replace hb1 := Lib.hid hb1
    obtain ⟨k0, k1⟩ := B1.c2; have lk := B1.lt
    obtain ⟨p0, p1, p2, p3⟩ := B2.c4; have lp := B2.lt
    obtain ⟨q0, q1, q2, q3⟩ := B3.c4; have lq := B3.lt
    go_upto_region 2 with (go_at_call 87; (with_reducible refine Calls.mono (NT _ C) ?_); rintro e v2 ⟨rfl, h⟩)
    replace E := Ext.trans E h
    replace C := C.ext h
    replace B1 := B1.ext h
    replace B2 := B2.ext h
    replace B3 := B3.ext h
    clear h
    clear k0 k1 lk
    clear p0 p1 p2 p3 lp
    clear q0 q1 q2 q3 lq
    obtain ⟨k0, k1⟩ := B1.c2; have lk := B1.lt
    obtain ⟨p0, p1, p2, p3⟩ := B2.c4; have lp := B2.lt
    obtain ⟨q0, q1, q2, q3⟩ := B3.c4; have lq := B3.lt
    go_upto_region 5 with (go_at_call 91; (with_reducible refine Calls.mono (N2 _ C) ?_); rintro e v3 ⟨rfl, h⟩)
    replace E := Ext.trans E h
    replace C := C.ext h
    replace B1 := B1.ext h
    replace B2 := B2.ext h
    replace B3 := B3.ext h
    clear h
    clear k0 k1 lk
    clear p0 p1 p2 p3 lp
    clear q0 q1 q2 q3 lq
    obtain ⟨k0, k1⟩ := B1.c2; have lk := B1.lt
    obtain ⟨p0, p1, p2, p3⟩ := B2.c4; have lp := B2.lt
    obtain ⟨q0, q1, q2, q3⟩ := B3.c4; have lq := B3.lt
    go_upto_region 6 with (go_at_call 91; (with_reducible refine Calls.mono (N3 _ C) ?_); rintro e v4 ⟨rfl, h⟩)
    replace E := Ext.trans E h
    replace C := C.ext h
    replace B1 := B1.ext h
    replace B2 := B2.ext h
    replace B3 := B3.ext h
    clear h
    clear k0 k1 lk
    clear p0 p1 p2 p3 lp
    clear q0 q1 q2 q3 lq
    obtain ⟨k0, k1⟩ := B1.c2; have lk := B1.lt
    obtain ⟨p0, p1, p2, p3⟩ := B2.c4; have lp := B2.lt
    obtain ⟨q0, q1, q2, q3⟩ := B3.c4; have lq := B3.lt
    obtain ⟨x1, x2⟩ := x
    obtain ⟨y1, y2⟩ := y
    simp only at x31 x32 y31 y32 x21 x22 y21 y22 ⊢
    go_wp2
    refine bodyPost_ret (v := .tuple #[.int .i64 (30 * (y2 - x2) + b.d - a.d), .int .i64 0]) (by simp [results, Tryd.results45, go_sem]) rfl ⟨rfl, E⟩
  · have hne : (c.in2E a b == 0) = false := beq_eq_false_iff_ne.2 hE
    rw [if_neg hE]
    clear hE
    generalize c.in2E a b = ee at *
    go_enter Tryd.func45, Tryd.ntmps45
    go_upto_region 1 with (fail)
    obtain ⟨v, hv⟩ : ∃ v, v = (((w.alloc (.cells #[.slice A c.nk ca, .slice A' c.ny cb] 25)).alloc (.cells #[.int .i64 a.y, .int .i64 a.m, .bool a.s, .int .i64 a.d] 39)).alloc (.cells #[.int .i64 b.y, .int .i64 b.m, .bool b.s, .int .i64 b.d] 39)) := ⟨_, rfl⟩
    rw [← hv]
    have E : Ext w v := by rw [hv]; exact (((Ext.refl _).alloc _).alloc _).alloc _
    have B1 : Held v w.heap.size 25 #[.slice A c.nk ca, .slice A' c.ny cb] := by rw [hv]; exact ((Held.new _ _ _).alloc _).alloc _
    have B2 : Held v (w.heap.size + 1) 39 #[.int .i64 a.y, .int .i64 a.m, .bool a.s, .int .i64 a.d] := by rw [hv]; exact (Held.at _ _ _ _ (by simp)).alloc _
    have B3 : Held v (w.heap.size + 1 + 1) 39 #[.int .i64 b.y, .int .i64 b.m, .bool b.s, .int .i64 b.d] := by rw [hv]; exact Held.at _ _ _ _ (by simp)
    clear hv
    have C := hC.ext E
    clear hC
    generalize hb1 : w.heap.size = b1 at *
    replace hb1 := Lib.hid hb1
    obtain ⟨k0, k1⟩ := B1.c2; have lk := B1.lt
    obtain ⟨p0, p1, p2, p3⟩ := B2.c4; have lp := B2.lt
    obtain ⟨q0, q1, q2, q3⟩ := B3.c4; have lq := B3.lt
    go_upto_region 2 with (go_at_call 87; (with_reducible refine Calls.mono (NT _ C) ?_); rintro e v2 ⟨rfl, h⟩)
    replace E := Ext.trans E h
    replace C := C.ext h
    replace B1 := B1.ext h
    replace B2 := B2.ext h
    replace B3 := B3.ext h
    clear h
    clear k0 k1 lk
    clear p0 p1 p2 p3 lp
    clear q0 q1 q2 q3 lq
    obtain ⟨k0, k1⟩ := B1.c2; have lk := B1.lt
    obtain ⟨p0, p1, p2, p3⟩ := B2.c4; have lp := B2.lt
    obtain ⟨q0, q1, q2, q3⟩ := B3.c4; have lq := B3.lt
    go_wp2
    go_ret2
    exact ⟨rfl, E⟩
end Go.Proofs.YtfchchmmjabjnaaDoor

namespace Go.Proofs.YtfchchmmjabjnaaDoor
open Go Go.RowKit
attribute [local go_sem] gv_yes Dt.val

theorem all_bd {c : Cal} (hny : c.ny ≤ 400) : 0 ≤ c.all ∧ c.all ≤ 156000 := by
  have := dayAt_bd c c.ny
  unfold Cal.all
  omega
set_option maxRecDepth 100000 in
set_option maxHeartbeats 4000000 in
theorem atX_any_r (A A' : Option Addr) (ca cb : Nat) (c : Cal) (n : Int) (w : World) (hC : CalAt w A ca A' cb c) (hn1 : -9223372036854775808 ≤ n) (hn2 : n ≤ 9223372036854775807) :
    Calls Tryd.prog 70 #[.agg #[.slice A c.nk ca, .slice A' c.ny cb], .int .i64 n] w fun e w' => e = .returned (.tuple #[(c.atV n).val, .int .i64 (c.atE n)]) ∧ Ext w w' := by
  have NV := fun v (h : CalAt v A ca A' cb c) => validR_any A A' ca cb c v h
  cases hv : c.valid
  · have HV : Hid (c.atV n = zeroDt ∧ c.atE n = 70) := by unfold Hid Cal.atV Cal.atE; rw [hv]; exact ⟨rfl, rfl⟩
    rw [hv] at NV
    clear hv
    go_enter Tryd.func70, Tryd.ntmps70
    go_upto_region 1 with (fail)
    obtain ⟨v, hv⟩ : ∃ v, v = ((w.alloc (.cells #[.slice A c.nk ca, .slice A' c.ny cb] 25)).alloc (.cells #[.int .i64 0, .int .i64 0, .bool false, .int .i64 0] 39)) := ⟨_, rfl⟩
    rw [← hv]
    have E : Ext w v := by rw [hv]; exact ((Ext.refl _).alloc _).alloc _
    have B1 : Held v w.heap.size 25 #[.slice A c.nk ca, .slice A' c.ny cb] := by rw [hv]; exact (Held.new _ _ _).alloc _
    have B2 : Held v (w.heap.size + 1) 39 #[.int .i64 0, .int .i64 0, .bool false, .int .i64 0] := by rw [hv]; exact Held.at _ _ _ _ (by simp)
    clear hv
    have C := hC.ext E
    clear hC
    generalize hb1 : w.heap.size = b1 at *
    replace hb1 := Lib.hid hb1
    obtain ⟨k0, k1⟩ := B1.c2; have lk := B1.lt
    obtain ⟨p0, p1, p2, p3⟩ := B2.c4; have lp := B2.lt
    go_upto_region 2 with (go_at_call 78; (with_reducible refine Calls.mono (NV _ C) ?_); rintro e v2 ⟨rfl, h⟩)
    replace E := Ext.trans E h
    replace C := C.ext h
    replace B1 := B1.ext h
    replace B2 := B2.ext h
    clear h
    clear k0 k1 lk
    clear p0 p1 p2 p3 lp
    obtain ⟨k0, k1⟩ := B1.c2; have lk := B1.lt
    obtain ⟨p0, p1, p2, p3⟩ := B2.c4; have lp := B2.lt
    have f0 := B2.frozen 0
    have f1 := B2.frozen 1
    have f2 := B2.frozen 2
    have f3 := B2.frozen 3
    go_wp2
    obtain ⟨⟨g0, g1, g2, g3⟩, gE⟩ := four_set B2 (.int .i64 0) (.int .i64 0) (.bool false) (.int .i64 0)
    refine bodyPost_ret (v := .tuple #[.agg #[.int .i64 0, .int .i64 0, .bool false, .int .i64 0], .int .i64 70]) (by simp [results, Tryd.results70, go_sem, g0, g1, g2, g3]) rfl ⟨by rw [HV.out.1, HV.out.2]; rfl, gE w E (by have := hb1.out; omega)⟩
  · have N2 := fun v (h : CalAt v A ca A' cb c) => all_any_r A A' ca cb c v h hv
    have hall := all_bd (valid_ny hv)
    rw [hv] at NV
    by_cases h1 : n < 1
    · have ho := at_out (c := c) (n := n) (.inl h1)
      have HV : Hid (c.atV n = zeroDt ∧ c.atE n = 8) := by unfold Hid Cal.atV Cal.atE; rw [hv, ho]; exact ⟨rfl, rfl⟩
      have h1b : decide (n < 1) = true := decide_eq_true h1
      clear hv ho
      go_enter Tryd.func70, Tryd.ntmps70
      go_upto_region 1 with (fail)
      obtain ⟨v, hv⟩ : ∃ v, v = ((w.alloc (.cells #[.slice A c.nk ca, .slice A' c.ny cb] 25)).alloc (.cells #[.int .i64 0, .int .i64 0, .bool false, .int .i64 0] 39)) := ⟨_, rfl⟩
      rw [← hv]
      have E : Ext w v := by rw [hv]; exact ((Ext.refl _).alloc _).alloc _
      have B1 : Held v w.heap.size 25 #[.slice A c.nk ca, .slice A' c.ny cb] := by rw [hv]; exact (Held.new _ _ _).alloc _
      have B2 : Held v (w.heap.size + 1) 39 #[.int .i64 0, .int .i64 0, .bool false, .int .i64 0] := by rw [hv]; exact Held.at _ _ _ _ (by simp)
      clear hv
      have C := hC.ext E
      clear hC
      generalize hb1 : w.heap.size = b1 at *
      replace hb1 := Lib.hid hb1
      obtain ⟨k0, k1⟩ := B1.c2; have lk := B1.lt
      obtain ⟨p0, p1, p2, p3⟩ := B2.c4; have lp := B2.lt
      go_upto_region 3 with (go_at_call 78; (with_reducible refine Calls.mono (NV _ C) ?_); rintro e v2 ⟨rfl, h⟩)
      replace E := Ext.trans E h
      replace C := C.ext h
      replace B1 := B1.ext h
      replace B2 := B2.ext h
      clear h
      clear k0 k1 lk
      clear p0 p1 p2 p3 lp
      obtain ⟨k0, k1⟩ := B1.c2; have lk := B1.lt
      obtain ⟨p0, p1, p2, p3⟩ := B2.c4; have lp := B2.lt
      have f0 := B2.frozen 0
      have f1 := B2.frozen 1
      have f2 := B2.frozen 2
      have f3 := B2.frozen 3
      go_wp2
      obtain ⟨⟨g0, g1, g2, g3⟩, gE⟩ := four_set B2 (.int .i64 0) (.int .i64 0) (.bool false) (.int .i64 0)
      refine bodyPost_ret (v := .tuple #[.agg #[.int .i64 0, .int .i64 0, .bool false, .int .i64 0], .int .i64 8]) (by simp [results, Tryd.results70, go_sem, g0, g1, g2, g3]) rfl ⟨by rw [HV.out.1, HV.out.2]; rfl, gE w E (by have := hb1.out; omega)⟩
    · have h1b : decide (n < 1) = false := decide_eq_false h1
      by_cases h2 : c.all < n
      · have ho := at_out (c := c) (n := n) (.inr (by unfold Cal.all at h2; omega))
        have HV : Hid (c.atV n = zeroDt ∧ c.atE n = 8) := by unfold Hid Cal.atV Cal.atE; rw [hv, ho]; exact ⟨rfl, rfl⟩
        have h2b : decide (c.all < n) = true := decide_eq_true h2
        clear hv ho
        generalize c.all = al at *
        go_enter Tryd.func70, Tryd.ntmps70
        go_upto_region 1 with (fail)
        obtain ⟨v, hv⟩ : ∃ v, v = ((w.alloc (.cells #[.slice A c.nk ca, .slice A' c.ny cb] 25)).alloc (.cells #[.int .i64 0, .int .i64 0, .bool false, .int .i64 0] 39)) := ⟨_, rfl⟩
        rw [← hv]
        have E : Ext w v := by rw [hv]; exact ((Ext.refl _).alloc _).alloc _
        have B1 : Held v w.heap.size 25 #[.slice A c.nk ca, .slice A' c.ny cb] := by rw [hv]; exact (Held.new _ _ _).alloc _
        have B2 : Held v (w.heap.size + 1) 39 #[.int .i64 0, .int .i64 0, .bool false, .int .i64 0] := by rw [hv]; exact Held.at _ _ _ _ (by simp)
        clear hv
        have C := hC.ext E
        clear hC
        generalize hb1 : w.heap.size = b1 at *
        replace hb1 := Lib.hid hb1
        obtain ⟨k0, k1⟩ := B1.c2; have lk := B1.lt
        obtain ⟨p0, p1, p2, p3⟩ := B2.c4; have lp := B2.lt
        go_upto_region 3 with (go_at_call 78; (with_reducible refine Calls.mono (NV _ C) ?_); rintro e v2 ⟨rfl, h⟩)
        replace E := Ext.trans E h
        replace C := C.ext h
        replace B1 := B1.ext h
        replace B2 := B2.ext h
        clear h
        clear k0 k1 lk
        clear p0 p1 p2 p3 lp
        obtain ⟨k0, k1⟩ := B1.c2; have lk := B1.lt
        obtain ⟨p0, p1, p2, p3⟩ := B2.c4; have lp := B2.lt
        go_upto_region 4 with (go_at_call 80; (with_reducible refine Calls.mono (N2 _ C) ?_); rintro e v3 ⟨rfl, h⟩)
        replace E := Ext.trans E h
        replace C := C.ext h
        replace B1 := B1.ext h
        replace B2 := B2.ext h
        clear h
        clear k0 k1 lk
        clear p0 p1 p2 p3 lp
        obtain ⟨k0, k1⟩ := B1.c2; have lk := B1.lt
        obtain ⟨p0, p1, p2, p3⟩ := B2.c4; have lp := B2.lt
        have f0 := B2.frozen 0
        have f1 := B2.frozen 1
        have f2 := B2.frozen 2
        have f3 := B2.frozen 3
        go_wp2
        obtain ⟨⟨g0, g1, g2, g3⟩, gE⟩ := four_set B2 (.int .i64 0) (.int .i64 0) (.bool false) (.int .i64 0)
        refine bodyPost_ret (v := .tuple #[.agg #[.int .i64 0, .int .i64 0, .bool false, .int .i64 0], .int .i64 8]) (by simp [results, Tryd.results70, go_sem, g0, g1, g2, g3]) rfl ⟨by rw [HV.out.1, HV.out.2]; rfl, gE w E (by have := hb1.out; omega)⟩
      · have h2b : decide (c.all < n) = false := decide_eq_false h2
        obtain ⟨D, hD⟩ := at_in (c := c) (n := n) (by omega) (by unfold Cal.all at h2; omega)
        have N3 := fun v (h : CalAt v A ca A' cb c) => at_any_r A A' ca cb c n D v h hv hD
        have HV : Hid (c.atV n = D ∧ c.atE n = 0) := by unfold Hid Cal.atV Cal.atE; rw [hv, hD]; exact ⟨rfl, rfl⟩
        clear hv hD
        generalize c.all = al at *
        go_enter Tryd.func70, Tryd.ntmps70
        go_upto_region 1 with (fail)
        obtain ⟨v, hv⟩ : ∃ v, v = ((w.alloc (.cells #[.slice A c.nk ca, .slice A' c.ny cb] 25)).alloc (.cells #[.int .i64 0, .int .i64 0, .bool false, .int .i64 0] 39)) := ⟨_, rfl⟩
        rw [← hv]
        have E : Ext w v := by rw [hv]; exact ((Ext.refl _).alloc _).alloc _
        have B1 : Held v w.heap.size 25 #[.slice A c.nk ca, .slice A' c.ny cb] := by rw [hv]; exact (Held.new _ _ _).alloc _
        have B2 : Held v (w.heap.size + 1) 39 #[.int .i64 0, .int .i64 0, .bool false, .int .i64 0] := by rw [hv]; exact Held.at _ _ _ _ (by simp)
        clear hv
        have C := hC.ext E
        clear hC
        generalize hb1 : w.heap.size = b1 at *
        replace hb1 := Lib.hid hb1
        obtain ⟨k0, k1⟩ := B1.c2; have lk := B1.lt
        obtain ⟨p0, p1, p2, p3⟩ := B2.c4; have lp := B2.lt
        go_upto_region 3 with (go_at_call 78; (with_reducible refine Calls.mono (NV _ C) ?_); rintro e v2 ⟨rfl, h⟩)
        replace E := Ext.trans E h
        replace C := C.ext h
        replace B1 := B1.ext h
        replace B2 := B2.ext h
        clear h
        clear k0 k1 lk
        clear p0 p1 p2 p3 lp
        obtain ⟨k0, k1⟩ := B1.c2; have lk := B1.lt
        obtain ⟨p0, p1, p2, p3⟩ := B2.c4; have lp := B2.lt
        go_upto_region 5 with (go_at_call 80; (with_reducible refine Calls.mono (N2 _ C) ?_); rintro e v3 ⟨rfl, h⟩)
        replace E := Ext.trans E h
        replace C := C.ext h
        replace B1 := B1.ext h
        replace B2 := B2.ext h
        clear h
        clear k0 k1 lk
        clear p0 p1 p2 p3 lp
        obtain ⟨k0, k1⟩ := B1.c2; have lk := B1.lt
        obtain ⟨p0, p1, p2, p3⟩ := B2.c4; have lp := B2.lt
        go_wp2_with (go_at_call 92; (with_reducible refine Calls.mono (N3 _ C) ?_); rintro e v4 ⟨rfl, h⟩; replace B2 := B2.ext h; replace E := E.trans h; have lz := B2.lt; obtain ⟨z0, z1, z2, z3⟩ := B2.c4; have f0 := B2.frozen 0; have f1 := B2.frozen 1; have f2 := B2.frozen 2; have f3 := B2.frozen 3)
        obtain ⟨⟨g0, g1, g2, g3⟩, gE⟩ := four_set B2 (.int .i64 D.y) (.int .i64 D.m) (.bool D.s) (.int .i64 D.d)
        refine bodyPost_ret (v := .tuple #[.agg #[.int .i64 D.y, .int .i64 D.m, .bool D.s, .int .i64 D.d], .int .i64 0]) (by simp [results, Tryd.results70, go_sem, g0, g1, g2, g3]) rfl ⟨by rw [HV.out.1, HV.out.2]; rfl, gE w E (by have := hb1.out; omega)⟩
theorem add_cases {c : Cal} {d : Dt} {n : Int} (h : c.inE d = 0) : ((c.num d).1 + n < 1 ∨ c.all < (c.num d).1 + n) ∧ c.addV d n = zeroDt ∧ c.addE d n = 8 ∨ ¬ ((c.num d).1 + n < 1 ∨ c.all < (c.num d).1 + n) ∧ ∃ D, c.at? ((c.num d).1 + n) = some D ∧ c.addV d n = D ∧ c.addE d n = 0 := by
  unfold Cal.addV Cal.addE
  rw [if_pos h, if_pos h]
  by_cases ho : (c.num d).1 + n < 1 ∨ c.all < (c.num d).1 + n
  · have := at_out (c := c) (n := (c.num d).1 + n) (ho.imp id (fun h => by unfold Cal.all at h; omega))
    rw [this]
    exact .inl ⟨ho, rfl, rfl⟩
  · obtain ⟨D, hD⟩ := at_in (c := c) (n := (c.num d).1 + n) (by omega) (by rw [not_or] at ho; unfold Cal.all at ho; omega)
    rw [hD]
    exact .inr ⟨ho, D, rfl, rfl, rfl⟩
set_option maxRecDepth 100000 in
set_option maxHeartbeats 4000000 in
theorem addX_any_r (A A' : Option Addr) (ca cb : Nat) (c : Cal) (d : Dt) (n : Int) (w : World) (hC : CalAt w A ca A' cb c) (hn1 : -9223372036854775808 ≤ n) (hn2 : n ≤ 9223372036854775807) :
    Calls Tryd.prog 43 #[.agg #[.slice A c.nk ca, .slice A' c.ny cb], .agg #[.int .i64 d.y, .int .i64 d.m, .bool d.s, .int .i64 d.d], .int .i64 n] w fun e w' => e = .returned (.tuple #[(c.addV d n).val, .int .i64 (c.addE d n)]) ∧ Ext w w' := by
  have NT := fun v (h : CalAt v A ca A' cb c) => two_any_r A A' ca cb c d d v h
  simp only [in2E_same] at NT
  by_cases hE : c.inE d = 0
  · have hvh : c.valid = true ∧ c.has d = true := by rcases inE_cases c d with ⟨_, h⟩ | ⟨_, _, h⟩ | ⟨h1, h2, _⟩ <;> first | exact ⟨h1, h2⟩ | omega
    have N2 := fun v (h : CalAt v A ca A' cb c) => counted_any_r A A' ca cb c d v h hvh.1 hvh.2
    have N3 := fun v (h : CalAt v A ca A' cb c) => all_any_r A A' ca cb c v h hvh.1
    have hall := all_bd (valid_ny hvh.1)
    have hx := num_in hvh.2
    have hxa : 1 ≤ (c.num d).1 ∧ (c.num d).1 ≤ c.all := by unfold Cal.all; omega
    simp only [hE] at NT
    clear hx
    rcases add_cases (n := n) hE with ⟨ho, hV⟩ | ⟨ho, D, hD, hV⟩
    · have HV := Lib.hid hV
      clear hvh hE hV
      generalize (c.num d) = x at *
      generalize c.all = al at *
      obtain ⟨x1, x2⟩ := x
      simp only at ho hxa N2
      obtain ⟨xa, xb⟩ := hxa
      by_cases h1 : n < 1 - x1
      · have h1b : decide (n < 1 - x1) = true := decide_eq_true h1
        go_enter Tryd.func43, Tryd.ntmps43
        go_upto_region 1 with (fail)
        obtain ⟨v, hv⟩ : ∃ v, v = (((w.alloc (.cells #[.slice A c.nk ca, .slice A' c.ny cb] 25)).alloc (.cells #[.int .i64 d.y, .int .i64 d.m, .bool d.s, .int .i64 d.d] 39)).alloc (.cells #[.int .i64 0, .int .i64 0, .bool false, .int .i64 0] 39)) := ⟨_, rfl⟩
        rw [← hv]
        have E : Ext w v := by rw [hv]; exact (((Ext.refl _).alloc _).alloc _).alloc _
        have B1 : Held v w.heap.size 25 #[.slice A c.nk ca, .slice A' c.ny cb] := by rw [hv]; exact ((Held.new _ _ _).alloc _).alloc _
        have B2 : Held v (w.heap.size + 1) 39 #[.int .i64 d.y, .int .i64 d.m, .bool d.s, .int .i64 d.d] := by rw [hv]; exact (Held.at _ _ _ _ (by simp)).alloc _
        have B3 : Held v (w.heap.size + 1 + 1) 39 #[.int .i64 0, .int .i64 0, .bool false, .int .i64 0] := by rw [hv]; exact Held.at _ _ _ _ (by simp)
        clear hv
        have C := hC.ext E
        clear hC
        generalize hb1 : w.heap.size = b1 at *
        replace hb1 := Lib.hid hb1
        obtain ⟨k0, k1⟩ := B1.c2; have lk := B1.lt
        obtain ⟨p0, p1, p2, p3⟩ := B2.c4; have lp := B2.lt
        obtain ⟨q0, q1, q2, q3⟩ := B3.c4; have lq := B3.lt
        go_upto_region 2 with (go_at_call 87; (with_reducible refine Calls.mono (NT _ C) ?_); rintro e v2 ⟨rfl, h⟩)
        replace E := Ext.trans E h
        replace C := C.ext h
        replace B1 := B1.ext h
        replace B2 := B2.ext h
        replace B3 := B3.ext h
        clear h
        clear k0 k1 lk
        clear p0 p1 p2 p3 lp
        clear q0 q1 q2 q3 lq
        obtain ⟨k0, k1⟩ := B1.c2; have lk := B1.lt
        obtain ⟨p0, p1, p2, p3⟩ := B2.c4; have lp := B2.lt
        obtain ⟨q0, q1, q2, q3⟩ := B3.c4; have lq := B3.lt
        go_upto_region 5 with (go_at_call 91; (with_reducible refine Calls.mono (N2 _ C) ?_); rintro e v3 ⟨rfl, h⟩)
        replace E := Ext.trans E h
        replace C := C.ext h
        replace B1 := B1.ext h
        replace B2 := B2.ext h
        replace B3 := B3.ext h
        clear h
        clear k0 k1 lk
        clear p0 p1 p2 p3 lp
        clear q0 q1 q2 q3 lq
        obtain ⟨k0, k1⟩ := B1.c2; have lk := B1.lt
        obtain ⟨p0, p1, p2, p3⟩ := B2.c4; have lp := B2.lt
        obtain ⟨q0, q1, q2, q3⟩ := B3.c4; have lq := B3.lt
        have f0 := B3.frozen 0
        have f1 := B3.frozen 1
        have f2 := B3.frozen 2
        have f3 := B3.frozen 3
        go_wp2
        obtain ⟨⟨g0, g1, g2, g3⟩, gE⟩ := four_set B3 (.int .i64 0) (.int .i64 0) (.bool false) (.int .i64 0)
        refine bodyPost_ret (v := .tuple #[.agg #[.int .i64 0, .int .i64 0, .bool false, .int .i64 0], .int .i64 8]) (by simp [results, Tryd.results43, go_sem, g0, g1, g2, g3]) rfl ⟨by rw [HV.out.1, HV.out.2]; rfl, gE w E (by have := hb1.out; omega)⟩
      · have h1b : decide (n < 1 - x1) = false := decide_eq_false h1
        have h2b : decide (al - x1 < n) = true := decide_eq_true (by omega)
        go_enter Tryd.func43, Tryd.ntmps43
        go_upto_region 1 with (fail)
        obtain ⟨v, hv⟩ : ∃ v, v = (((w.alloc (.cells #[.slice A c.nk ca, .slice A' c.ny cb] 25)).alloc (.cells #[.int .i64 d.y, .int .i64 d.m, .bool d.s, .int .i64 d.d] 39)).alloc (.cells #[.int .i64 0, .int .i64 0, .bool false, .int .i64 0] 39)) := ⟨_, rfl⟩
        rw [← hv]
        have E : Ext w v := by rw [hv]; exact (((Ext.refl _).alloc _).alloc _).alloc _
        have B1 : Held v w.heap.size 25 #[.slice A c.nk ca, .slice A' c.ny cb] := by rw [hv]; exact ((Held.new _ _ _).alloc _).alloc _
        have B2 : Held v (w.heap.size + 1) 39 #[.int .i64 d.y, .int .i64 d.m, .bool d.s, .int .i64 d.d] := by rw [hv]; exact (Held.at _ _ _ _ (by simp)).alloc _
        have B3 : Held v (w.heap.size + 1 + 1) 39 #[.int .i64 0, .int .i64 0, .bool false, .int .i64 0] := by rw [hv]; exact Held.at _ _ _ _ (by simp)
        clear hv
        have C := hC.ext E
        clear hC
        generalize hb1 : w.heap.size = b1 at *
        replace hb1 := Lib.hid hb1
        obtain ⟨k0, k1⟩ := B1.c2; have lk := B1.lt
        obtain ⟨p0, p1, p2, p3⟩ := B2.c4; have lp := B2.lt
        obtain ⟨q0, q1, q2, q3⟩ := B3.c4; have lq := B3.lt
        go_upto_region 2 with (go_at_call 87; (with_reducible refine Calls.mono (NT _ C) ?_); rintro e v2 ⟨rfl, h⟩)
        replace E := Ext.trans E h
        replace C := C.ext h
        replace B1 := B1.ext h
        replace B2 := B2.ext h
        replace B3 := B3.ext h
        clear h
        clear k0 k1 lk
        clear p0 p1 p2 p3 lp
        clear q0 q1 q2 q3 lq
        obtain ⟨k0, k1⟩ := B1.c2; have lk := B1.lt
        obtain ⟨p0, p1, p2, p3⟩ := B2.c4; have lp := B2.lt
        obtain ⟨q0, q1, q2, q3⟩ := B3.c4; have lq := B3.lt
        go_upto_region 5 with (go_at_call 91; (with_reducible refine Calls.mono (N2 _ C) ?_); rintro e v3 ⟨rfl, h⟩)
        replace E := Ext.trans E h
        replace C := C.ext h
        replace B1 := B1.ext h
        replace B2 := B2.ext h
        replace B3 := B3.ext h
        clear h
        clear k0 k1 lk
        clear p0 p1 p2 p3 lp
        clear q0 q1 q2 q3 lq
        obtain ⟨k0, k1⟩ := B1.c2; have lk := B1.lt
        obtain ⟨p0, p1, p2, p3⟩ := B2.c4; have lp := B2.lt
        obtain ⟨q0, q1, q2, q3⟩ := B3.c4; have lq := B3.lt
        go_upto_region 6 with (go_at_call 80; (with_reducible refine Calls.mono (N3 _ C) ?_); rintro e v4 ⟨rfl, h⟩)
        replace E := Ext.trans E h
        replace C := C.ext h
        replace B1 := B1.ext h
        replace B2 := B2.ext h
        replace B3 := B3.ext h
        clear h
        clear k0 k1 lk
        clear p0 p1 p2 p3 lp
        clear q0 q1 q2 q3 lq
        obtain ⟨k0, k1⟩ := B1.c2; have lk := B1.lt
        obtain ⟨p0, p1, p2, p3⟩ := B2.c4; have lp := B2.lt
        obtain ⟨q0, q1, q2, q3⟩ := B3.c4; have lq := B3.lt
        have f0 := B3.frozen 0
        have f1 := B3.frozen 1
        have f2 := B3.frozen 2
        have f3 := B3.frozen 3
        go_wp2
        obtain ⟨⟨g0, g1, g2, g3⟩, gE⟩ := four_set B3 (.int .i64 0) (.int .i64 0) (.bool false) (.int .i64 0)
        refine bodyPost_ret (v := .tuple #[.agg #[.int .i64 0, .int .i64 0, .bool false, .int .i64 0], .int .i64 8]) (by simp [results, Tryd.results43, go_sem, g0, g1, g2, g3]) rfl ⟨by rw [HV.out.1, HV.out.2]; rfl, gE w E (by have := hb1.out; omega)⟩
    · have N4 := fun v (h : CalAt v A ca A' cb c) => at_any_r A A' ca cb c _ D v h hvh.1 hD
      have HV := Lib.hid hV
      clear hvh hE hV hD
      generalize (c.num d) = x at *
      generalize c.all = al at *
      obtain ⟨x1, x2⟩ := x
      simp only at ho hxa N2 N4
      obtain ⟨xa, xb⟩ := hxa
      rw [not_or] at ho
      obtain ⟨ho1, ho2⟩ := ho
      have h1b : decide (n < 1 - x1) = false := decide_eq_false (by omega)
      have h2b : decide (al - x1 < n) = false := decide_eq_false (by omega)
      go_enter Tryd.func43, Tryd.ntmps43
      go_upto_region 1 with (fail)
      obtain ⟨v, hv⟩ : ∃ v, v = (((w.alloc (.cells #[.slice A c.nk ca, .slice A' c.ny cb] 25)).alloc (.cells #[.int .i64 d.y, .int .i64 d.m, .bool d.s, .int .i64 d.d] 39)).alloc (.cells #[.int .i64 0, .int .i64 0, .bool false, .int .i64 0] 39)) := ⟨_, rfl⟩
      rw [← hv]
      have E : Ext w v := by rw [hv]; exact (((Ext.refl _).alloc _).alloc _).alloc _
      have B1 : Held v w.heap.size 25 #[.slice A c.nk ca, .slice A' c.ny cb] := by rw [hv]; exact ((Held.new _ _ _).alloc _).alloc _
      have B2 : Held v (w.heap.size + 1) 39 #[.int .i64 d.y, .int .i64 d.m, .bool d.s, .int .i64 d.d] := by rw [hv]; exact (Held.at _ _ _ _ (by simp)).alloc _
      have B3 : Held v (w.heap.size + 1 + 1) 39 #[.int .i64 0, .int .i64 0, .bool false, .int .i64 0] := by rw [hv]; exact Held.at _ _ _ _ (by simp)
      clear hv
      have C := hC.ext E
      clear hC
      generalize hb1 : w.heap.size = b1 at *
      replace hb1 := Lib.hid hb1
      obtain ⟨k0, k1⟩ := B1.c2; have lk := B1.lt
      obtain ⟨p0, p1, p2, p3⟩ := B2.c4; have lp := B2.lt
      obtain ⟨q0, q1, q2, q3⟩ := B3.c4; have lq := B3.lt
      go_upto_region 2 with (go_at_call 87; (with_reducible refine Calls.mono (NT _ C) ?_); rintro e v2 ⟨rfl, h⟩)
      replace E := Ext.trans E h
      replace C := C.ext h
      replace B1 := B1.ext h
      replace B2 := B2.ext h
      replace B3 := B3.ext h
      clear h
      clear k0 k1 lk
      clear p0 p1 p2 p3 lp
      clear q0 q1 q2 q3 lq
      obtain ⟨k0, k1⟩ := B1.c2; have lk := B1.lt
      obtain ⟨p0, p1, p2, p3⟩ := B2.c4; have lp := B2.lt
      obtain ⟨q0, q1, q2, q3⟩ := B3.c4; have lq := B3.lt
      go_upto_region 5 with (go_at_call 91; (with_reducible refine Calls.mono (N2 _ C) ?_); rintro e v3 ⟨rfl, h⟩)
      replace E := Ext.trans E h
      replace C := C.ext h
      replace B1 := B1.ext h
      replace B2 := B2.ext h
      replace B3 := B3.ext h
      clear h
      clear k0 k1 lk
      clear p0 p1 p2 p3 lp
      clear q0 q1 q2 q3 lq
      obtain ⟨k0, k1⟩ := B1.c2; have lk := B1.lt
      obtain ⟨p0, p1, p2, p3⟩ := B2.c4; have lp := B2.lt
      obtain ⟨q0, q1, q2, q3⟩ := B3.c4; have lq := B3.lt
      go_upto_region 7 with (go_at_call 80; (with_reducible refine Calls.mono (N3 _ C) ?_); rintro e v4 ⟨rfl, h⟩)
      replace E := Ext.trans E h
      replace C := C.ext h
      replace B1 := B1.ext h
      replace B2 := B2.ext h
      replace B3 := B3.ext h
      clear h
      clear k0 k1 lk
      clear p0 p1 p2 p3 lp
      clear q0 q1 q2 q3 lq
      obtain ⟨k0, k1⟩ := B1.c2; have lk := B1.lt
      obtain ⟨p0, p1, p2, p3⟩ := B2.c4; have lp := B2.lt
      obtain ⟨q0, q1, q2, q3⟩ := B3.c4; have lq := B3.lt
      go_wp2_with (go_at_call 92; (with_reducible refine Calls.mono (N4 _ C) ?_); rintro e v5 ⟨rfl, h⟩; replace B3 := B3.ext h; replace E := E.trans h; have lz := B3.lt; obtain ⟨z0, z1, z2, z3⟩ := B3.c4; have f0 := B3.frozen 0; have f1 := B3.frozen 1; have f2 := B3.frozen 2; have f3 := B3.frozen 3)
      obtain ⟨⟨g0, g1, g2, g3⟩, gE⟩ := four_set B3 (.int .i64 D.y) (.int .i64 D.m) (.bool D.s) (.int .i64 D.d)
      refine bodyPost_ret (v := .tuple #[.agg #[.int .i64 D.y, .int .i64 D.m, .bool D.s, .int .i64 D.d], .int .i64 0]) (by simp [results, Tryd.results43, go_sem, g0, g1, g2, g3]) rfl ⟨by rw [HV.out.1, HV.out.2]; rfl, gE w E (by have := hb1.out; omega)⟩
  · have hne : (c.inE d == 0) = false := beq_eq_false_iff_ne.2 hE
    have HV : Hid (c.addV d n = zeroDt ∧ c.addE d n = c.inE d) := by unfold Hid Cal.addV Cal.addE; rw [if_neg hE, if_neg hE]; exact ⟨rfl, rfl⟩
    clear hE
    generalize c.inE d = ee at *
    go_enter Tryd.func43, Tryd.ntmps43
    go_upto_region 1 with (fail)
    obtain ⟨v, hv⟩ : ∃ v, v = (((w.alloc (.cells #[.slice A c.nk ca, .slice A' c.ny cb] 25)).alloc (.cells #[.int .i64 d.y, .int .i64 d.m, .bool d.s, .int .i64 d.d] 39)).alloc (.cells #[.int .i64 0, .int .i64 0, .bool false, .int .i64 0] 39)) := ⟨_, rfl⟩
    rw [← hv]
    have E : Ext w v := by rw [hv]; exact (((Ext.refl _).alloc _).alloc _).alloc _
    have B1 : Held v w.heap.size 25 #[.slice A c.nk ca, .slice A' c.ny cb] := by rw [hv]; exact ((Held.new _ _ _).alloc _).alloc _
    have B2 : Held v (w.heap.size + 1) 39 #[.int .i64 d.y, .int .i64 d.m, .bool d.s, .int .i64 d.d] := by rw [hv]; exact (Held.at _ _ _ _ (by simp)).alloc _
    have B3 : Held v (w.heap.size + 1 + 1) 39 #[.int .i64 0, .int .i64 0, .bool false, .int .i64 0] := by rw [hv]; exact Held.at _ _ _ _ (by simp)
    clear hv
    have C := hC.ext E
    clear hC
    generalize hb1 : w.heap.size = b1 at *
    replace hb1 := Lib.hid hb1
    obtain ⟨k0, k1⟩ := B1.c2; have lk := B1.lt
    obtain ⟨p0, p1, p2, p3⟩ := B2.c4; have lp := B2.lt
    obtain ⟨q0, q1, q2, q3⟩ := B3.c4; have lq := B3.lt
    go_upto_region 2 with (go_at_call 87; (with_reducible refine Calls.mono (NT _ C) ?_); rintro e v2 ⟨rfl, h⟩)
    replace E := Ext.trans E h
    replace C := C.ext h
    replace B1 := B1.ext h
    replace B2 := B2.ext h
    replace B3 := B3.ext h
    clear h
    clear k0 k1 lk
    clear p0 p1 p2 p3 lp
    clear q0 q1 q2 q3 lq
    obtain ⟨k0, k1⟩ := B1.c2; have lk := B1.lt
    obtain ⟨p0, p1, p2, p3⟩ := B2.c4; have lp := B2.lt
    obtain ⟨q0, q1, q2, q3⟩ := B3.c4; have lq := B3.lt
    have f0 := B3.frozen 0
    have f1 := B3.frozen 1
    have f2 := B3.frozen 2
    have f3 := B3.frozen 3
    go_wp2
    obtain ⟨⟨g0, g1, g2, g3⟩, gE⟩ := four_set B3 (.int .i64 0) (.int .i64 0) (.bool false) (.int .i64 0)
    refine bodyPost_ret (v := .tuple #[.agg #[.int .i64 0, .int .i64 0, .bool false, .int .i64 0], .int .i64 ee]) (by simp [results, Tryd.results43, go_sem, g0, g1, g2, g3]) rfl ⟨by rw [HV.out.1, HV.out.2]; rfl, gE w E (by have := hb1.out; omega)⟩
end Go.Proofs.YtfchchmmjabjnaaDoor

namespace Go.Proofs.YtfchchmmjabjnaaDoor
open Go Go.RowKit
attribute [local go_sem] gv_yes

theorem append_none_run {P : Program} {w : World} (t ty e : TypeId) (i : TypeInfo) (z : Value) (ht : P.underlying t = some (.slice e)) (hi : P.info? e = some i) (hz : i.zero = some z) :
    (Builtin.append_ #[t, t] ty #[.slice none 0 0, .slice none 0 0]).run P w = .ok (.slice none 0 0) w := by
  simp [Builtin.append_, run_underlying ht, sizeOf, typeInfo, zeroValue, hi, hz, Builtin.lenOf, run_firstCells_none]
/-- 'append(nil, x...)', x nil or not. -/
theorem wpList_append_copy {P : Program} {ops : Array Oper} {rest : List Oper} {o : Oper} {a : Act} {w : World} {Q : Exit → Act → World → Prop} (hgd : o.guard = none) (s x : Operand) (t : TypeId)
    (ho : o.op = .call { callee := .builtin .append, args := #[s, x], argTypes := #[t, t] })
    (base : Nat) (e : TypeId) (i : TypeInfo) (z : Value) (size bytes : Nat) (ht : P.underlying t = some (.slice e)) (hi : P.info? e = some i) (hz : i.zero = some z)
    (hsize : i.size = size) (hby : i.bytes = bytes) (hzs : z.cells.size = size) (hsz : 0 < size) (hs : a.eval s = .slice none 0 0)
    (A : Option Addr) (m c : Nat) (news : List Value) (hx : a.eval x = .slice A m c) (hnil : A = none → m = 0 ∧ c = 0) (hl : news.length = m * size) (hnews : ∀ ad, A = some ad → ∀ j u, news[j]? = some u → w.cell? (ad.add j) = some u) (h1 : ∀ u ∈ news, u.oneCell' = true)
    (h63 : m ≤ maxLen) (hbytes : m * bytes ≤ 140737488355328) (hbase : base ≤ w.heap.size)
    (h : ∀ v' w', w'.ownsRow base e size v' m news → w.grownBy w' none → wpList P ops Q rest (a.put o.dst v') w') :
    wpList P ops Q (o :: rest) a w := by
  cases A with
  | some ad =>
    refine wpList_append_own_at _ hgd s x t ho base e i z size bytes ht hi hz hsize hby hzs hsz (.slice none 0 0) 0 [] hs (World.ownsRow_nil w base e size) ad m c news hx hl (hnews ad rfl) h1 (by omega) (by rw [Nat.zero_add]; exact hbytes) hbase ?_
    intro v' w' g1 g2 _ _
    rw [Nat.zero_add, List.nil_append] at g1
    exact h v' w' g1 g2
  | none =>
    obtain ⟨rfl, rfl⟩ := hnil rfl
    have hn : news = [] := List.eq_nil_of_length_eq_zero (by simpa using hl)
    subst hn
    refine wpList_plain hgd fun K hK => ?_
    have hr := append_none_run (P := P) (w := w) t o.type e i z ht hi hz
    unfold Oper.wp execOp
    simp only [ho, resolve, invoke, builtin, Sem.run_bind, Sem.run_pure, Result.andThen_ok, List.map_toArray, List.map_cons, List.map_nil, hs, hx, hr]
    exact hK _ _ (h _ w (World.ownsRow_nil w base e size) (World.grownBy.refl _ _))
/-- The cells of n elements, one after the other. -/
def flatL (f : Nat → List Value) (n : Nat) : List Value := (List.range n).flatMap f
theorem flatL_succ (f : Nat → List Value) (k : Nat) : flatL f (k + 1) = flatL f k ++ f k := by simp [flatL, List.range_succ]
theorem flatL_len {f : Nat → List Value} {sz : Nat} (hf : ∀ i, (f i).length = sz) : ∀ k, (flatL f k).length = k * sz
  | 0 => by simp [flatL]
  | k + 1 => by rw [flatL_succ, List.length_append, flatL_len hf k, hf, Nat.succ_mul]
theorem flatL_get {f : Nat → List Value} {sz : Nat} (hf : ∀ i, (f i).length = sz) : ∀ {k i j : Nat}, i < k → j < sz → (flatL f k)[i * sz + j]? = (f i)[j]?
  | k + 1, i, j, hi, hj => by
    rw [flatL_succ]
    by_cases h : i = k
    · subst h
      rw [List.getElem?_append_right (by rw [flatL_len hf]; omega), flatL_len hf, Nat.add_sub_cancel_left]
    · have hik : i < k := by omega
      have hlt : i * sz + j < k * sz := Nat.lt_of_lt_of_le (show i * sz + j < (i + 1) * sz by rw [Nat.succ_mul]; omega) (Nat.mul_le_mul_right sz hik)
      rw [List.getElem?_append_left (by rw [flatL_len hf]; exact hlt)]
      exact flatL_get hf hik hj
theorem plain_add (b o j : Nat) : (⟨b, o, none⟩ : Addr).add j = ⟨b, o + j, none⟩ := by unfold Addr.add; split <;> simp_all
theorem flat_news {w : World} {A : Option Addr} {n sz : Nat} {f : Nat → List Value} (hf : ∀ i, (f i).length = sz) (hs : 0 < sz) (h : RowsAt w A n sz f) : ∀ ad, A = some ad → ∀ j u, (flatL f n)[j]? = some u → w.cell? (ad.add j) = some u := fun ad hA j u hj => by
  have hjl : j < n * sz := by have := (List.getElem?_eq_some_iff.1 hj).1; rwa [flatL_len hf] at this
  have hn : 0 < n := Nat.pos_of_ne_zero (fun e => by subst e; omega)
  obtain ⟨b, o, e, _, hc⟩ := h hn
  obtain rfl : ad = ⟨b, o, none⟩ := Option.some.inj (hA.symm.trans e)
  have hi : j / sz < n := (Nat.div_lt_iff_lt_mul hs).2 hjl
  have hm := Nat.mod_lt j hs
  have hd := Nat.div_add_mod j sz
  have he : j / sz * sz + j % sz = j := by rw [Nat.mul_comm]; exact hd
  have := flatL_get hf hi hm
  rw [he, hj] at this
  rw [plain_add]
  have := hc (j / sz) (j % sz) u hi this.symm
  rw [show o + j / sz * sz + j % sz = o + j by omega] at this
  exact this
theorem flat_rows {w : World} {base k sz : Nat} {e : TypeId} {v : Value} {f : Nat → List Value} (hf : ∀ i, (f i).length = sz) (h : w.ownsRow base e sz v k (flatL f k)) : ∃ F c, v = .slice F k c ∧ RowsAt w F k sz f ∧ k ≤ c ∧ c ≤ maxLen ∧ (F = none → k = 0 ∧ c = 0) ∧ ∀ a, F = some a → base ≤ a.block := by
  rcases h.2 with ⟨rfl, h0⟩ | ⟨q, cap, cur, rfl, hb, hq, hn, hm, _⟩
  · exact ⟨none, 0, by rw [h0], fun hp => by omega, by omega, by omega, fun _ => ⟨h0, rfl⟩, fun a h => by cases h⟩
  · refine ⟨_, _, rfl, fun _ => ⟨q, 0, rfl, (Array.getElem?_eq_some_iff.1 hq).1, fun i j v hi hv => ?_⟩, hn, hm, (fun h => by cases h), fun a h => by cases h; exact hb⟩
    have hj : j < sz := by have := (List.getElem?_eq_some_iff.1 hv).1; rwa [hf] at this
    have hlt : i * sz + j < k * sz := Nat.lt_of_lt_of_le (show i * sz + j < (i + 1) * sz by rw [Nat.succ_mul]; omega) (Nat.mul_le_mul_right sz hi)
    rw [Nat.zero_add, World.ownsRow.cellAt h (i * sz + j) hlt, flatL_get hf hi hj]
    exact hv
theorem info_str : (Tryd.prog.info? 9).map (fun i => (i.zero, i.size, i.bytes)) = some (some (.string ⟨#[]⟩), 1, 16) := by kernel_rfl
theorem info_year : (Tryd.prog.info? 99).map (fun i => (i.zero, i.size, i.bytes)) = some (some (.agg #[.int .i64 0, .string ⟨#[]⟩, .int .i64 0, .int .i64 0]), 4, 40) := by kernel_rfl
def strRow (g : Nat → ByteArray) (i : Nat) : List Value := [.string (g i)]
theorem flat_one {f : Nat → List Value} {n : Nat} (h : ∀ i, ∀ u ∈ f i, u.oneCell' = true) : ∀ u ∈ flatL f n, u.oneCell' = true := fun u hu => by
  obtain ⟨i, _, hi⟩ := List.mem_flatMap.1 hu
  exact h i u hi
set_option maxHeartbeats 1000000 in
theorem copyTexts_any (A : Option Addr) (n cap : Nat) (g : Nat → ByteArray) (w : World) (hA : RowsAt w A n 1 (strRow g)) (hnil : A = none → n = 0 ∧ cap = 0) (hn : n * 16 ≤ 140737488351232) :
    Calls Tryd.prog 71 #[.slice A n cap] w fun e w' => ∃ B m, e = .returned (.slice B n m) ∧ Ext w w' ∧ RowsAt w' B n 1 (strRow g) ∧ n ≤ m ∧ m ≤ maxLen ∧ (B = none → n = 0 ∧ m = 0) ∧ ∀ a, B = some a → w.heap.size ≤ a.block := by
  obtain ⟨i0, hi, hz0, hz1, hz2⟩ := info_parts info_str
  have hN := flat_news (f := strRow g) (sz := 1) (fun _ => rfl) (by decide) hA
  have hlen := flatL_len (f := strRow g) (sz := 1) (fun _ => rfl) n
  have hone := flat_one (f := strRow g) (n := n) (fun i u hu => by simp [strRow] at hu; subst hu; simp [Value.oneCell'])
  go_enter Tryd.func71, Tryd.ntmps71
  go_wp2_with (at_builtin; refine wpList_append_copy rfl _ _ 22 rfl w.heap.size 9 i0 (.string ⟨#[]⟩) 1 16 Tryd.underlying22 hi hz0 hz1 hz2 rfl (by decide) rfl A n cap (flatL (strRow g) n) rfl hnil hlen hN hone (by unfold maxLen; omega) (by omega) (Nat.le_refl _) ?_; intro v' w1 hown hgrow)
  obtain ⟨B, m, rfl, hr, h1, h2, h3, h4⟩ := flat_rows (f := strRow g) (fun _ => rfl) hown
  go_ret
  exact ⟨B, m, rfl, (Ext.refl w).grown hgrow (fun q hq => by cases hq), hr, h1, h2, h3, h4⟩
theorem wp_region_stepsW {P : Program} {id : Nat} {Q : Exit → Act → World → Prop} {a : Act} {w : World} {l : List Oper} (n : Nat) (W : World) (hm : P.follows .mixedOrders = true) (hn : n = l.length) (he : Ext W w)
    (h : Nonempty (XW W) → (∀ (u : XW W) b o, b < W.heap.size → u.w.cell? ⟨b, o, none⟩ = W.cell? ⟨b, o, none⟩) →
      ∀ w', Ext w w' → wpAnyC P .any l.toArray (Ext W) (fun a w => Q .normal a w) n (Array.replicate n false) a w') : (Code.region id l.toArray true).wp P Q a w := by
  have H := h (XW.some W) (fun u => u.cell) { w with drawn := w.drawn + 1 } ⟨rfl, rfl, rfl, Nat.le_refl _, fun _ _ => rfl⟩
  have _ := he
  refine Code.wp_mono (Q := onQ fun a w => Q .normal a w) (fun e a' w' h' => by cases e <;> first | exact h' | exact False.elim h') (wp_region_any hm (wpAny_of_C (C := Ext W) _ _ _ _ ?_))
  subst hn
  simpa using H
theorem rows_set {w : World} {A : Option Addr} {n sz : Nat} {f : Nat → List Value} (h : RowsAt w A n sz f) {p : Addr} (u : Value) (hne : ∀ a, A = some a → a.block ≠ p.block) : RowsAt (w.setCell p u) A n sz f := fun h0 => by
  obtain ⟨b, off, hA, hb, hc⟩ := h h0
  refine ⟨b, off, hA, by simpa [World.setCell] using hb, fun i j v hi hv => ?_⟩
  have hb2 : p.block ≠ b := fun e => hne _ hA e.symm
  rw [World.cell?_setCell_other _ _ _ _ (fun e => hb2 (by rw [e]))]
  exact hc i j v hi hv
theorem rows_set2 {w : World} {A : Option Addr} {n sz : Nat} {f : Nat → List Value} {b : Nat} (h : RowsAt w A n sz f) (hne : ∀ a, A = some a → a.block ≠ b) (i j : Nat) (u x : Value) : RowsAt ((w.setCell ⟨b, i, none⟩ u).setCell ⟨b, j, none⟩ x) A n sz f := rows_set (rows_set h u hne) x hne
theorem held_two {W : World} {b : Nat} {t : TypeId} {v0 v1 : Value} (h : Held W b t #[v0, v1]) (u0 u1 : Value) : Held ((W.setCell ⟨b, 0, none⟩ u0).setCell ⟨b, 1, none⟩ u1) b t #[u0, u1] := by unfold Held at h ⊢; simp [World.setCell, Array.getElem?_modify, h]
theorem yr_one : ∀ (c : Cal) (i : Nat), ∀ u ∈ (fun i => (c.yr i).cells) i, u.oneCell' = true := by intro c i u hu; simp [Yr.cells] at hu; rcases hu with rfl | rfl | rfl | rfl <;> simp [Value.oneCell']
set_option maxRecDepth 100000 in
set_option maxHeartbeats 4000000 in
theorem copy_any (A A' : Option Addr) (ca cb : Nat) (c : Cal) (w : World) (hC : CalAt w A ca A' cb c) (hnA : A = none → c.nk = 0 ∧ ca = 0) (hnA' : A' = none → c.ny = 0 ∧ cb = 0) (hk : c.nk * 16 ≤ 140737488351232) (hy : c.ny * 40 ≤ 140737488351232) :
    Calls Tryd.prog 23 #[.agg #[.slice A c.nk ca, .slice A' c.ny cb]] w fun e w' => ∃ B B' da db, e = .returned (.agg #[.slice B c.nk da, .slice B' c.ny db]) ∧ Ext w w' ∧ CalAt w' B da B' db c := by
  obtain ⟨i0, hi, hz0, hz1, hz2⟩ := info_parts info_year
  have NT := fun v (h : RowsAt v A c.nk 1 (fun i => [.string (c.kg i)])) => copyTexts_any A c.nk ca c.kg v h hnA hk
  have hlen := flatL_len (f := fun i => (c.yr i).cells) (sz := 4) (fun _ => rfl) c.ny
  have hone := flat_one (f := fun i => (c.yr i).cells) (n := c.ny) (yr_one c)
  have HN := fun v (h : RowsAt v A' c.ny 4 (fun i => (c.yr i).cells)) => flat_news (f := fun i => (c.yr i).cells) (sz := 4) (fun _ => rfl) (by decide) h
  have HRW := fun (v : World) (base : Nat) (x : Value) (h : v.ownsRow base 99 4 x c.ny (flatL (fun i => (c.yr i).cells) c.ny)) => flat_rows (f := fun i => (c.yr i).cells) (sz := 4) (fun _ => rfl) h
  have hkm : maxLen ≤ 9223372036854775807 := by decide
  go_enter Tryd.func23, Tryd.ntmps23
  go_upto_region 2 with (fail)
  obtain ⟨v, hv⟩ : ∃ v, v = w.alloc (.cells #[.slice A c.nk ca, .slice A' c.ny cb] 25) := ⟨_, rfl⟩
  rw [← hv]
  have E : Ext w v := by rw [hv]; exact (Ext.refl _).alloc _
  have B1 : Held v w.heap.size 25 #[.slice A c.nk ca, .slice A' c.ny cb] := by rw [hv]; exact Held.new _ _ _
  have hvs : v.heap.size = w.heap.size + 1 := by rw [hv]; simp
  clear hv
  have C := hC.ext E
  have hC0 := And.intro hC.nk_le hC.ny_le
  clear hC
  obtain ⟨vz, hv⟩ : ∃ x, x = v.alloc (.cells #[.slice none 0 0, .slice none 0 0] 25) := ⟨_, rfl⟩
  rw [← hv]
  have EZ : Ext v vz := by rw [hv]; exact (Ext.refl _).alloc _
  have B2 : Held vz (w.heap.size + 1) 25 #[.slice none 0 0, .slice none 0 0] := by rw [← hvs, hv]; exact Held.new _ _ _
  have hb2 : v.heap.size ≤ w.heap.size + 1 := by omega
  clear hv hvs
  generalize w.heap.size + 1 = b2 at *
  generalize w.heap.size = b1 at *
  obtain ⟨k0, k1⟩ := B1.c2
  have lk := B1.lt
  refine wp_region_stepsW 9 v mixed rfl EZ ?_
  intro hne hrx v3 hz3
  have h3 := EZ.trans hz3
  replace B2 := B2.ext hz3
  clear EZ hz3
  refine any_stills (g := 4) [0, 1, 3, 4, 5] [_, _, _, _, _] ⟨rfl, rfl, rfl, rfl, rfl, trivial⟩ (by kernel_rfl) (by kernel_rfl) h3 ?_
  simp only [List.getElem_toArray, List.getElem_cons_succ, List.getElem_cons_zero]
  apply Exists.intro
  refine ⟨fun u => ?_, ?_⟩
  · repeat (first | go_big_quiet_skip | (go_big_quiet_want; go_big_quiet_op; go_big_quiet_on))
    refine wpQuiet_nil ?_
    rfl
  refine any_one 2 rfl (by kernel_rfl) ?_
  simp only [List.getElem_toArray, List.getElem_cons_succ, List.getElem_cons_zero]
  go_wp2_with (go_at_call 71; (with_reducible refine Calls.mono (NT _ (C.kings.ext h3)) ?_); rintro e w4 ⟨B, m, rfl, h4, hr, g1, g2, g3, g4⟩)
  have e4 := h3.trans h4
  refine onQ_in e4 ?_
  refine any_one 6 rfl (by kernel_rfl) ?_
  simp only [List.getElem_toArray, List.getElem_cons_succ, List.getElem_cons_zero]
  go_wp2_with (at_builtin; refine wpList_append_copy rfl _ _ 23 rfl w4.heap.size 99 i0 (.agg #[.int .i64 0, .string ⟨#[]⟩, .int .i64 0, .int .i64 0]) 4 40 Tryd.underlying23 hi hz0 hz1 hz2 rfl (by decide) rfl A' c.ny cb (flatL (fun i => (c.yr i).cells) c.ny) rfl hnA' hlen (HN _ (C.years.ext e4)) hone (by unfold maxLen; omega) (by omega) (Nat.le_refl _) ?_; intro v' w5 hown hgrow)
  obtain ⟨B', m', rfl, hr', g1', g2', g3', g4'⟩ := HRW _ _ _ hown
  have e5 := (e4).grown hgrow (fun q hq => by cases hq)
  have h45 : Ext w4 w5 := (Ext.refl _).grown hgrow (fun q hq => by cases hq)
  clear hown hgrow
  refine onQ_in e5 ?_
  replace hr := hr.ext h45
  have hbl := (B2.ext h4).lt
  have hbl3 := B2.lt
  refine any_stills (g := 1) [7] [_] ⟨rfl, trivial⟩ (by kernel_rfl) (by kernel_rfl) e5 ?_
  simp only [List.getElem_toArray, List.getElem_cons_succ, List.getElem_cons_zero]
  apply Exists.intro
  refine ⟨fun u => ?_, ?_⟩
  · repeat (first | go_big_quiet_skip | (go_big_quiet_want; go_big_quiet_op; go_big_quiet_on))
    refine wpQuiet_nil ?_
    rfl
  refine any_one 8 rfl (by kernel_rfl) ?_
  simp only [List.getElem_toArray, List.getElem_cons_succ, List.getElem_cons_zero]
  have B2e := B2.ext (h4.trans h45)
  have f0 := B2e.frozen 0
  have f1 := B2e.frozen 1
  obtain ⟨z0, z1⟩ := B2e.c2
  have lz := B2e.lt
  go_wp2
  have E2 := (e5.setCell (p := ⟨b2, 0, none⟩) hb2 (.slice B c.nk m)).setCell (p := ⟨b2, 1, none⟩) hb2 (.slice B' c.ny m')
  refine onQ_in E2 ?_
  refine any_done (by kernel_rfl) ?_
  have hne1 : ∀ a, B = some a → a.block ≠ b2 := fun a h => by have := g4 a h; omega
  have hne2 : ∀ a, B' = some a → a.block ≠ b2 := fun a h => by have := g4' a h; omega
  replace hr := rows_set2 hr hne1 0 1 (.slice B c.nk m) (.slice B' c.ny m')
  replace hr' := rows_set2 hr' hne2 0 1 (.slice B c.nk m) (.slice B' c.ny m')
  have H2 := held_two B2e (.slice B c.nk m) (.slice B' c.ny m')
  obtain ⟨y0, y1⟩ := H2.c2
  generalize (w5.setCell ⟨b2, 0, none⟩ (.slice B c.nk m)).setCell ⟨b2, 1, none⟩ (.slice B' c.ny m') = wf at *
  go_wp2
  refine bodyPost_ret (v := .agg #[.slice B c.nk m, .slice B' c.ny m']) (by simp [results, Tryd.results23, go_sem, y0, y1]) rfl ⟨B, B', m, m', rfl, E.trans E2, ⟨hr, hr', hC0.1, hC0.2, g1, g1'⟩⟩
end Go.Proofs.YtfchchmmjabjnaaDoor

namespace Go.Proofs.YtfchchmmjabjnaaDoor
open Go Go.RowKit
attribute [local go_sem] gv_yes
attribute [local go_sem high] neq_year

set_option maxHeartbeats 1000000 in
theorem eqTexts_any (A B : Option Addr) (n ca cb : Nat) (g : Nat → ByteArray) (w : World) (hA : RowsAt w A n 1 (strRow g)) (hB : RowsAt w B n 1 (strRow g)) (hn : n ≤ 9223372036854775807) :
    Calls Tryd.prog 74 #[.slice A n ca, .slice B n cb] w fun e w' => e = .returned (.bool true) ∧ Ext w w' := by
  go_enter Tryd.func74, Tryd.ntmps74
  go_wp2
  go_loopw [5] (fun i wr => ∃ k : Nat, k ≤ n ∧ i = .int .i64 k ∧ Ext w wr) (fun i _ => n - (intOf i).toNat)
  case atStart => exact ⟨0, Nat.zero_le _, rfl, Ext.refl _⟩
  case round =>
    obtain ⟨k, hk, rfl, hE⟩ := hrel
    obtain ⟨wo, rfl⟩ : ∃ wo : World, wo = wr := ⟨_, rfl⟩
    obtain ⟨hcwo, hfwo, hzwo⟩ := Ext.rules hE
    try simp only [World.size_alloc] at hzwo
    obtain ⟨hcbwo, hfbwo, hzbwo⟩ := Ext.rules (show Ext w wo from (by repeat (first | exact Ext.refl _ | (refine Ext.alloc ?_ _) | (refine Ext.trans ?_ (by assumption)))))
    clear hcwo hfwo
    by_cases hlt : k < n
    · obtain ⟨b, off, rfl, hb, hc⟩ := hA (by omega)
      obtain ⟨b', off', rfl, hb', hc'⟩ := hB (by omega)
      have c0 : w.cell? ⟨b, off + k, none⟩ = some (.string (g k)) := by simpa using hc k 0 _ hlt rfl
      have c1 : w.cell? ⟨b', off' + k, none⟩ = some (.string (g k)) := by simpa using hc' k 0 _ hlt rfl
      clear hc hA hc' hB
      go_upto_region 6 with (fail)
      refine wp_region_xw w mixed (by kernel_rfl) (by repeat (first | exact Ext.refl _ | (refine Ext.alloc ?_ _) | (refine Ext.trans ?_ (by assumption)))) ?_
      intro hne hrx hry
      try simp only []
      try simp only [List.append_eq, List.cons_append, List.nil_append]
      skip
      repeat (first
        | go_big_quiet_skip
        | (go_big_quiet_want; go_big_quiet_op; go_big_quiet_on))
      clear hne hry hrx
      refine wpQuiet_nil ?_
      intro wn hwn
      obtain ⟨hcwn, hfwn, hzwn⟩ := Ext.rules hwn
      try simp only [World.size_alloc] at hzwn
      obtain ⟨hcbwn, hfbwn, hzbwn⟩ := Ext.rules (show Ext w wn from (by repeat (first | exact Ext.refl _ | (refine Ext.alloc ?_ _) | (refine Ext.trans ?_ (by assumption)))))
      clear hcwn hfwn
      go_wp2
      exact ⟨⟨k + 1, by omega, by go_num, (by repeat (first | exact Ext.refl _ | (refine Ext.alloc ?_ _) | (refine Ext.trans ?_ (by assumption))))⟩, by simp [intOf]; omega⟩
    · go_wp2
      go_ret
      exact ⟨rfl, (by repeat (first | exact Ext.refl _ | (refine Ext.alloc ?_ _) | (refine Ext.trans ?_ (by assumption))))⟩
set_option maxHeartbeats 1000000 in
theorem eqInts_any (A B : Option Addr) (n ca cb : Nat) (g : Nat → Int) (w : World) (hA : RowsAt w A n 1 (fun i => [.int .i64 (g i)])) (hB : RowsAt w B n 1 (fun i => [.int .i64 (g i)])) (hn : n ≤ 9223372036854775807) :
    Calls Tryd.prog 64 #[.slice A n ca, .slice B n cb] w fun e w' => e = .returned (.bool true) ∧ Ext w w' := by
  go_enter Tryd.func64, Tryd.ntmps64
  go_wp2
  go_loopw [5] (fun i wr => ∃ k : Nat, k ≤ n ∧ i = .int .i64 k ∧ Ext w wr) (fun i _ => n - (intOf i).toNat)
  case atStart => exact ⟨0, Nat.zero_le _, rfl, Ext.refl _⟩
  case round =>
    obtain ⟨k, hk, rfl, hE⟩ := hrel
    obtain ⟨wo, rfl⟩ : ∃ wo : World, wo = wr := ⟨_, rfl⟩
    obtain ⟨hcwo, hfwo, hzwo⟩ := Ext.rules hE
    try simp only [World.size_alloc] at hzwo
    obtain ⟨hcbwo, hfbwo, hzbwo⟩ := Ext.rules (show Ext w wo from (by repeat (first | exact Ext.refl _ | (refine Ext.alloc ?_ _) | (refine Ext.trans ?_ (by assumption)))))
    clear hcwo hfwo
    by_cases hlt : k < n
    · obtain ⟨b, off, rfl, hb, hc⟩ := hA (by omega)
      obtain ⟨b', off', rfl, hb', hc'⟩ := hB (by omega)
      have c0 : w.cell? ⟨b, off + k, none⟩ = some (.int .i64 (g k)) := by simpa using hc k 0 _ hlt rfl
      have c1 : w.cell? ⟨b', off' + k, none⟩ = some (.int .i64 (g k)) := by simpa using hc' k 0 _ hlt rfl
      clear hc hA hc' hB
      go_upto_region 6 with (fail)
      refine wp_region_xw w mixed (by kernel_rfl) (by repeat (first | exact Ext.refl _ | (refine Ext.alloc ?_ _) | (refine Ext.trans ?_ (by assumption)))) ?_
      intro hne hrx hry
      try simp only []
      try simp only [List.append_eq, List.cons_append, List.nil_append]
      skip
      repeat (first
        | go_big_quiet_skip
        | (go_big_quiet_want; go_big_quiet_op; go_big_quiet_on))
      clear hne hry hrx
      refine wpQuiet_nil ?_
      intro wn hwn
      obtain ⟨hcwn, hfwn, hzwn⟩ := Ext.rules hwn
      try simp only [World.size_alloc] at hzwn
      obtain ⟨hcbwn, hfbwn, hzbwn⟩ := Ext.rules (show Ext w wn from (by repeat (first | exact Ext.refl _ | (refine Ext.alloc ?_ _) | (refine Ext.trans ?_ (by assumption)))))
      clear hcwn hfwn
      go_wp2
      exact ⟨⟨k + 1, by omega, by go_num, (by repeat (first | exact Ext.refl _ | (refine Ext.alloc ?_ _) | (refine Ext.trans ?_ (by assumption))))⟩, by simp [intOf]; omega⟩
    · go_wp2
      go_ret
      exact ⟨rfl, (by repeat (first | exact Ext.refl _ | (refine Ext.alloc ?_ _) | (refine Ext.trans ?_ (by assumption))))⟩
set_option maxRecDepth 100000 in
set_option maxHeartbeats 4000000 in
theorem sameCal_any (A A' B B' : Option Addr) (ca cb da db : Nat) (c : Cal) (w : World) (hC : CalAt w A ca A' cb c) (hD : CalAt w B da B' db c) :
    Calls Tryd.prog 27 #[.agg #[.slice A c.nk ca, .slice A' c.ny cb], .agg #[.slice B c.nk da, .slice B' c.ny db]] w fun e w' => e = .returned (.bool true) ∧ Ext w w' := by
  have hnk := hC.nk_le
  have hny := hC.ny_le
  have NT := fun v (h : RowsAt v A c.nk 1 (fun i => [.string (c.kg i)])) (h' : RowsAt v B c.nk 1 (fun i => [.string (c.kg i)])) => eqTexts_any A B c.nk ca da c.kg v h h' hnk
  go_enter Tryd.func27, Tryd.ntmps27
  go_upto_region 1 with (fail)
  obtain ⟨v, hv⟩ : ∃ v, v = ((w.alloc (.cells #[.slice A c.nk ca, .slice A' c.ny cb] 25)).alloc (.cells #[.slice B c.nk da, .slice B' c.ny db] 25)) := ⟨_, rfl⟩
  rw [← hv]
  have E : Ext w v := by rw [hv]; exact ((Ext.refl _).alloc _).alloc _
  have B1 : Held v w.heap.size 25 #[.slice A c.nk ca, .slice A' c.ny cb] := by rw [hv]; exact (Held.new _ _ _).alloc _
  have B2 : Held v (w.heap.size + 1) 25 #[.slice B c.nk da, .slice B' c.ny db] := by rw [hv]; exact Held.at _ _ _ _ (by simp)
  clear hv
  have C := hC.ext E
  have D := hD.ext E
  clear hC hD
  generalize w.heap.size = b1 at *
  obtain ⟨k0, k1⟩ := B1.c2; have lk := B1.lt
  obtain ⟨p0, p1⟩ := B2.c2; have lp := B2.lt
  go_upto_region 2 with (go_at_call 74; (with_reducible refine Calls.mono (NT _ C.kings D.kings) ?_); rintro e v2 ⟨rfl, h⟩; clear k0 k1 lk p0 p1 lp; obtain ⟨k0, k1⟩ := (B1.ext h).c2; have lk := (B1.ext h).lt; obtain ⟨p0, p1⟩ := (B2.ext h).c2; have lp := (B2.ext h).lt)
  replace E := Ext.trans E h
  replace C := C.ext h
  replace D := D.ext h
  replace B1 := B1.ext h
  replace B2 := B2.ext h
  clear h
  have C0 := C
  have D0 := D
  clear k0 k1 lk p0 p1 lp
  obtain ⟨k0, k1⟩ := B1.c2; have lk := B1.lt
  obtain ⟨p0, p1⟩ := B2.c2; have lp := B2.lt
  go_wp2
  go_loopw [5] (fun i wr => ∃ k : Nat, k ≤ c.ny ∧ i = .int .i64 k ∧ Ext v2 wr) (fun i _ => c.ny - (intOf i).toNat)
  case atStart => exact ⟨0, Nat.zero_le _, rfl, Ext.refl _⟩
  case round =>
    clear k0 k1 lk p0 p1 lp
    obtain ⟨k, hk, rfl, hE⟩ := hrel
    obtain ⟨wo, rfl⟩ : ∃ wo : World, wo = wr := ⟨_, rfl⟩
    obtain ⟨k0, k1⟩ := (B1.ext hE).c2
    have lk := (B1.ext hE).lt
    obtain ⟨p0, p1⟩ := (B2.ext hE).c2
    have lp := (B2.ext hE).lt
    by_cases hlt : k < c.ny
    · obtain ⟨b, off, rfl, hb, y0, y1, y2, y3⟩ := (C0.ext hE).year hlt
      obtain ⟨b', off', rfl, hb', z0, z1, z2, z3⟩ := (D0.ext hE).year hlt
      clear C D C0 D0 NT
      generalize c.yr k = y at *
      go_upto_region 6 with (fail)
      refine wp_region_xw wo mixed (by kernel_rfl) (by repeat (first | exact Ext.refl _ | (refine Ext.alloc ?_ _) | (refine Ext.trans ?_ (by assumption)))) ?_
      intro hne hrx hry
      try simp only []
      try simp only [List.append_eq, List.cons_append, List.nil_append]
      skip
      repeat (first
        | go_big_quiet_skip
        | (go_big_quiet_want; go_big_quiet_op; go_big_quiet_on))
      clear hne hry hrx
      refine wpQuiet_nil ?_
      intro wn hwn
      obtain ⟨hcwn, hfwn, hzwn⟩ := Ext.rules hwn
      try simp only [World.size_alloc] at hzwn
      obtain ⟨hcbwn, hfbwn, hzbwn⟩ := Ext.rules (show Ext wo wn from (by repeat (first | exact Ext.refl _ | (refine Ext.alloc ?_ _) | (refine Ext.trans ?_ (by assumption)))))
      clear hcwn hfwn
      go_wp2
      exact ⟨⟨k + 1, by omega, by go_num, hE.trans hwn⟩, by simp [intOf]; omega⟩
    · go_wp2
      go_ret
      exact ⟨rfl, E.trans hE⟩
end Go.Proofs.YtfchchmmjabjnaaDoor
