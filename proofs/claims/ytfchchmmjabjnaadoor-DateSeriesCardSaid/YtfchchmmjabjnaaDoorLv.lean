/- The walk of DateSeries. -/
import Derived.Test.YtfchchmmjabjnaaDoorLa
import Derived.Test.YtfchchmmjabjnaaDoorYn
import Derived.Test.YtfchchmmjabjnaaDoorWk
namespace Go.Proofs.YtfchchmmjabjnaaDoor
open Go Go.RowKit
attribute [local go_sem] gv_yes
attribute [local go_sem high] neq_trace

theorem info_trace : (Tryd.prog.info? 33).map (fun i => (i.zero, i.size, i.bytes)) = some (some (.agg #[.int .i64 0, .bool false, .int .i64 0, .bool false, .string ⟨#[]⟩, .int .i64 0, .string ⟨#[]⟩]), 7, 72) := by kernel_rfl
theorem tr_one : ∀ (f : Nat → Tr) (i : Nat), ∀ u ∈ (fun i => (f i).cells) i, u.oneCell' = true := by intro f i u hu; simp [Tr.cells] at hu; rcases hu with rfl | rfl | rfl | rfl | rfl | rfl | rfl <;> simp [Value.oneCell']

set_option maxRecDepth 100000 in
set_option maxHeartbeats 4000000 in
theorem dateSeries_walk (hwk : WorksOk) (A A' : Option Addr) (ca cb : Nat) (c : Cal) (Bt : Option Addr) (n cap : Nat) (f : Nat → Tr) (hnB : Bt = none → n = 0 ∧ cap = 0) (hsB : n * 72 ≤ 140737488351232) (w : World) (hT : RowsAt w Bt n 7 (fun i => (f i).cells)) (hC : CalAt w A ca A' cb c) (hnA : A = none → c.nk = 0 ∧ ca = 0) (hnA' : A' = none → c.ny = 0 ∧ cb = 0) (hk : c.nk * 16 ≤ 140737488351232) (hy : c.ny * 40 ≤ 140737488351232) :
    Calls Tryd.prog 3 #[.agg #[.slice A c.nk ca, .slice A' c.ny cb], .slice Bt n cap] w fun e w' => e = .returned (.bool true) ∧ Ext w w' := by
  have hwk : ∀ w : World, Calls Tryd.prog 28 #[] w fun e w' => e = .returned (.bool true) ∧ Ext w w' := hwk
  have NCP := fun v (h : CalAt v A ca A' cb c) => copy_any A A' ca cb c v h hnA hnA' hk hy
  have NSM := fun v {B B' : Option Addr} {da db : Nat} (h : CalAt v B da B' db c) (h' : CalAt v A ca A' cb c) => sameCal_any B B' A A' da db ca cb c v h h'
  obtain ⟨i0, hi, hz0, hz1, hz2⟩ := info_parts info_trace
  have hlen := flatL_len (f := fun i => (f i).cells) (sz := 7) (fun _ => rfl) n
  have hone := flat_one (f := fun i => (f i).cells) (n := n) (tr_one f)
  have HN := fun v (h : RowsAt v Bt n 7 (fun i => (f i).cells)) => flat_news (f := fun i => (f i).cells) (sz := 7) (fun _ => rfl) (by decide) h
  have HRW := fun (v : World) (base : Nat) (x : Value) (h : v.ownsRow base 33 7 x n (flatL (fun i => (f i).cells) n)) => flat_rows (f := fun i => (f i).cells) (sz := 7) (fun _ => rfl) h
  have hn : n ≤ 9223372036854775807 := by omega
  have N1 := fun v {B B' Bx : Option Addr} {da db cx : Nat} (h : CalAt v B da B' db c) (h' : RowsAt v Bx n 7 (fun i => (f i).cells)) => seriesX_any B B' da db c Bx n cx f v h h' hn
  have M1 := fun v (h : CalAt v A ca A' cb c) (h' : RowsAt v Bt n 7 (fun i => (f i).cells)) => series_any_r A A' ca cb c Bt n cap f v h h' hn
  have NSS := fun w {x y : Value} (h : SpansAt w x (c.serV f n)) (h' : SpansAt w y (c.serV f n)) => same_any x y (c.serV f n) (c.serV f n) w h h'
  simp only [decide_true] at NSS
  generalize c.serE f n = e1 at *
  generalize c.serV f n = sl at *
  clear hnA hnA' hk hy
  go_enter Tryd.func3, Tryd.ntmps3
  go_upto_region 1 with (fail)
  obtain ⟨v, hv⟩ : ∃ v, v = (w.alloc (.cells #[.slice A c.nk ca, .slice A' c.ny cb] 25)) := ⟨_, rfl⟩
  rw [← hv]
  have E : Ext w v := by rw [hv]; exact (Ext.refl _).alloc _
  have B1 : Held v w.heap.size 25 #[.slice A c.nk ca, .slice A' c.ny cb] := by rw [hv]; exact (Held.new _ _ _)
  clear hv
  have C := hC.ext E
  clear hC
  generalize w.heap.size = b1 at *
  obtain ⟨k0, k1⟩ := B1.c2; have lk := B1.lt
  have TL := hT.ext E
  clear hT
  go_upto_region 2 with (go_at_call 23; (with_reducible refine Calls.mono (NCP _ C) ?_); rintro e v2 ⟨B, B', da, db, rfl, h, D⟩)
  replace E := Ext.trans E h
  replace C := C.ext h
  replace B1 := B1.ext h
  replace TL := TL.ext h
  clear h
  clear k0 k1 lk
  obtain ⟨k0, k1⟩ := B1.c2; have lk := B1.lt
  obtain ⟨v3, hv⟩ : ∃ v, v = v2.alloc (.cells #[.slice B c.nk da, .slice B' c.ny db] 25) := ⟨_, rfl⟩
  rw [← hv]
  have h : Ext v2 v3 := by rw [hv]; exact (Ext.refl _).alloc _
  have B6 : Held v3 v2.heap.size 25 #[.slice B c.nk da, .slice B' c.ny db] := by rw [hv]; exact Held.new _ _ _
  clear hv
  generalize v2.heap.size = b9 at *
  replace E := Ext.trans E h
  replace C := C.ext h
  replace D := D.ext h
  replace B1 := B1.ext h
  replace TL := TL.ext h
  clear h
  clear k0 k1 lk
  obtain ⟨k0, k1⟩ := B1.c2; have lk := B1.lt
  obtain ⟨t0, t1⟩ := B6.c2; have lt := B6.lt
  go_upto_region 4 with (at_builtin; refine wpList_append_copy rfl _ _ 26 rfl v3.heap.size 33 i0 (.agg #[.int .i64 0, .bool false, .int .i64 0, .bool false, .string ⟨#[]⟩, .int .i64 0, .string ⟨#[]⟩]) 7 72 Tryd.underlying26 hi hz0 hz1 hz2 rfl (by decide) rfl Bt n cap (flatL (fun i => (f i).cells) n) rfl hnB hlen (HN _ TL) hone (by unfold maxLen; omega) (by omega) (Nat.le_refl _) ?_; intro v' w5 hown hgrow)
  obtain ⟨F, m, rfl, TN, g1', g2', g3', g4'⟩ := HRW _ _ _ hown
  have h : Ext v3 w5 := (Ext.refl _).grown hgrow (fun q hq => by cases hq)
  clear hown hgrow g1' g2' g3' g4' hlen hone
  replace TL := TL.ext h
  replace E := Ext.trans E h
  replace C := C.ext h
  replace D := D.ext h
  replace B1 := B1.ext h
  replace B6 := B6.ext h
  clear h
  clear k0 k1 lk
  clear t0 t1 lt
  obtain ⟨k0, k1⟩ := B1.c2; have lk := B1.lt
  obtain ⟨t0, t1⟩ := B6.c2; have lt := B6.lt
  go_upto_region 5 with (go_at_call 24; (with_reducible refine Calls.mono (N1 _ D TN) ?_); rintro e v6 ⟨x, rfl, h, SX⟩)
  replace TL := TL.ext h
  replace TN := TN.ext h
  replace E := Ext.trans E h
  replace C := C.ext h
  replace D := D.ext h
  replace B1 := B1.ext h
  replace B6 := B6.ext h
  clear h
  clear k0 k1 lk
  clear t0 t1 lt
  obtain ⟨k0, k1⟩ := B1.c2; have lk := B1.lt
  obtain ⟨t0, t1⟩ := B6.c2; have lt := B6.lt
  go_upto_region 6 with (go_at_call 25; (with_reducible refine Calls.mono (M1 _ C TL) ?_); rintro e v7 ⟨y, rfl, h, SY⟩)
  replace TL := TL.ext h
  replace TN := TN.ext h
  replace SX := SX.ext h
  replace E := Ext.trans E h
  replace C := C.ext h
  replace D := D.ext h
  replace B1 := B1.ext h
  replace B6 := B6.ext h
  clear h
  clear k0 k1 lk
  clear t0 t1 lt
  obtain ⟨k0, k1⟩ := B1.c2; have lk := B1.lt
  obtain ⟨t0, t1⟩ := B6.c2; have lt := B6.lt
  go_upto_region 7 with (fail)
  go_loopw [11] (fun iv wr => ∃ k : Nat, k ≤ n ∧ iv = .int .i64 (k : Int) ∧ Ext v7 wr) (fun iv _ => n - (intOf iv).toNat)
  case atStart => exact ⟨0, Nat.zero_le _, rfl, Ext.refl _⟩
  case round =>
    clear k0 k1 lk t0 t1 lt
    obtain ⟨k, hk, rfl, hE⟩ := hrel
    obtain ⟨wo, rfl⟩ : ∃ wo : World, wo = wr := ⟨_, rfl⟩
    by_cases hlt : k < n
    · obtain ⟨b, off, e1, hb, c0, c1, c2, c3, c4, c5, c6⟩ := Tr.row (TL.ext hE) hlt
      obtain ⟨b', off', e2, hb', d0, d1, d2, d3, d4, d5, d6⟩ := Tr.row (TN.ext hE) hlt
      subst e1
      subst e2
      clear TL TN C D HN
      generalize f k = t at *
      go_upto_region 9 with (fail)
      refine wp_region_xw wo mixed (by kernel_rfl) (by repeat (first | exact Ext.refl _ | (refine Ext.alloc ?_ _) | (refine Ext.trans ?_ (by assumption)))) ?_
      intro hne hrx hry
      try simp only []
      try simp only [List.append_eq, List.cons_append, List.nil_append]
      skip
      repeat (first
        | go_big_quiet_skip
        | (go_big_quiet_want; go_big_quiet_op; go_big_quiet_on))
      clear hne hry hrx
      refine wpQuiet_nil ?_
      intro wn hwn
      obtain ⟨hcwn, hfwn, hzwn⟩ := Ext.rules hwn
      try simp only [World.size_alloc] at hzwn
      obtain ⟨hcbwn, hfbwn, hzbwn⟩ := Ext.rules (show Ext wo wn from (by repeat (first | exact Ext.refl _ | (refine Ext.alloc ?_ _) | (refine Ext.trans ?_ (by assumption)))))
      clear hcwn hfwn
      go_wp2
      exact ⟨⟨k + 1, by omega, by go_num, hE.trans hwn⟩, by simp [intOf]; omega⟩
    · have D7 := D.ext hE
      have C7 := C.ext hE
      have SX7 := SX.ext hE
      have SY7 := SY.ext hE
      replace B1 := B1.ext hE
      replace B6 := B6.ext hE
      obtain ⟨k0, k1⟩ := B1.c2
      have lk := B1.lt
      obtain ⟨t0, t1⟩ := B6.c2
      have lt := B6.lt
      go_wp2_with (first | (go_at_call 26; (with_reducible refine Calls.mono (NSS _ SX7 SY7) ?_); rintro e v8 ⟨rfl, h7⟩; have D8 := D7.ext h7; have C8 := C7.ext h7; clear k0 k1 lk; obtain ⟨k0, k1⟩ := (B1.ext h7).c2; have lk := (B1.ext h7).lt; clear t0 t1 lt; obtain ⟨t0, t1⟩ := (B6.ext h7).c2; have lt := (B6.ext h7).lt) | (go_at_call 27; (with_reducible refine Calls.mono (NSM _ D8 C8) ?_); rintro e v9 ⟨rfl, h8⟩) | (go_at_call 28; (with_reducible refine Calls.mono (hwk _) ?_); rintro e v10 ⟨rfl, h9⟩))
      go_ret
      exact ⟨rfl, E.trans (hE.trans (h7.trans (h8.trans h9)))⟩
end Go.Proofs.YtfchchmmjabjnaaDoor
