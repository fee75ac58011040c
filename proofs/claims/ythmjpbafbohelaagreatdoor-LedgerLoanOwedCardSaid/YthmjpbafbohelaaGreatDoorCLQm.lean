/- samePayments; the walk of LedgerLoanOwed. -/
import Derived.Test.YthmjpbafbohelaaGreatDoorL13
import Derived.Test.YthmjpbafbohelaaGreatDoorL16
set_option maxRecDepth 100000
set_option maxHeartbeats 4000000
namespace Go.Proofs.YthmjpbafbohelaaGreatDoor
open Go Go.RowKit Go.Shelf
attribute [local go_sem] gv_yes
attribute [local go_sem high] eql_ratio eql_debt neq_pay
theorem info_payQ : (Tryz.prog.info? 129).map (fun i => (i.zero, i.size, i.bytes)) = some (some (.agg #[.int .i64 0, .int .i64 0, .bool false, .int .i64 0, .int .i64 0, .int .i64 0]), 6, 48) := by kernel_rfl
section
variable {W : World} {b : Nat} {t : TypeId} {v0 v1 v2 v3 v4 v5 v6 v7 v8 v9 v10 v11 v12 : Value}
theorem heldR_c10 (h : Held W b t #[v0, v1, v2, v3, v4, v5, v6, v7, v8, v9]) : W.cell? ⟨b, 0, none⟩ = some v0 ∧ W.cell? ⟨b, 1, none⟩ = some v1 ∧ W.cell? ⟨b, 2, none⟩ = some v2 ∧ W.cell? ⟨b, 3, none⟩ = some v3 ∧ W.cell? ⟨b, 4, none⟩ = some v4 ∧ W.cell? ⟨b, 5, none⟩ = some v5 ∧ W.cell? ⟨b, 6, none⟩ = some v6 ∧ W.cell? ⟨b, 7, none⟩ = some v7 ∧ W.cell? ⟨b, 8, none⟩ = some v8 ∧ W.cell? ⟨b, 9, none⟩ = some v9 := ⟨h.cell 0, h.cell 1, h.cell 2, h.cell 3, h.cell 4, h.cell 5, h.cell 6, h.cell 7, h.cell 8, h.cell 9⟩
theorem held_c13 (h : Held W b t #[v0, v1, v2, v3, v4, v5, v6, v7, v8, v9, v10, v11, v12]) : W.cell? ⟨b, 0, none⟩ = some v0 ∧ W.cell? ⟨b, 1, none⟩ = some v1 ∧ W.cell? ⟨b, 2, none⟩ = some v2 ∧ W.cell? ⟨b, 3, none⟩ = some v3 ∧ W.cell? ⟨b, 4, none⟩ = some v4 ∧ W.cell? ⟨b, 5, none⟩ = some v5 ∧ W.cell? ⟨b, 6, none⟩ = some v6 ∧ W.cell? ⟨b, 7, none⟩ = some v7 ∧ W.cell? ⟨b, 8, none⟩ = some v8 ∧ W.cell? ⟨b, 9, none⟩ = some v9 ∧ W.cell? ⟨b, 10, none⟩ = some v10 ∧ W.cell? ⟨b, 11, none⟩ = some v11 ∧ W.cell? ⟨b, 12, none⟩ = some v12 := ⟨h.cell 0, h.cell 1, h.cell 2, h.cell 3, h.cell 4, h.cell 5, h.cell 6, h.cell 7, h.cell 8, h.cell 9, h.cell 10, h.cell 11, h.cell 12⟩
end
theorem samePay_any (A B : Option Addr) (n ca cb : Nat) (f : Nat → Pay) (w : World) (hA : RowsAt w A n 6 (payr f)) (hB : RowsAt w B n 6 (payr f)) (hn : n ≤ 9223372036854775807) :
  Calls Tryz.prog 32 #[.slice A n ca, .slice B n cb] w fun e w' => e = .returned (.bool true) ∧ Ext w w' := by
 go_enter Tryz.func32, Tryz.ntmps32
 go_upto_region 4 with (fail)
 go_loopw [5] (fun i wr => ∃ k : Nat, k ≤ n ∧ i = .int .i64 k ∧ Ext w wr) (fun i _ => n - (intOf i).toNat)
 case atStart => exact ⟨0, Nat.zero_le _, rfl, Ext.refl _⟩
 case round =>
  obtain ⟨k, hk, rfl, hE⟩ := hrel
  obtain ⟨wo, rfl⟩ := zgE wr
  by_cases hlt : k < n
  ·obtain ⟨b, off, rfl, hb, hc⟩ := (hA.ext hE) (by omega)
   have c0 : wo.cell? ⟨b, off + k * 6, none⟩ = some (.int .i64 (f k).on.y) := by simpa [payr] using hc k 0 _ hlt rfl
   have c1 : wo.cell? ⟨b, off + k * 6 + 1, none⟩ = some (.int .i64 (f k).on.m) := by simpa [payr] using hc k 1 _ hlt rfl
   have c2 : wo.cell? ⟨b, off + k * 6 + 2, none⟩ = some (.bool (f k).on.s) := by simpa [payr] using hc k 2 _ hlt rfl
   have c3 : wo.cell? ⟨b, off + k * 6 + 3, none⟩ = some (.int .i64 (f k).on.d) := by simpa [payr] using hc k 3 _ hlt rfl
   have c4 : wo.cell? ⟨b, off + k * 6 + 4, none⟩ = some (.int .i64 (f k).n.n) := by simpa [payr] using hc k 4 _ hlt rfl
   have c5 : wo.cell? ⟨b, off + k * 6 + 5, none⟩ = some (.int .i64 (f k).n.d) := by simpa [payr] using hc k 5 _ hlt rfl
   clear hc
   obtain ⟨b2, off2, rfl, hb2, hc⟩ := (hB.ext hE) (by omega)
   have d0 : wo.cell? ⟨b2, off2 + k * 6, none⟩ = some (.int .i64 (f k).on.y) := by simpa [payr] using hc k 0 _ hlt rfl
   have d1 : wo.cell? ⟨b2, off2 + k * 6 + 1, none⟩ = some (.int .i64 (f k).on.m) := by simpa [payr] using hc k 1 _ hlt rfl
   have d2 : wo.cell? ⟨b2, off2 + k * 6 + 2, none⟩ = some (.bool (f k).on.s) := by simpa [payr] using hc k 2 _ hlt rfl
   have d3 : wo.cell? ⟨b2, off2 + k * 6 + 3, none⟩ = some (.int .i64 (f k).on.d) := by simpa [payr] using hc k 3 _ hlt rfl
   have d4 : wo.cell? ⟨b2, off2 + k * 6 + 4, none⟩ = some (.int .i64 (f k).n.n) := by simpa [payr] using hc k 4 _ hlt rfl
   have d5 : wo.cell? ⟨b2, off2 + k * 6 + 5, none⟩ = some (.int .i64 (f k).n.d) := by simpa [payr] using hc k 5 _ hlt rfl
   clear hc hA hB
   generalize (f k).on.y = y1 at *
   generalize (f k).on.m = y2 at *
   generalize (f k).on.s = y3 at *
   generalize (f k).on.d = y4 at *
   generalize (f k).n.n = y5 at *
   generalize (f k).n.d = y6 at *
   go_upto_region 6 with (fail)
   refine wp_region_xw wo mixed (by kernel_rfl) (by repeat (first | exact Ext.refl _ | (refine Ext.alloc ?_ _) | (refine Ext.trans ?_ (by assumption)))) ?_
   intro hne hrx hry
   try simp only []
   try simp only [List.append_eq, List.cons_append, List.nil_append]
   skip
   repeat (first
    | go_big_quiet_skip
    | (go_big_quiet_want; go_big_quiet_op; go_big_quiet_on))
   clear hne hry hrx
   refine wpQuiet_nil ?_
   intro w2 h2
   obtain ⟨hcw2, hfw2, hzw2⟩ := Ext.rules h2
   try simp only [World.size_alloc] at hzw2
   obtain ⟨hcbw2, hfbw2, hzbw2⟩ := Ext.rules (show Ext wo w2 from (by repeat (first | exact Ext.refl _ | (refine Ext.alloc ?_ _) | (refine Ext.trans ?_ (by assumption)))))
   clear hcw2 hfw2
   go_wp2
   exact ⟨⟨k + 1, by omega, by go_num, hE.trans h2⟩, by simp [intOf]; omega⟩
  ·obtain rfl : k = n := by omega
   go_wp2
   go_ret
   exact ⟨rfl, hE⟩
set_option maxHeartbeats 20000000 in
theorem ledgerLoanOwed_walk (A A' : Option Addr) (ca cb : Nat) (c : Cal) (l : Ln) (B : Option Addr) (n cap : Nat) (f : Nat → Pay) (on : Dt) (w : World) (hC : CalAt w A ca A' cb c) (hnA : A = none → c.nk = 0 ∧ ca = 0) (hnA' : A' = none → c.ny = 0 ∧ cb = 0) (hk : c.nk * 16 ≤ 140737488351232) (hy : c.ny * 40 ≤ 140737488351232) (hB : RowsAt w B n 6 (payr f)) (hn : n ≤ 9223372036854775807) (hsz : n * 48 ≤ 140737488351232) (hp : l.p.In) (hr : l.r.In) (hin : ∀ i, i < n → (f i).n.In) (hnil : B = none → n = 0 ∧ cap = 0) (hZ : Zro w) :
  Calls Tryz.prog 6 #[.agg #[.slice A c.nk ca, .slice A' c.ny cb], .agg #[.int .i64 l.p.n, .int .i64 l.p.d, .int .i64 l.r.n, .int .i64 l.r.d, .int .i64 l.f.y, .int .i64 l.f.m, .bool l.f.s, .int .i64 l.f.d, .slice B n cap, .int .i64 on.y, .int .i64 on.m, .bool on.s, .int .i64 on.d]] w fun e w' => e = .returned (.bool true) ∧ Ext w w' := by
 have NCP := fun v (h : CalAt v A ca A' cb c) => copy_any A A' ca cb c v h hnA hnA' hk hy
 have N1 := fun v G da G' db F cp h1 h2 z => owedF_any G G' da db c F n cp l f hp hr hin v h1 h2 hn z on
 have N2 := fun v h1 h2 => owedR_any A A' ca cb c B n cap l f hp hr hin v h1 h2 hn on
 have N3 := fun v G da G' db F cp h1 h2 => checkLoanF_any G G' da db c F n cp l f hp hr hin v h1 h2 hn
 have N4 := fun v h1 h2 => checkLoanR_any A A' ca cb c B n cap l f hp hr hin v h1 h2 hn
 have N5 := fun v G da G' db F cp h1 h2 z => settle_any G G' da db c F n cp l f hp hr hin v h1 h2 hn z on
 have N6 := fun v h1 h2 => settleR_any A A' ca cb c B n cap l f hp hr hin v h1 h2 hn on
 have NSP := fun v F cp h1 h2 => samePay_any F B n cp cap f v h1 h2 hn
 have NSC := fun v G da G' db h1 h2 => sameCal_any G G' A A' da db ca cb c v h1 h2
 generalize c.owedV l f n on = V at *
 generalize c.settleV l f n on = S at *
 generalize c.loanE l f n = le at *
 obtain ⟨⟨⟨an, ad⟩, ⟨bn, bd⟩, ⟨sn, sd⟩⟩, ve⟩ := V
 obtain ⟨⟨Sn, Sd⟩, Se⟩ := S
 simp only at N1 N2 N3 N4 N5 N6
 obtain ⟨i0, hi, hz0, hz1, hz2⟩ := info_parts info_payQ
 have hlen := flatL_len (f := payr f) (sz := 6) (fun _ => rfl) n
 have hone : ∀ u ∈ flatL (payr f) n, u.oneCell' = true := flat_one (f := payr f) (n := n) (fun i u hu => by simp [payr] at hu; rcases hu with rfl | rfl | rfl | rfl | rfl | rfl <;> simp [Value.oneCell'])
 go_enter Tryz.func6, Tryz.ntmps6
 go_upto_region 1 with (fail)
 obtain ⟨v, hv⟩ := zgE ((w.alloc (.cells #[.slice A c.nk ca, .slice A' c.ny cb] 34)).alloc (.cells #[.int .i64 l.p.n, .int .i64 l.p.d, .int .i64 l.r.n, .int .i64 l.r.d, .int .i64 l.f.y, .int .i64 l.f.m, .bool l.f.s, .int .i64 l.f.d, .slice B n cap, .int .i64 on.y, .int .i64 on.m, .bool on.s, .int .i64 on.d] 57))
 rw [← hv]
 have E : Ext w v := by rw [hv]; exact ((Ext.refl _).alloc _).alloc _
 have B1 : Held v w.heap.size 34 #[.slice A c.nk ca, .slice A' c.ny cb] := by rw [hv]; exact (Held.new _ _ _).alloc _
 have B2 : Held v (w.heap.size + 1) 57 #[.int .i64 l.p.n, .int .i64 l.p.d, .int .i64 l.r.n, .int .i64 l.r.d, .int .i64 l.f.y, .int .i64 l.f.m, .bool l.f.s, .int .i64 l.f.d, .slice B n cap, .int .i64 on.y, .int .i64 on.m, .bool on.s, .int .i64 on.d] := by rw [hv]; exact Held.at _ _ _ _ (by simp)
 clear hv
 obtain ⟨b2, hb2⟩ := zgE (w.heap.size + 1)
 rw [← hb2] at B2 ⊢
 obtain ⟨b1, hb1⟩ := zgE (w.heap.size)
 rw [← hb1] at B1 ⊢
 have hbr : w.heap.size ≤ b2 := by omega
 have hbr1 : w.heap.size ≤ b1 := by omega
 have hn21 : b2 ≠ b1 := by omega
 clear hb1 hb2
 have Z := hZ.ext E
 have C := hC.ext E
 have RB := hB.ext E
 clear hC hB hZ hnA hnA' hk hy
 obtain ⟨k0, k1⟩ := B1.c2
 have kl := B1.lt
 obtain ⟨p0, p1, p2, p3, p4, p5, p6, p7, p8, p9, p10, p11, p12⟩ := held_c13 B2
 have pl := B2.lt
 go_upto_region 2 with (go_at_call 25; (with_reducible refine Calls.mono (NCP _ C) ?_); rintro e w1 ⟨G, G', da, db, rfl, hx, D⟩; replace E := E.trans hx; replace Z := Z.ext hx; replace C := C.ext hx; replace RB := RB.ext hx; replace B1 := B1.ext hx; replace B2 := B2.ext hx; clear hx; clear k0 k1 kl p0 p1 p2 p3 p4 p5 p6 p7 p8 p9 p10 p11 p12 pl; obtain ⟨k0, k1⟩ := B1.c2; have kl := B1.lt; obtain ⟨p0, p1, p2, p3, p4, p5, p6, p7, p8, p9, p10, p11, p12⟩ := held_c13 B2; have pl := B2.lt)
 obtain ⟨v2, hv⟩ := zgE (w1.alloc (.cells #[.slice G c.nk da, .slice G' c.ny db] 34))
 rw [← hv]
 have hx : Ext w1 v2 := by rw [hv]; exact (Ext.refl _).alloc _
 have BO : Held v2 w1.heap.size 34 #[.slice G c.nk da, .slice G' c.ny db] := by rw [hv]; exact Held.new _ _ _
 clear hv
 generalize w1.heap.size = bb1 at *
 clear k0 k1 kl p0 p1 p2 p3 p4 p5 p6 p7 p8 p9 p10 p11 p12 pl
 replace E := E.trans hx
 replace Z := Z.ext hx
 replace C := C.ext hx
 replace RB := RB.ext hx
 replace D := D.ext hx
 replace B1 := B1.ext hx
 replace B2 := B2.ext hx
 clear hx
 obtain ⟨k0, k1⟩ := B1.c2
 have kl := B1.lt
 obtain ⟨p0, p1, p2, p3, p4, p5, p6, p7, p8, p9, p10, p11, p12⟩ := held_c13 B2
 have pl := B2.lt
 obtain ⟨o0, o1⟩ := BO.c2
 have ol := BO.lt
 go_upto_region 4 with (at_builtin; refine wpList_append_copy rfl _ _ 55 rfl v2.heap.size 129 i0 (.agg #[.int .i64 0, .int .i64 0, .bool false, .int .i64 0, .int .i64 0, .int .i64 0]) 6 48 Tryz.underlying55 hi hz0 hz1 hz2 rfl (by decide) rfl B n cap (flatL (payr f) n) rfl hnil hlen (flat_news (f := payr f) (sz := 6) (fun _ => rfl) (by decide) RB) hone (by unfold maxLen; omega) (by omega) (Nat.le_refl _) ?_; intro p w3 hP hgrow)
 have hx : Ext v2 w3 := (Ext.refl _).grown hgrow (fun q hq => by cases hq)
 clear hgrow
 obtain ⟨F, cp, rfl, RP, _⟩ := flat_rows (f := payr f) (sz := 6) (fun _ => rfl) hP
 clear hP hlen hone hi hz0 hz1 hz2
 replace E := E.trans hx
 replace Z := Z.ext hx
 replace C := C.ext hx
 replace RB := RB.ext hx
 replace D := D.ext hx
 replace B1 := B1.ext hx
 replace B2 := B2.ext hx
 replace BO := BO.ext hx
 clear hx
 clear k0 k1 kl p0 p1 p2 p3 p4 p5 p6 p7 p8 p9 p10 p11 p12 pl o0 o1 ol
 obtain ⟨k0, k1⟩ := B1.c2
 have kl := B1.lt
 obtain ⟨p0, p1, p2, p3, p4, p5, p6, p7, p8, p9, p10, p11, p12⟩ := held_c13 B2
 have pl := B2.lt
 obtain ⟨o0, o1⟩ := BO.c2
 have ol := BO.lt
 go_upto_region 5 with (go_at_call 26; (with_reducible refine Calls.mono (N1 _ G da G' db F cp D RP Z) ?_); rintro e w4 ⟨rfl, hx⟩; replace E := E.trans hx; replace Z := Z.ext hx; replace C := C.ext hx; replace RB := RB.ext hx; replace D := D.ext hx; replace RP := RP.ext hx; replace B1 := B1.ext hx; replace B2 := B2.ext hx; replace BO := BO.ext hx; clear hx; clear k0 k1 kl p0 p1 p2 p3 p4 p5 p6 p7 p8 p9 p10 p11 p12 pl o0 o1 ol; obtain ⟨k0, k1⟩ := B1.c2; have kl := B1.lt; obtain ⟨p0, p1, p2, p3, p4, p5, p6, p7, p8, p9, p10, p11, p12⟩ := held_c13 B2; have pl := B2.lt; obtain ⟨o0, o1⟩ := BO.c2; have ol := BO.lt)
 obtain ⟨vb2, hv⟩ := zgE (w4.alloc (.cells #[.int .i64 an, .int .i64 ad, .int .i64 bn, .int .i64 bd, .int .i64 sn, .int .i64 sd] 60))
 rw [← hv]
 have hx : Ext w4 vb2 := by rw [hv]; exact (Ext.refl _).alloc _
 have BA : Held vb2 w4.heap.size 60 #[.int .i64 an, .int .i64 ad, .int .i64 bn, .int .i64 bd, .int .i64 sn, .int .i64 sd] := by rw [hv]; exact Held.new _ _ _
 clear hv
 generalize w4.heap.size = bb2 at *
 clear k0 k1 kl p0 p1 p2 p3 p4 p5 p6 p7 p8 p9 p10 p11 p12 pl o0 o1 ol
 replace E := E.trans hx
 replace Z := Z.ext hx
 replace C := C.ext hx
 replace RB := RB.ext hx
 replace D := D.ext hx
 replace RP := RP.ext hx
 replace B1 := B1.ext hx
 replace B2 := B2.ext hx
 replace BO := BO.ext hx
 clear hx
 obtain ⟨k0, k1⟩ := B1.c2
 have kl := B1.lt
 obtain ⟨p0, p1, p2, p3, p4, p5, p6, p7, p8, p9, p10, p11, p12⟩ := held_c13 B2
 have pl := B2.lt
 obtain ⟨o0, o1⟩ := BO.c2
 have ol := BO.lt
 obtain ⟨x0, x1, x2, x3, x4, x5⟩ := BA.c6
 have xl := BA.lt
 go_upto_region 6 with (go_at_call 27; (with_reducible refine Calls.mono (N2 _ C RB) ?_); rintro e w5 ⟨rfl, hx⟩; replace E := E.trans hx; replace Z := Z.ext hx; replace C := C.ext hx; replace RB := RB.ext hx; replace D := D.ext hx; replace RP := RP.ext hx; replace B1 := B1.ext hx; replace B2 := B2.ext hx; replace BO := BO.ext hx; replace BA := BA.ext hx; clear hx; clear k0 k1 kl p0 p1 p2 p3 p4 p5 p6 p7 p8 p9 p10 p11 p12 pl o0 o1 ol x0 x1 x2 x3 x4 x5 xl; obtain ⟨k0, k1⟩ := B1.c2; have kl := B1.lt; obtain ⟨p0, p1, p2, p3, p4, p5, p6, p7, p8, p9, p10, p11, p12⟩ := held_c13 B2; have pl := B2.lt; obtain ⟨o0, o1⟩ := BO.c2; have ol := BO.lt; obtain ⟨x0, x1, x2, x3, x4, x5⟩ := BA.c6; have xl := BA.lt)
 obtain ⟨v6, hv⟩ := zgE (w5.alloc (.cells #[.int .i64 an, .int .i64 ad, .int .i64 bn, .int .i64 bd, .int .i64 sn, .int .i64 sd] 60))
 rw [← hv]
 have hx : Ext w5 v6 := by rw [hv]; exact (Ext.refl _).alloc _
 have BB : Held v6 w5.heap.size 60 #[.int .i64 an, .int .i64 ad, .int .i64 bn, .int .i64 bd, .int .i64 sn, .int .i64 sd] := by rw [hv]; exact Held.new _ _ _
 clear hv
 generalize w5.heap.size = bb3 at *
 clear k0 k1 kl p0 p1 p2 p3 p4 p5 p6 p7 p8 p9 p10 p11 p12 pl o0 o1 ol x0 x1 x2 x3 x4 x5 xl
 replace E := E.trans hx
 replace Z := Z.ext hx
 replace C := C.ext hx
 replace RB := RB.ext hx
 replace D := D.ext hx
 replace RP := RP.ext hx
 replace B1 := B1.ext hx
 replace B2 := B2.ext hx
 replace BO := BO.ext hx
 replace BA := BA.ext hx
 clear hx
 obtain ⟨k0, k1⟩ := B1.c2
 have kl := B1.lt
 obtain ⟨p0, p1, p2, p3, p4, p5, p6, p7, p8, p9, p10, p11, p12⟩ := held_c13 B2
 have pl := B2.lt
 obtain ⟨o0, o1⟩ := BO.c2
 have ol := BO.lt
 obtain ⟨x0, x1, x2, x3, x4, x5⟩ := BA.c6
 have xl := BA.lt
 obtain ⟨y0, y1, y2, y3, y4, y5⟩ := BB.c6
 have yl := BB.lt
 refine wp_region_xw v6 mixed (by kernel_rfl) (by repeat (first | exact Ext.refl _ | (refine Ext.alloc ?_ _) | (refine Ext.trans ?_ (by assumption)))) ?_
 intro hne hrx hry
 try simp only []
 try simp only [List.append_eq, List.cons_append, List.nil_append]
 skip
 repeat (first
  | go_big_quiet_skip
  | (go_big_quiet_want; go_big_quiet_op; go_big_quiet_on)
  | (go_big_quiet_want; go_big_quiet_op; apply Exists.intro; refine ⟨fun u => ?_, ?_⟩
     ·first
       | (go_at_call 28; (with_reducible refine Calls.mono (N3 _ G da G' db F cp (D.ext u.e) (RP.ext u.e)) ?_); rintro e w' ⟨rfl, hb⟩; exact ⟨rfl, u.back hb⟩)
       | (go_at_call 29; (with_reducible refine Calls.mono (N4 _ (C.ext u.e) (RB.ext u.e)) ?_); rintro e w' ⟨rfl, hb⟩; exact ⟨rfl, u.back hb⟩)
     go_big_quiet_on))
 clear hne hry hrx
 refine wpQuiet_nil ?_
 intro w7 hx
 obtain ⟨hcw7, hfw7, hzw7⟩ := Ext.rules hx
 try simp only [World.size_alloc] at hzw7
 obtain ⟨hcbw7, hfbw7, hzbw7⟩ := Ext.rules (show Ext v6 w7 from (by repeat (first | exact Ext.refl _ | (refine Ext.alloc ?_ _) | (refine Ext.trans ?_ (by assumption)))))
 clear hcw7 hfw7
 replace E := E.trans hx
 replace Z := Z.ext hx
 replace C := C.ext hx
 replace RB := RB.ext hx
 replace D := D.ext hx
 replace RP := RP.ext hx
 replace B1 := B1.ext hx
 replace B2 := B2.ext hx
 replace BO := BO.ext hx
 replace BA := BA.ext hx
 replace BB := BB.ext hx
 clear hx
 clear k0 k1 kl p0 p1 p2 p3 p4 p5 p6 p7 p8 p9 p10 p11 p12 pl o0 o1 ol x0 x1 x2 x3 x4 x5 xl y0 y1 y2 y3 y4 y5 yl
 obtain ⟨k0, k1⟩ := B1.c2
 have kl := B1.lt
 obtain ⟨p0, p1, p2, p3, p4, p5, p6, p7, p8, p9, p10, p11, p12⟩ := held_c13 B2
 have pl := B2.lt
 obtain ⟨o0, o1⟩ := BO.c2
 have ol := BO.lt
 obtain ⟨x0, x1, x2, x3, x4, x5⟩ := BA.c6
 have xl := BA.lt
 obtain ⟨y0, y1, y2, y3, y4, y5⟩ := BB.c6
 have yl := BB.lt
 go_upto_region 8 with (go_at_call 30; (with_reducible refine Calls.mono (N5 _ G da G' db F cp D RP Z) ?_); rintro e w8 ⟨rfl, hx⟩; replace E := E.trans hx; replace Z := Z.ext hx; replace C := C.ext hx; replace RB := RB.ext hx; replace D := D.ext hx; replace RP := RP.ext hx; replace B1 := B1.ext hx; replace B2 := B2.ext hx; replace BO := BO.ext hx; replace BA := BA.ext hx; replace BB := BB.ext hx; clear hx; clear k0 k1 kl p0 p1 p2 p3 p4 p5 p6 p7 p8 p9 p10 p11 p12 pl o0 o1 ol x0 x1 x2 x3 x4 x5 xl y0 y1 y2 y3 y4 y5 yl; obtain ⟨k0, k1⟩ := B1.c2; have kl := B1.lt; obtain ⟨p0, p1, p2, p3, p4, p5, p6, p7, p8, p9, p10, p11, p12⟩ := held_c13 B2; have pl := B2.lt; obtain ⟨o0, o1⟩ := BO.c2; have ol := BO.lt; obtain ⟨x0, x1, x2, x3, x4, x5⟩ := BA.c6; have xl := BA.lt; obtain ⟨y0, y1, y2, y3, y4, y5⟩ := BB.c6; have yl := BB.lt)
 obtain ⟨vb4, hv⟩ := zgE (w8.alloc (.cells #[.int .i64 Sn, .int .i64 Sd] 23))
 rw [← hv]
 have hx : Ext w8 vb4 := by rw [hv]; exact (Ext.refl _).alloc _
 have BS : Held vb4 w8.heap.size 23 #[.int .i64 Sn, .int .i64 Sd] := by rw [hv]; exact Held.new _ _ _
 clear hv
 generalize w8.heap.size = bb4 at *
 clear k0 k1 kl p0 p1 p2 p3 p4 p5 p6 p7 p8 p9 p10 p11 p12 pl o0 o1 ol x0 x1 x2 x3 x4 x5 xl y0 y1 y2 y3 y4 y5 yl
 replace E := E.trans hx
 replace Z := Z.ext hx
 replace C := C.ext hx
 replace RB := RB.ext hx
 replace D := D.ext hx
 replace RP := RP.ext hx
 replace B1 := B1.ext hx
 replace B2 := B2.ext hx
 replace BO := BO.ext hx
 replace BA := BA.ext hx
 replace BB := BB.ext hx
 clear hx
 obtain ⟨k0, k1⟩ := B1.c2
 have kl := B1.lt
 obtain ⟨p0, p1, p2, p3, p4, p5, p6, p7, p8, p9, p10, p11, p12⟩ := held_c13 B2
 have pl := B2.lt
 obtain ⟨o0, o1⟩ := BO.c2
 have ol := BO.lt
 obtain ⟨x0, x1, x2, x3, x4, x5⟩ := BA.c6
 have xl := BA.lt
 obtain ⟨y0, y1, y2, y3, y4, y5⟩ := BB.c6
 have yl := BB.lt
 obtain ⟨m0, m1⟩ := BS.c2
 have ml := BS.lt
 go_upto_region 9 with (go_at_call 31; (with_reducible refine Calls.mono (N6 _ C RB) ?_); rintro e w9 ⟨rfl, hx⟩; replace E := E.trans hx; replace Z := Z.ext hx; replace C := C.ext hx; replace RB := RB.ext hx; replace D := D.ext hx; replace RP := RP.ext hx; replace B1 := B1.ext hx; replace B2 := B2.ext hx; replace BO := BO.ext hx; replace BA := BA.ext hx; replace BB := BB.ext hx; replace BS := BS.ext hx; clear hx; clear k0 k1 kl p0 p1 p2 p3 p4 p5 p6 p7 p8 p9 p10 p11 p12 pl o0 o1 ol x0 x1 x2 x3 x4 x5 xl y0 y1 y2 y3 y4 y5 yl m0 m1 ml; obtain ⟨k0, k1⟩ := B1.c2; have kl := B1.lt; obtain ⟨p0, p1, p2, p3, p4, p5, p6, p7, p8, p9, p10, p11, p12⟩ := held_c13 B2; have pl := B2.lt; obtain ⟨o0, o1⟩ := BO.c2; have ol := BO.lt; obtain ⟨x0, x1, x2, x3, x4, x5⟩ := BA.c6; have xl := BA.lt; obtain ⟨y0, y1, y2, y3, y4, y5⟩ := BB.c6; have yl := BB.lt; obtain ⟨m0, m1⟩ := BS.c2; have ml := BS.lt)
 obtain ⟨vb5, hv⟩ := zgE (w9.alloc (.cells #[.int .i64 Sn, .int .i64 Sd] 23))
 rw [← hv]
 have hx : Ext w9 vb5 := by rw [hv]; exact (Ext.refl _).alloc _
 have BT : Held vb5 w9.heap.size 23 #[.int .i64 Sn, .int .i64 Sd] := by rw [hv]; exact Held.new _ _ _
 clear hv
 generalize w9.heap.size = bb5 at *
 clear k0 k1 kl p0 p1 p2 p3 p4 p5 p6 p7 p8 p9 p10 p11 p12 pl o0 o1 ol x0 x1 x2 x3 x4 x5 xl y0 y1 y2 y3 y4 y5 yl m0 m1 ml
 replace E := E.trans hx
 replace Z := Z.ext hx
 replace C := C.ext hx
 replace RB := RB.ext hx
 replace D := D.ext hx
 replace RP := RP.ext hx
 replace B1 := B1.ext hx
 replace B2 := B2.ext hx
 replace BO := BO.ext hx
 replace BA := BA.ext hx
 replace BB := BB.ext hx
 replace BS := BS.ext hx
 clear hx
 obtain ⟨k0, k1⟩ := B1.c2
 have kl := B1.lt
 obtain ⟨p0, p1, p2, p3, p4, p5, p6, p7, p8, p9, p10, p11, p12⟩ := held_c13 B2
 have pl := B2.lt
 obtain ⟨o0, o1⟩ := BO.c2
 have ol := BO.lt
 obtain ⟨x0, x1, x2, x3, x4, x5⟩ := BA.c6
 have xl := BA.lt
 obtain ⟨y0, y1, y2, y3, y4, y5⟩ := BB.c6
 have yl := BB.lt
 obtain ⟨m0, m1⟩ := BS.c2
 have ml := BS.lt
 obtain ⟨n0, n1⟩ := BT.c2
 have nl := BT.lt
 go_wp2_with (first | (go_at_call 32; (with_reducible refine Calls.mono (NSP _ F cp RP RB) ?_); rintro e w10 ⟨rfl, hx⟩; replace E := E.trans hx; replace Z := Z.ext hx; replace C := C.ext hx; replace RB := RB.ext hx; replace D := D.ext hx; replace RP := RP.ext hx; replace B1 := B1.ext hx; replace B2 := B2.ext hx; replace BO := BO.ext hx; replace BA := BA.ext hx; replace BB := BB.ext hx; replace BS := BS.ext hx; replace BT := BT.ext hx; clear hx; clear k0 k1 kl p0 p1 p2 p3 p4 p5 p6 p7 p8 p9 p10 p11 p12 pl o0 o1 ol x0 x1 x2 x3 x4 x5 xl y0 y1 y2 y3 y4 y5 yl m0 m1 ml n0 n1 nl; obtain ⟨k0, k1⟩ := B1.c2; have kl := B1.lt; obtain ⟨p0, p1, p2, p3, p4, p5, p6, p7, p8, p9, p10, p11, p12⟩ := held_c13 B2; have pl := B2.lt; obtain ⟨o0, o1⟩ := BO.c2; have ol := BO.lt; obtain ⟨x0, x1, x2, x3, x4, x5⟩ := BA.c6; have xl := BA.lt; obtain ⟨y0, y1, y2, y3, y4, y5⟩ := BB.c6; have yl := BB.lt; obtain ⟨m0, m1⟩ := BS.c2; have ml := BS.lt; obtain ⟨n0, n1⟩ := BT.c2; have nl := BT.lt) | (go_at_call 33; (with_reducible refine Calls.mono (NSC _ G da G' db D C) ?_); rintro e w11 ⟨rfl, hx⟩; replace E := E.trans hx; replace Z := Z.ext hx; replace C := C.ext hx; replace RB := RB.ext hx; replace D := D.ext hx; replace RP := RP.ext hx; replace B1 := B1.ext hx; replace B2 := B2.ext hx; replace BO := BO.ext hx; replace BA := BA.ext hx; replace BB := BB.ext hx; replace BS := BS.ext hx; replace BT := BT.ext hx; clear hx; clear k0 k1 kl p0 p1 p2 p3 p4 p5 p6 p7 p8 p9 p10 p11 p12 pl o0 o1 ol x0 x1 x2 x3 x4 x5 xl y0 y1 y2 y3 y4 y5 yl m0 m1 ml n0 n1 nl; obtain ⟨k0, k1⟩ := B1.c2; have kl := B1.lt; obtain ⟨p0, p1, p2, p3, p4, p5, p6, p7, p8, p9, p10, p11, p12⟩ := held_c13 B2; have pl := B2.lt; obtain ⟨o0, o1⟩ := BO.c2; have ol := BO.lt; obtain ⟨x0, x1, x2, x3, x4, x5⟩ := BA.c6; have xl := BA.lt; obtain ⟨y0, y1, y2, y3, y4, y5⟩ := BB.c6; have yl := BB.lt; obtain ⟨m0, m1⟩ := BS.c2; have ml := BS.lt; obtain ⟨n0, n1⟩ := BT.c2; have nl := BT.lt) | (go_at_call 15; (with_reducible refine Calls.mono (works8_any _ Z) ?_); rintro e wk ⟨rfl, hk⟩))
 go_ret
 exact ⟨rfl, E.trans hk⟩
end Go.Proofs.YthmjpbafbohelaaGreatDoor