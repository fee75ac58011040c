/- Walks of the program's functions and plain facts, packed; proved: the lemmas below; no conditions but those that each states. -/
import Derived.Test.YtneiofnlmblglaaGreatDoorN12
import Derived.Test.YtneiofnlmblglaaGreatDoorN5
import Derived.Test.YtneiofnlmblglaaGreatDoorN4
import Derived.Test.YtneiofnlmblglaaGreatDoorN3
import Derived.Test.YtneiofnlmblglaaGreatDoorN8
import Derived.Laws.StructEq
import Derived.Test.YtneiofnlmblglaaGreatDoorN10
set_option maxRecDepth 100000
set_option maxHeartbeats 4000000
namespace Go.Proofs.YtneiofnlmblglaaGreatDoor
open Go Go.RowKit Go.Shelf
attribute [local go_sem] gv_yes
theorem name_size {s : ByteArray} (h : isName s = true) : s.size ≠ 0 := by
 unfold isName at h
 simp only [Bool.and_eq_true, decide_eq_true_eq] at h
 omega
theorem lots_sorted {f : Nat → Lt} {n : Nat} (h : lotsE f n = 0) : sorted (lotsL f n) ∧ ∀ x ∈ lotsL f n, x.g.size ≠ 0 := by
 have hok : ∀ i, i < n → lotOk f i = true := fun i hi => by
  unfold lotsE at h
  by_cases h64 : 64 < n
  ·rw [if_pos h64] at h; exact absurd h (by decide)
  ·rw [if_neg h64] at h
   by_cases ho : lotsOk f n = true
   ·exact List.all_eq_true.1 ho i (by simpa using hi)
   ·rw [if_neg ho] at h; exact absurd h (by decide)
 have hst : ∀ i, i + 1 < n → sLess (f i).g (f (i + 1)).g = true := fun i hi => by
  have := hok (i + 1) hi
  unfold lotOk at this
  simp only [Bool.and_eq_true, Bool.or_eq_true, decide_eq_true_eq] at this
  rcases this.1.2 with h0 | h0
  ·omega
  ·exact h0
 have hlt : ∀ j i, i < j → j < n → sLess (f i).g (f j).g = true := by
  intro j
  induction j with
  | zero => intro i hi _; omega
  | succ j ih =>
   intro i hi hj
   by_cases e : i = j
   ·rw [e]; exact hst j hj
   ·exact sLess_trans (ih i (by omega) (by omega)) (hst j hj)
 refine ⟨List.pairwise_iff_getElem.2 fun i j hi hj hij => ?_, fun x hx => ?_⟩
 ·simp only [lotsL, List.length_map, List.length_range] at hi hj
  simp only [lotsL, List.getElem_map, List.getElem_range]
  exact hlt j i hij hj
 ·simp only [lotsL, List.mem_map, List.mem_range] at hx
  obtain ⟨i, hi, rfl⟩ := hx
  have := hok i hi
  unfold lotOk at this
  simp only [Bool.and_eq_true] at this
  exact name_size this.1.1
theorem amt_bd {l : List Lt} (h : ∀ x ∈ l, LtBd x) (s : ByteArray) : -1099511627776 ≤ amtL l s ∧ amtL l s ≤ 1099511627776 := by
 induction l with
 | nil => show -1099511627776 ≤ (0 : Int) ∧ (0 : Int) ≤ 1099511627776; decide
 | cons x l ih =>
  rw [amtL]
  split
  ·exact h x (by simp)
  ·exact ih fun z hz => h z (by simp [hz])
theorem lots_mem {f : Nat → Lt} {n : Nat} (h : ∀ i, i < n → LtBd (f i)) : ∀ x ∈ lotsL f n, LtBd x := fun x hx => by
 simp only [lotsL, List.mem_map, List.mem_range] at hx
 obtain ⟨i, hi, rfl⟩ := hx
 exact h i hi
theorem lc_snoc (l : List Lt) (s : ByteArray) (z : Int) : l.flatMap lcells ++ [.string s, .int .i64 z] = (l ++ [Lt.mk s z]).flatMap lcells := by rw [List.flatMap_append]; rfl
theorem cells_lotQ (s : ByteArray) (z : Int) : ∀ u ∈ [Value.string s, .int .i64 z], u.oneCell' = true := by simp [Value.oneCell']
theorem combinedR_any (T : Option Addr) (n cap : Nat) (f : Nat → Lt) (S : Option Addr) (m cm : Nat) (g : Nat → Lt) (sg : Int) (hsg : sg = 1 ∨ sg = -1) (w : World) (hT : RowsAt w T n 2 (lotr f)) (hcap : n ≤ cap) (hn : n ≤ 9223372036854775807) (hS : RowsAt w S m 2 (lotr g)) (hcm : m ≤ cm) (hm : m ≤ 9223372036854775807) :
  Calls Tryz.prog 89 #[.slice T n cap, .slice S m cm, .int .i64 sg] w fun e w' => ∃ F k c, e = .returned (.tuple #[.slice F k c, .int .i64 (combE sg f n g m)]) ∧ Ext w w' ∧ w'.ownsRow w.heap.size 68 2 (.slice F k c) k ((combL sg f n g m).flatMap lcells) := by
 obtain ⟨i0, hi, hz0, hz1, hz2⟩ := info_parts info_lotQ
 have N2 := checkTwoR_any T n cap f S m cm g w hT hcap hn hS hcm hm
 obtain ⟨q, hq⟩ := zgE (twoE f n g m)
 rw [← hq] at N2
 replace hq := Lib.hid hq
 go_enter Tryz.func89, Tryz.ntmps89
 by_cases e0 : q = 0
 rotate_left
 ·have g0 : (q == 0) = false := beq_eq_false_iff_ne.2 e0
  have g0n : (q != 0) = true := by rw [bne, g0]; rfl
  have hE2 : Hid (combE sg f n g m = q) := by unfold Hid combE; rw [if_pos (by rw [← hq.out]; exact e0), hq.out]
  have hL2 := Lib.hid (comb_err hE2.out e0)
  clear e0 hq
  go_wp2_with (go_at_call 122; (with_reducible refine Calls.mono (N2) ?_); rintro e w1 ⟨rfl, h1⟩)
  go_ret2
  exact ⟨none, 0, 0, by rw [hE2.out]; rfl, h1, by rw [hL2.out]; exact World.ownsRow_nil _ _ _ _⟩
 subst e0
 obtain ⟨o1, o2⟩ := two_ok hq.out.symm
 obtain ⟨n64, bf⟩ := lots_bd o1
 obtain ⟨m64, bg⟩ := lots_bd o2
 obtain ⟨s1, z1⟩ := lots_sorted o1
 obtain ⟨s2, _⟩ := lots_sorted o2
 have hE2 : Hid (combE sg f n g m = if allM sg (mergeL f n g m) then (if 64 < (outM sg (mergeL f n g m)).length then 3 else 0) else 6) := by unfold Hid combE; rw [if_neg (by rw [← hq.out]; simp)]
 have hL3 : Hid (combE sg f n g m = 0 → combL sg f n g m = outM sg (mergeL f n g m)) := fun h => by unfold combL; rw [if_pos h]
 have hV : Hid (sumG sg (lotsL f n) (lotsL g m) (goodsM (n + m) (lotsL f n) (lotsL g m)) [] = if allM sg (mergeL f n g m) then (outM sg (mergeL f n g m), true) else ([], false)) := by
  unfold Hid
  rw [goods_pairs _ _ _ z1, sumG_merge s1 s2 z1 _ _ (pairs_in _ _ _ s1 s2)]
  rfl
 have A1 := fun s => amt_bd (lots_mem bf) s
 have A2 := fun s => amt_bd (lots_mem bg) s
 have NG := fun w hT hS => goodsR_any T n cap f S m cm g w hT n64 hS m64
 have NA := fun s w h => amountR_any T n cap f s w h hn
 have NB := fun s w h => amountR_any S m cm g s w h hm
 have hGl := goods_len (n + m) (lotsL f n) (lotsL g m)
 clear o1 o2 hq bf bg s1 s2 z1
 generalize goodsM (n + m) (lotsL f n) (lotsL g m) = G at *
 generalize mergeL f n g m = M at *
 generalize lotsL f n = la at *
 generalize lotsL g m = lb at *
 obtain ⟨V, hV0⟩ := zgE (sumG sg la lb G [])
 rw [← hV0] at hV
 have hV1 : Hid (V = sumG sg la lb (G.drop 0) []) := hV0
 clear hV0
 go_upto_region 6 with (first | (go_at_call 122; (with_reducible refine Calls.mono (N2) ?_); rintro e w1 ⟨rfl, h1⟩) | (go_at_call 123; (with_reducible refine Calls.mono (NG _ (hT.ext h1) (hS.ext h1)) ?_); rintro e w2 ⟨FG, cg, rfl, h2, hown⟩))
 obtain ⟨F', c', hf, RG⟩ := strL_rows rfl hown
 obtain ⟨rfl, rfl⟩ : FG = F' ∧ cg = c' := by simpa using hf
 have E2 := h1.trans h2
 have hb0 := E2.size
 have T2 := hT.ext E2
 have S2 := hS.ext E2
 clear hf hown NG N2 h1 h2 hT hS
 go_upto_region 7 with (fail)
 go_loopw [9, 11] (fun ov iv wr => ∃ k : Nat, k ≤ G.length ∧ iv = .int .i64 k ∧ ∃ o : List Lt, Ext w2 wr ∧ wr.ownsRow w2.heap.size 68 2 ov o.length (o.flatMap lcells) ∧ o.length ≤ k ∧ Hid (V = sumG sg la lb (G.drop k) o)) (fun _ iv _ => G.length - (intOf iv).toNat)
 case atStart => exact ⟨0, Nat.zero_le _, rfl, [], Ext.refl _, World.ownsRow_nil _ _ _ _, Nat.le_refl _, hV1⟩
 case round =>
  clear hV1
  obtain ⟨k, hk, rfl, o, hE, hO, hol, hV2⟩ := hrel
  obtain ⟨wo, rfl⟩ := zgE wr
  by_cases hlt : k < G.length
  ·obtain ⟨b, off, rfl, hb, hc⟩ := (RG.ext hE) (by omega)
   have c0 : wo.cell? ⟨b, off + k, none⟩ = some (.string (G.getD k ⟨#[]⟩)) := by simpa [strAt] using hc k 0 _ hlt rfl
   have hd : G.drop k = G.getD k ⟨#[]⟩ :: G.drop (k + 1) := by
    rw [List.drop_eq_getElem_cons hlt]
    simp [List.getD_eq_getElem?_getD, hlt]
   have hV3 : Hid (V = sumG sg la lb (G.getD k ⟨#[]⟩ :: G.drop (k + 1)) o) := by unfold Hid; rw [← hd]; exact hV2.out
   clear hc hd hV2 RG
   generalize G.getD k ⟨#[]⟩ = s at *
   have a1 := A1 s
   have a2 := A2 s
   have NAs := fun w h => NA s w h
   have NBs := fun w h => NB s w h
   have hV4 : Hid (V = if 1099511627776 < amtL la s + sg * amtL lb s ∨ amtL la s + sg * amtL lb s < -1099511627776 then ([], false) else sumG sg la lb (G.drop (k + 1)) (if amtL la s + sg * amtL lb s = 0 then o else o ++ [⟨s, amtL la s + sg * amtL lb s⟩])) := hV3
   clear hV3 A1 A2 NA NB
   generalize amtL la s = x at *
   generalize amtL lb s = y at *
   have v1 : IntKind.i64.wrap (sg * y) = sg * y := by rcases hsg with rfl | rfl <;> exact wrap64 (by omega) (by omega)
   have v2 : IntKind.i64.wrap (x + sg * y) = x + sg * y := by rcases hsg with rfl | rfl <;> exact wrap64 (by omega) (by omega)
   clear a1 a2
   generalize hy : sg * y = y' at *
   have T3 := T2.ext hE
   have S3 := S2.ext hE
   clear T2 S2
   go_upto_region 9 with (fail)
   refine wp_region_xw wo mixed (by kernel_rfl) (by repeat (first | exact Ext.refl _ | (refine Ext.alloc ?_ _) | (refine Ext.trans ?_ (by assumption)))) ?_
   intro hne hrx hry
   try simp only []
   try simp only [List.append_eq, List.cons_append, List.nil_append]
   skip
   repeat (first
    | go_big_quiet_skip
    | (go_big_quiet_want; go_big_quiet_op; go_big_quiet_on)
    | (go_big_quiet_want; go_big_quiet_op; apply Exists.intro; refine ⟨fun u => ?_, ?_⟩
       ·first
         | (go_at_call 124; (with_reducible refine Calls.mono (NAs _ (T3.ext u.e)) ?_); rintro e w' ⟨rfl, hb⟩; exact ⟨rfl, u.back hb⟩)
         | (go_at_call 124; (with_reducible refine Calls.mono (NBs _ (S3.ext u.e)) ?_); rintro e w' ⟨rfl, hb⟩; exact ⟨rfl, u.back hb⟩)
       go_big_quiet_on))
   clear hne hry hrx
   refine wpQuiet_nil ?_
   intro w3 h3
   obtain ⟨hcw3, hfw3, hzw3⟩ := Ext.rules h3
   try simp only [World.size_alloc] at hzw3
   obtain ⟨hcbw3, hfbw3, hzbw3⟩ := Ext.rules (show Ext wo w3 from (by repeat (first | exact Ext.refl _ | (refine Ext.alloc ?_ _) | (refine Ext.trans ?_ (by assumption)))))
   clear hcw3 hfw3
   clear NAs NBs T3 S3 hy v1 v2
   generalize x + y' = z at *
   by_cases z1 : 1099511627776 < z
   ·have g1 : decide (1099511627776 < z) = true := decide_eq_true z1
    have hv := hV4.out
    rw [if_pos (.inl z1)] at hv
    have hbad : Hid (allM sg M = false) := by
     unfold Hid
     cases ha : allM sg M
     ·rfl
     ·have := hV.out
      rw [ha, hv] at this
      simp at this
    have hE6 : Hid (combE sg f n g m = 6) := by unfold Hid; rw [hE2.out, hbad.out]; rfl
    have hL6 := Lib.hid (comb_err hE6.out (by decide))
    clear hV4 hV hv hbad hE2 hL3 z1
    go_wp2
    go_ret2
    exact ⟨none, 0, 0, by rw [hE6.out]; rfl, (E2.trans hE).trans h3, by rw [hL6.out]; exact World.ownsRow_nil _ _ _ _⟩
   have g1 : decide (1099511627776 < z) = false := decide_eq_false z1
   by_cases z2 : z < -1099511627776
   ·have g2 : decide (z < -1099511627776) = true := decide_eq_true z2
    have hv := hV4.out
    rw [if_pos (.inr z2)] at hv
    have hbad : Hid (allM sg M = false) := by
     unfold Hid
     cases ha : allM sg M
     ·rfl
     ·have := hV.out
      rw [ha, hv] at this
      simp at this
    have hE6 : Hid (combE sg f n g m = 6) := by unfold Hid; rw [hE2.out, hbad.out]; rfl
    have hL6 := Lib.hid (comb_err hE6.out (by decide))
    clear hV4 hV hv hbad hE2 hL3 z1 z2
    go_wp2
    go_ret2
    exact ⟨none, 0, 0, by rw [hE6.out]; rfl, (E2.trans hE).trans h3, by rw [hL6.out]; exact World.ownsRow_nil _ _ _ _⟩
   have g2 : decide (z < -1099511627776) = false := decide_eq_false z2
   have hv := hV4.out
   rw [if_neg (by omega)] at hv
   have hV5 := Lib.hid hv
   clear hV4 hv z1 z2
   by_cases z0 : z = 0
   ·subst z0
    have hv := hV5.out
    rw [if_pos rfl] at hv
    have hV6 := Lib.hid hv
    clear hv hV5 hV hE2 hL3
    replace hO := owns_ext hO h3
    go_wp2
    exact ⟨⟨k + 1, by omega, by go_num, o, hE.trans h3, hO, by omega, hV6⟩, by simp [intOf]; omega⟩
   ·have gz : (z == 0) = false := beq_eq_false_iff_ne.2 z0
    have hv := hV5.out
    rw [if_neg z0] at hv
    have hV6 := Lib.hid hv
    clear hv hV5 hV hE2 hL3
    replace hO := owns_ext hO h3
    obtain ⟨F5, m5, rfl⟩ := own_sl hO
    replace hE := hE.trans h3
    go_upto_region 8 with (at_builtin; refine wpList_append_own_at _ rfl _ _ 28 rfl w2.heap.size 68 i0 (.agg #[.string ⟨#[]⟩, .int .i64 0]) 2 24 Tryz.underlying28 hi hz0 hz1 hz2 rfl (by decide) _ _ _ rfl (hO.alloc _) ⟨w3.heap.size, 0, none⟩ 1 1 [.string s, .int .i64 z] rfl rfl (cells_newL _ _ _) (cells_lotQ _ _) (by unfold maxLen; omega) (by omega) (by have := hE.size; simp; omega) ?_; intro o' w5 hown hgrow _ _)
    have E5 : Ext w2 w5 := (hE.alloc _).grown hgrow (fun q hq => (hO.lt q hq).1)
    rw [lc_snoc] at hown
    clear hgrow hO hE
    go_wp2
    exact ⟨⟨k + 1, by omega, by go_num, o ++ [⟨s, z⟩], E5, by simpa using hown, by simp; omega, hV6⟩, by simp [intOf]; omega⟩
  ·obtain rfl : k = G.length := by omega
   have hv : V = (o, true) := by rw [hV2.out, List.drop_length]; rfl
   have hall : allM sg M = true := by
    cases ha : allM sg M
    ·have := hV.out
     rw [ha, hv] at this
     simp at this
    ·rfl
   have ho : outM sg M = o := by
    have := hV.out
    rw [hall, hv] at this
    simpa using this.symm
   rw [hall, if_pos rfl, ho] at hE2
   rw [ho] at hL3
   clear hV hV2 hall hv ho RG T2 S2 NA NB A1 A2
   obtain ⟨F5, m5, rfl⟩ := own_sl hO
   by_cases h64 : 64 < o.length
   ·have d1 : decide (64 < o.length) = true := decide_eq_true h64
    have d1' : decide ((64 : Int) < (o.length : Int)) = true := decide_eq_true (by omega)
    have hE3 : Hid (combE sg f n g m = 3) := by unfold Hid; rw [hE2.out, if_pos h64]
    have hL6 := Lib.hid (comb_err hE3.out (by decide))
    clear hE2 hL3 h64
    go_wp2
    go_ret2
    exact ⟨none, 0, 0, by rw [hE3.out]; rfl, E2.trans hE, by rw [hL6.out]; exact World.ownsRow_nil _ _ _ _⟩
   ·have d1 : decide (64 < o.length) = false := decide_eq_false h64
    have d1' : decide ((64 : Int) < (o.length : Int)) = false := decide_eq_false (by omega)
    have hE3 : Hid (combE sg f n g m = 0) := by unfold Hid; rw [hE2.out, if_neg h64]
    have hL6 := Lib.hid (hL3.out hE3.out)
    clear hE2 hL3 h64
    go_wp2
    go_ret2
    exact ⟨F5, _, m5, by rw [hE3.out]; rfl, E2.trans hE, by rw [hL6.out]; exact World.ownsRow.mono hO hb0⟩
theorem addLR_any (T : Option Addr) (n cap : Nat) (f : Nat → Lt) (S : Option Addr) (m cm : Nat) (g : Nat → Lt) (w : World) (hT : RowsAt w T n 2 (lotr f)) (hcap : n ≤ cap) (hn : n ≤ 9223372036854775807) (hS : RowsAt w S m 2 (lotr g)) (hcm : m ≤ cm) (hm : m ≤ 9223372036854775807) :
  Calls Tryz.prog 57 #[.slice T n cap, .slice S m cm] w fun e w' => ∃ F k c, e = .returned (.tuple #[.slice F k c, .int .i64 (combE 1 f n g m)]) ∧ Ext w w' ∧ w'.ownsRow w.heap.size 68 2 (.slice F k c) k ((combL 1 f n g m).flatMap lcells) := by
 have NC := combinedR_any T n cap f S m cm g 1 (by decide) w hT hcap hn hS hcm hm
 generalize combE 1 f n g m = E at *
 generalize combL 1 f n g m = L at *
 go_enter Tryz.func57, Tryz.ntmps57
 go_wp2_with (go_at_call 89; (with_reducible refine Calls.mono (NC) ?_); rintro e w1 ⟨F, k, c, rfl, h1, ho⟩)
 go_ret2
 exact ⟨F, k, c, rfl, h1, ho⟩
theorem subLR_any (T : Option Addr) (n cap : Nat) (f : Nat → Lt) (S : Option Addr) (m cm : Nat) (g : Nat → Lt) (w : World) (hT : RowsAt w T n 2 (lotr f)) (hcap : n ≤ cap) (hn : n ≤ 9223372036854775807) (hS : RowsAt w S m 2 (lotr g)) (hcm : m ≤ cm) (hm : m ≤ 9223372036854775807) :
  Calls Tryz.prog 68 #[.slice T n cap, .slice S m cm] w fun e w' => ∃ F k c, e = .returned (.tuple #[.slice F k c, .int .i64 (combE (-1) f n g m)]) ∧ Ext w w' ∧ w'.ownsRow w.heap.size 68 2 (.slice F k c) k ((combL (-1) f n g m).flatMap lcells) := by
 have NC := combinedR_any T n cap f S m cm g (-1) (by decide) w hT hcap hn hS hcm hm
 generalize combE (-1) f n g m = E at *
 generalize combL (-1) f n g m = L at *
 go_enter Tryz.func68, Tryz.ntmps68
 go_wp2_with (go_at_call 89; (with_reducible refine Calls.mono (NC) ?_); rintro e w1 ⟨F, k, c, rfl, h1, ho⟩)
 go_ret2
 exact ⟨F, k, c, rfl, h1, ho⟩
theorem addLLR_any (v1 v2 : Value) (a b : List Lt) (w : World) (h1 : LotsAt w v1 a) (h2 : LotsAt w v2 b) :
  Calls Tryz.prog 57 #[v1, v2] w fun e w' => ∃ F k m, e = .returned (.tuple #[.slice F k m, .int .i64 (combEL 1 a b)]) ∧ Ext w w' ∧ LotsAt w' (.slice F k m) (combLL 1 a b) := by
 obtain ⟨T, cap, rfl, hT, hcap, hmax, _⟩ := h1
 obtain ⟨S, cm, rfl, hS, hcm, hmm, _⟩ := h2
 refine Calls.mono (addLR_any T a.length cap (ofL a) S b.length cm (ofL b) w hT hcap (Nat.le_trans hcap (Nat.le_trans hmax (by decide))) hS hcm (Nat.le_trans hcm (Nat.le_trans hmm (by decide)))) ?_
 rintro e w' ⟨F, k, c, rfl, hx, ho⟩
 exact ⟨F, k, c, rfl, hx, lotsAt_own ho⟩
theorem subLLR_any (v1 v2 : Value) (a b : List Lt) (w : World) (h1 : LotsAt w v1 a) (h2 : LotsAt w v2 b) :
  Calls Tryz.prog 68 #[v1, v2] w fun e w' => ∃ F k m, e = .returned (.tuple #[.slice F k m, .int .i64 (combEL (-1) a b)]) ∧ Ext w w' ∧ LotsAt w' (.slice F k m) (combLL (-1) a b) := by
 obtain ⟨T, cap, rfl, hT, hcap, hmax, _⟩ := h1
 obtain ⟨S, cm, rfl, hS, hcm, hmm, _⟩ := h2
 refine Calls.mono (subLR_any T a.length cap (ofL a) S b.length cm (ofL b) w hT hcap (Nat.le_trans hcap (Nat.le_trans hmax (by decide))) hS hcm (Nat.le_trans hcm (Nat.le_trans hmm (by decide)))) ?_
 rintro e w' ⟨F, k, c, rfl, hx, ho⟩
 exact ⟨F, k, c, rfl, hx, lotsAt_own ho⟩
end Go.Proofs.YtneiofnlmblglaaGreatDoor
namespace Go.Proofs.YtneiofnlmblglaaGreatDoor
open Go Go.RowKit Go.Shelf
attribute [local go_sem] gv_yes
end Go.Proofs.YtneiofnlmblglaaGreatDoor
namespace Go.Proofs.YtneiofnlmblglaaGreatDoor
open Go Go.RowKit Go.Shelf
attribute [local go_sem] gv_yes
def Rt.neg (r : Rt) : Rt := ⟨-r.n, r.d⟩
section
variable {W : World} {b : Nat} {t : TypeId} {v0 v1 v2 : Value}
end
end Go.Proofs.YtneiofnlmblglaaGreatDoor
namespace Go.Proofs.YtneiofnlmblglaaGreatDoor
open Go Go.RowKit Go.Shelf
attribute [local go_sem] gv_yes
end Go.Proofs.YtneiofnlmblglaaGreatDoor
namespace Go.Proofs.YtneiofnlmblglaaGreatDoor
open Go Go.RowKit
attribute [local go_sem] gv_yes
def moI (y : Yr) (k : Nat) : Int := (y.mos.getD k (0, false)).1
def moS (y : Yr) (k : Nat) : Bool := (y.mos.getD k (0, false)).2
def moL (y : Yr) (k : Nat) : Int := y.len (moI y k) (moS y k)
def pre (y : Yr) (k : Nat) : Int := y.lens (y.mos.take k)
theorem pre_succ {y : Yr} {k : Nat} (h : k < y.mos.length) : pre y (k + 1) = pre y k + moL y k := by
 unfold pre moL moI moS
 rw [List.take_add_one, List.getElem?_eq_getElem h, lens_append, List.getD_eq_getElem?_getD, List.getElem?_eq_getElem h]
 simp [Yr.lens]
theorem pre_all (y : Yr) : pre y y.mos.length = y.days := by unfold pre; rw [List.take_length]; rfl
theorem pre_bd {y : Yr} {k : Nat} (h : k ≤ y.mos.length) : 29 * (k : Int) ≤ pre y k ∧ pre y k ≤ 30 * (k : Int) := by
 have := lens_29 y (y.mos.take k)
 rw [List.length_take, Nat.min_eq_left h] at this
 exact this
theorem moL_bd (y : Yr) (k : Nat) : 29 ≤ moL y k ∧ moL y k ≤ 30 := len_29 _ _ _
theorem runs_get (i : Nat) (y : Yr) : ∀ (l : List (Int × Bool)) (d : Int) (k : Nat), k < l.length → (runs i y d l)[k]? = some ⟨i, (l.getD k (0, false)).1, (l.getD k (0, false)).2, d + y.lens (l.take k)⟩
 | [], _, _, h => by simp at h
 | p :: l, d, 0, _ => by simp [runs, Yr.lens]
 | p :: l, d, k + 1, h => by
  have := runs_get i y l (d + y.len p.1 p.2) k (by simpa using h)
  simp only [runs, List.getElem?_cons_succ, this, List.getD_cons_succ, List.take_succ_cons, Yr.lens]
  congr 2
  omega
theorem items_pos {c : Cal} {y k : Nat} (hy : y < c.ny) (hk : k < (c.yr y).mos.length) : c.items[(c.itemsTo y).length + k]? = some ⟨y, moI (c.yr y) k, moS (c.yr y) k, c.dayAt y + pre (c.yr y) k⟩ := by
 obtain ⟨t, ht⟩ := itemsTo_pre c (show y + 1 ≤ c.ny from hy)
 unfold Cal.items
 rw [← ht]
 show ((c.itemsTo y ++ runs y (c.yr y) (c.dayAt y) (c.yr y).mos) ++ t)[_]? = _
 have hl : ((c.itemsTo y).length + k) < (c.itemsTo y ++ runs y (c.yr y) (c.dayAt y) (c.yr y).mos).length := by rw [List.length_append, runs_length]; omega
 rw [List.getElem?_append_left hl, List.getElem?_append_right (by omega), Nat.add_sub_cancel_left]
 exact runs_get _ _ _ _ _ hk
theorem itemsTo_next (c : Cal) (y : Nat) : (c.itemsTo (y + 1)).length = (c.itemsTo y).length + (c.yr y).mos.length := by
 show (c.itemsTo y ++ runs y (c.yr y) (c.dayAt y) (c.yr y).mos).length = _
 rw [List.length_append, runs_length]
theorem num_pos {c : Cal} {d : Dt} {y k : Nat} (hd : c.has d = true) (hy : y < c.ny) (hk : k < (c.yr y).mos.length) (h1 : (y : Int) = d.y) (h2 : moI (c.yr y) k = d.m) (h3 : moS (c.yr y) k = d.s) :
  c.num d = (c.dayAt y + pre (c.yr y) k + d.d - 1, (((c.itemsTo y).length + k : Nat) : Int) + 1) := by
 obtain ⟨i, x, hx, ⟨g1, g2, g3⟩, hn, _, _⟩ := num_ix hd
 have hp := items_pos hy hk
 have e : i = (c.itemsTo y).length + k := items_key hx hp (by simp only; omega) (by simp only; rw [g2, h2]) (by simp only; rw [g3, h3])
 subst e
 rw [hx] at hp
 obtain rfl := Option.some.inj hp
 rw [hn]
theorem num_pos_at {c : Cal} {n k M j : Nat} {m d X : Int} {s : Bool} {NV : Int × Int} (_hk : k < c.ny) (hj : j < (c.yr k).mos.length) (HN : Hid (∀ k, k < (c.yr n).mos.length → moI (c.yr n) k = m → moS (c.yr n) k = s → NV = (c.dayAt n + pre (c.yr n) k + d - 1, (((c.itemsTo n).length + k : Nat) : Int) + 1)))
  (HX : Hid (X = c.dayAt k + d - 1)) (HM : Hid (M = (c.itemsTo k).length)) (e : k = n) (h1 : moI (c.yr k) j = m) (h2 : moS (c.yr k) j = s) : NV = (X + pre (c.yr k) j, ((M + j : Nat) : Int) + 1) := by
 subst e
 have := HN.out j hj h1 h2
 rw [this, HX.out, HM.out]
 congr 1
 omega
theorem has_find {c : Cal} {n : Nat} {m d : Int} {s : Bool} (h : c.has ⟨n, m, s, d⟩ = true) : n < c.ny ∧ (∃ k, k < (c.yr n).mos.length ∧ moI (c.yr n) k = m ∧ moS (c.yr n) k = s) ∧ 1 ≤ d ∧ d ≤ 30 := by
 have g := has_iff.1 h
 have e : c.yrI (n : Int) = c.yr n := by unfold Cal.yrI; rw [Int.toNat_natCast]
 simp only [e] at g
 obtain ⟨i, hi, he⟩ := mos_at (y := c.yr n) g.2.1.1 g.2.1.2 g.2.2.1
 have := (len_29 (c.yr n) m s).2
 exact ⟨by omega, ⟨i, hi, by unfold moI; rw [he], by unfold moS; rw [he]⟩, g.2.2.2.1, by omega⟩
theorem mon_at {w : World} {A : Option Addr} {y : Yr} {i : Nat} (h : RowsAt w A y.mos.length 3 (mrow y)) (hi : i < y.mos.length) :
  ∃ b off, A = some ⟨b, off, none⟩ ∧ b < w.heap.size ∧ w.cell? ⟨b, off + i * 3, none⟩ = some (.int .i64 (moI y i)) ∧ w.cell? ⟨b, off + i * 3 + 1, none⟩ = some (.bool (moS y i)) ∧ w.cell? ⟨b, off + i * 3 + 2, none⟩ = some (.int .i64 (moL y i)) := mon_get h hi
theorem counted_any_r (A A' : Option Addr) (ca cb : Nat) (c : Cal) (D : Dt) (w : World) (hC : CalAt w A ca A' cb c) (hv : c.valid = true) (hd : c.has D = true) :
  Calls Tryz.prog 95 #[.agg #[.slice A c.nk ca, .slice A' c.ny cb], .agg #[.int .i64 D.y, .int .i64 D.m, .bool D.s, .int .i64 D.d]] w fun e w' => e = .returned (.tuple #[.int .i64 (c.num D).1, .int .i64 (c.num D).2]) ∧ Ext w w' := by
 have hny := valid_ny hv
 have hlg := valid_lg hv
 clear hv
 obtain ⟨y, m, s, d⟩ := D
 simp only
 have hy0 : 0 ≤ y := (has_iff.1 hd).1.1
 obtain ⟨n, rfl⟩ := Int.eq_ofNat_of_zero_le hy0
 clear hy0
 obtain ⟨hn, hfind, d0, d1⟩ := has_find hd
 have HF := Lib.hid hfind
 have HNUM := Lib.hid (fun k hk h2 h3 => num_pos hd hn (k := k) hk rfl h2 h3)
 clear hfind hd
 generalize c.num ⟨n, m, s, d⟩ = NV at *
 go_enter Tryz.func95, Tryz.ntmps95
 go_upto_region 1 with (fail)
 obtain ⟨v, hv⟩ := zgE ((w.alloc (.cells #[.slice A c.nk ca, .slice A' c.ny cb] 25)).alloc (.cells #[.int .i64 (n : Int), .int .i64 m, .bool s, .int .i64 d] 27))
 rw [← hv]
 have E : Ext w v := by rw [hv]; exact ((Ext.refl _).alloc _).alloc _
 have B1 : Held v w.heap.size 25 #[.slice A c.nk ca, .slice A' c.ny cb] := by rw [hv]; exact (Held.new _ _ _).alloc _
 have B2 : Held v (w.heap.size + 1) 27 #[.int .i64 (n : Int), .int .i64 m, .bool s, .int .i64 d] := by rw [hv]; exact Held.at _ _ _ _ (by simp)
 clear hv
 have C := hC.ext E
 clear hC
 generalize w.heap.size = b1 at *
 obtain ⟨k0, k1⟩ := B1.c2; have lk := B1.lt
 obtain ⟨p0, p1, p2, p3⟩ := B2.c4; have lp := B2.lt
 go_upto_region 3 with (fail)
 go_loopw [6, 7, 8, 9, 10] (fun dv mv yv _ _ wr => ∃ (k : Nat) (X : Int) (M : Nat), k ≤ n ∧ yv = .int .i64 k ∧ dv = .int .i64 X ∧ mv = .int .i64 (M : Int) ∧ 0 ≤ X ∧ X ≤ 156030 ∧ M ≤ 5200 ∧ Hid (X = c.dayAt k + d - 1) ∧ Hid (M = (c.itemsTo k).length) ∧ Ext v wr) (fun _ _ yv _ _ _ => n + 1 - (intOf yv).toNat)
 case atStart => exact ⟨0, d, 0, Nat.zero_le _, rfl, rfl, rfl, by omega, by omega, by omega, (by show d = 1 + d - 1; omega), rfl, Ext.refl _⟩
 case round =>
  obtain ⟨k, X, M, hk, rfl, rfl, rfl, x0, x1, m1, HX, HM, hE⟩ := hrel
  obtain ⟨wo, rfl⟩ := zgE wr
  clear k0 k1 lk p0 p1 p2 p3 lp
  replace B1 := B1.ext hE
  replace B2 := B2.ext hE
  replace C := C.ext hE
  obtain ⟨k0, k1⟩ := B1.c2
  have lk := B1.lt
  obtain ⟨p0, p1, p2, p3⟩ := B2.c4
  have lp := B2.lt
  have hkn : k < c.ny := by omega
  have hkb : decide ((k : Int) ≤ (n : Int)) = true := decide_eq_true (by omega)
  obtain ⟨yb, yo, hA', hyb, y0, y1, y2, y3⟩ := C.year hkn
  subst hA'
  have hmo := fun w => months_any_r (c.yr k) w (hlg k hkn).1 (hlg k hkn).2
  have HP := Lib.hid (fun j hj => num_pos_at (c := c) (d := d) hkn (j := j) hj HNUM HX HM)
  have HD : Hid (c.dayAt (k + 1) = c.dayAt k + (c.yr k).days) := rfl
  have HB := Lib.hid (dayAt_bd c (k + 1))
  have HI := Lib.hid (itemsTo_next c k)
  have HIL := Lib.hid (itemsTo_length c (k + 1))
  have HA := Lib.hid (pre_all (c.yr k))
  have HF' : Hid (k = n → ∃ j, j < (c.yr k).mos.length ∧ moI (c.yr k) j = m ∧ moS (c.yr k) j = s) := fun e => by subst e; exact HF.out
  have hml := (mos_length (c.yr k)).2
  generalize (c.yr k).days = dys at *
  generalize c.yr k = Y at *
  go_upto_region 6 with (go_at_call 130; (with_reducible refine Calls.mono (hmo _) ?_); rintro e v2 ⟨mv, rfl, h, MA⟩)
  obtain ⟨MA, mcap, rfl, MM⟩ := MA
  clear y0 y1 y2 y3 hyb hmo k0 k1 lk p0 p1 p2 p3 lp
  replace B2 := B2.ext h
  obtain ⟨p0, p1, p2, p3⟩ := B2.c4
  have lp := B2.lt
  go_upto_region 7 with (fail)
  go_loopw [6, 7, 10] (fun dv mv iv wr => ∃ (j : Nat) (X' : Int), j ≤ Y.mos.length ∧ iv = .int .i64 j ∧ dv = .int .i64 X' ∧ mv = .int .i64 ((M + j : Nat) : Int) ∧ 0 ≤ X' ∧ X' ≤ 156500 ∧ Hid (X' = X + pre Y j) ∧ Hid (k = n → ∀ i, i < j → ¬ (moI Y i = m ∧ moS Y i = s)) ∧ Ext v2 wr) (fun _ _ iv _ => Y.mos.length - (intOf iv).toNat)
  case atStart => exact ⟨0, X, Nat.zero_le _, rfl, rfl, rfl, x0, by omega, (by show X = X + 0; omega), (fun _ i hi => absurd hi (by omega)), Ext.refl _⟩
  case round =>
   obtain ⟨j, X', hj, rfl, rfl, rfl, z0, z1, HX', HN, hE2⟩ := hrel
   obtain ⟨wi, rfl⟩ := zgE wr
   clear p0 p1 p2 p3 lp
   obtain ⟨p0, p1, p2, p3⟩ := (B2.ext hE2).c4
   have lp := (B2.ext hE2).lt
   by_cases hlt : j < Y.mos.length
   ·obtain ⟨mb, mo, rfl, hmb, c0, c1, c2⟩ := mon_at (MM.ext hE2) hlt
    have HPj := HP.out j hlt
    have hq := moL_bd Y j
    have HS := Lib.hid (pre_succ hlt)
    have HPB := Lib.hid (pre_bd (y := Y) (k := j + 1) hlt)
    have HN' : Hid ((k = n → ¬ (moI Y j = m ∧ moS Y j = s)) → k = n → ∀ i, i < j + 1 → ¬ (moI Y i = m ∧ moS Y i = s)) := fun h0 e i hi => by
     by_cases e2 : i = j
     ·subst e2; exact h0 e
     ·exact HN.out e i (by omega)
    generalize Y.mos.length = L at *
    generalize moI Y j = x at *
    generalize moS Y j = z at *
    generalize moL Y j = q at *
    obtain ⟨q0, q1⟩ := hq
    by_cases hkn : k = n
    ·have hknb : ((k : Int) == (n : Int)) = true := by rw [hkn]; exact beq_self_eq_true _
     by_cases hx : x = m
     ·have hxb : (x == m) = true := by rw [hx]; exact beq_self_eq_true _
      by_cases hz : z = s
      ·have hzb : (z == s) = true := by rw [hz]; exact beq_self_eq_true _
       have HR : Hid (NV = (X', ((M + j : Nat) : Int) + 1)) := by rw [HX'.out]; exact HPj hkn hx hz
       clear HPj hkn hx hz HN'
       go_upto_region 10 with (fail)
       refine wp_region_xw wi mixed (by kernel_rfl) (by repeat (first | exact Ext.refl _ | (refine Ext.alloc ?_ _) | (refine Ext.trans ?_ (by assumption)))) ?_
       intro hne hrx hry
       try simp only []
       try simp only [List.append_eq, List.cons_append, List.nil_append]
       skip
       repeat (first
        | go_big_quiet_skip
        | (go_big_quiet_want; go_big_quiet_op; go_big_quiet_on))
       clear hne hry hrx
       refine wpQuiet_nil ?_
       intro wn hwn
       obtain ⟨hcwn, hfwn, hzwn⟩ := Ext.rules hwn
       try simp only [World.size_alloc] at hzwn
       obtain ⟨hcbwn, hfbwn, hzbwn⟩ := Ext.rules (show Ext wi wn from (by repeat (first | exact Ext.refl _ | (refine Ext.alloc ?_ _) | (refine Ext.trans ?_ (by assumption)))))
       clear hcwn hfwn
       go_wp2
       go_ret2
       exact ⟨by rw [HR.out]; rfl, (by repeat (first | exact Ext.refl _ | (refine Ext.alloc ?_ _) | (refine Ext.trans ?_ (by assumption))))⟩
      ·have hzb : (z == s) = false := beq_eq_false_iff_ne.2 hz
       have HQ := Lib.hid (HN'.out (fun _ g => hz g.2))
       clear HPj hkn hx hz HN'
       go_upto_region 10 with (fail)
       refine wp_region_xw wi mixed (by kernel_rfl) (by repeat (first | exact Ext.refl _ | (refine Ext.alloc ?_ _) | (refine Ext.trans ?_ (by assumption)))) ?_
       intro hne hrx hry
       try simp only []
       try simp only [List.append_eq, List.cons_append, List.nil_append]
       skip
       repeat (first
        | go_big_quiet_skip
        | (go_big_quiet_want; go_big_quiet_op; go_big_quiet_on))
       clear hne hry hrx
       refine wpQuiet_nil ?_
       intro wn hwn
       obtain ⟨hcwn, hfwn, hzwn⟩ := Ext.rules hwn
       try simp only [World.size_alloc] at hzwn
       obtain ⟨hcbwn, hfbwn, hzbwn⟩ := Ext.rules (show Ext wi wn from (by repeat (first | exact Ext.refl _ | (refine Ext.alloc ?_ _) | (refine Ext.trans ?_ (by assumption)))))
       clear hcwn hfwn
       go_wp2
       have g1 := HX'.out
       have g2 := HS.out
       have g3 := HPB.out
       exact ⟨⟨j + 1, X' + q, by omega, by go_num, by go_num, by go_num, by omega, by omega, by unfold Hid; rw [g2, g1]; omega, HQ.out, (by repeat (first | exact Ext.refl _ | (refine Ext.alloc ?_ _) | (refine Ext.trans ?_ (by assumption))))⟩, by simp [intOf]; omega⟩
     ·have hxb : (x == m) = false := beq_eq_false_iff_ne.2 hx
      have HQ := Lib.hid (HN'.out (fun _ g => hx g.1))
      clear HPj hkn hx HN'
      go_upto_region 10 with (fail)
      refine wp_region_xw wi mixed (by kernel_rfl) (by repeat (first | exact Ext.refl _ | (refine Ext.alloc ?_ _) | (refine Ext.trans ?_ (by assumption)))) ?_
      intro hne hrx hry
      try simp only []
      try simp only [List.append_eq, List.cons_append, List.nil_append]
      skip
      repeat (first
       | go_big_quiet_skip
       | (go_big_quiet_want; go_big_quiet_op; go_big_quiet_on))
      clear hne hry hrx
      refine wpQuiet_nil ?_
      intro wn hwn
      obtain ⟨hcwn, hfwn, hzwn⟩ := Ext.rules hwn
      try simp only [World.size_alloc] at hzwn
      obtain ⟨hcbwn, hfbwn, hzbwn⟩ := Ext.rules (show Ext wi wn from (by repeat (first | exact Ext.refl _ | (refine Ext.alloc ?_ _) | (refine Ext.trans ?_ (by assumption)))))
      clear hcwn hfwn
      go_wp2
      have g1 := HX'.out
      have g2 := HS.out
      have g3 := HPB.out
      exact ⟨⟨j + 1, X' + q, by omega, by go_num, by go_num, by go_num, by omega, by omega, by unfold Hid; rw [g2, g1]; omega, HQ.out, (by repeat (first | exact Ext.refl _ | (refine Ext.alloc ?_ _) | (refine Ext.trans ?_ (by assumption))))⟩, by simp [intOf]; omega⟩
    ·have hknb : ((k : Int) == (n : Int)) = false := beq_eq_false_iff_ne.2 (by omega)
     have HQ := Lib.hid (HN'.out (fun g _ => hkn g))
     clear HPj hkn HN'
     go_upto_region 10 with (fail)
     refine wp_region_xw wi mixed (by kernel_rfl) (by repeat (first | exact Ext.refl _ | (refine Ext.alloc ?_ _) | (refine Ext.trans ?_ (by assumption)))) ?_
     intro hne hrx hry
     try simp only []
     try simp only [List.append_eq, List.cons_append, List.nil_append]
     skip
     repeat (first
      | go_big_quiet_skip
      | (go_big_quiet_want; go_big_quiet_op; go_big_quiet_on))
     clear hne hry hrx
     refine wpQuiet_nil ?_
     intro wn hwn
     obtain ⟨hcwn, hfwn, hzwn⟩ := Ext.rules hwn
     try simp only [World.size_alloc] at hzwn
     obtain ⟨hcbwn, hfbwn, hzbwn⟩ := Ext.rules (show Ext wi wn from (by repeat (first | exact Ext.refl _ | (refine Ext.alloc ?_ _) | (refine Ext.trans ?_ (by assumption)))))
     clear hcwn hfwn
     go_wp2
     have g1 := HX'.out
     have g2 := HS.out
     have g3 := HPB.out
     exact ⟨⟨j + 1, X' + q, by omega, by go_num, by go_num, by go_num, by omega, by omega, by unfold Hid; rw [g2, g1]; omega, HQ.out, (by repeat (first | exact Ext.refl _ | (refine Ext.alloc ?_ _) | (refine Ext.trans ?_ (by assumption))))⟩, by simp [intOf]; omega⟩
   ·obtain rfl : j = Y.mos.length := by omega
    have hkn : k < n := by
     rcases Nat.lt_or_ge k n with h | h
     ·exact h
     ·obtain ⟨i, hi, h1, h2⟩ := HF'.out (by omega)
      exact absurd ⟨h1, h2⟩ (HN.out (by omega) i hi)
    have f1 := HX'.out
    have f2 := HX.out
    have f3 := HD.out
    have f4 := HA.out
    have f5 := HM.out
    have f6 := HI.out
    have f7 := HB.out
    have f8 := HIL.out
    have G1 : Hid (X' = c.dayAt (k + 1) + d - 1 ∧ M + Y.mos.length = (c.itemsTo (k + 1)).length ∧ X' ≤ 156030 ∧ M + Y.mos.length ≤ 5200) := ⟨by omega, by omega, by omega, by omega⟩
    clear f1 f2 f3 f4 f5 f6 f7 f8
    generalize Y.mos.length = L at *
    go_wp2
    obtain ⟨e1, e2, e3, e4⟩ := G1.out
    exact ⟨⟨k + 1, X', M + L, by omega, by go_num, rfl, by go_num, z0, by omega, by omega, e1, e2, (by repeat (first | exact Ext.refl _ | (refine Ext.alloc ?_ _) | (refine Ext.trans ?_ (by assumption))))⟩, by simp [intOf]; omega⟩
end Go.Proofs.YtneiofnlmblglaaGreatDoor
namespace Go.Proofs.YtneiofnlmblglaaGreatDoor
open Go Go.RowKit Go.Shelf
attribute [local go_sem] gv_yes Dt.val
end Go.Proofs.YtneiofnlmblglaaGreatDoor
namespace Go.Proofs.YtneiofnlmblglaaGreatDoor
open Go Go.RowKit
attribute [local go_sem] gv_yes
end Go.Proofs.YtneiofnlmblglaaGreatDoor
namespace Go.Proofs.YtneiofnlmblglaaGreatDoor
open Go Go.RowKit
attribute [local go_sem] gv_yes
end Go.Proofs.YtneiofnlmblglaaGreatDoor
namespace Go.Proofs.YtneiofnlmblglaaGreatDoor
open Go Go.RowKit Go.Shelf
attribute [local go_sem] gv_yes
theorem dayR_any (A A' : Option Addr) (ca cb : Nat) (c : Cal) (d : Dt) (w : World) (hC : CalAt w A ca A' cb c) (hv : c.valid = true) :
  Calls Tryz.prog 60 #[.agg #[.slice A c.nk ca, .slice A' c.ny cb], .agg #[.int .i64 d.y, .int .i64 d.m, .bool d.s, .int .i64 d.d]] w fun e w' => e = .returned (.int .i64 (c.numV d)) ∧ Ext w w' := by
 have NH := fun v (h : CalAt v A ca A' cb c) => has_any_r A A' ca cb c d v h hv
 unfold Cal.numV
 cases hh : c.has d
 ·have hE : c.inE d ≠ 0 := by rcases inE_cases c d with ⟨h, _⟩ | ⟨_, _, h⟩ | ⟨_, h, _⟩ <;> first | (rw [hv] at h; cases h) | (rw [h]; decide) | (rw [hh] at h; cases h)
  simp only [hh] at NH
  rw [if_neg hE]
  clear hE hh hv
  go_enter Tryz.func60, Tryz.ntmps60
  go_upto_region 1 with (fail)
  obtain ⟨v, hv⟩ := zgE ((w.alloc (.cells #[.slice A c.nk ca, .slice A' c.ny cb] 25)).alloc (.cells #[.int .i64 d.y, .int .i64 d.m, .bool d.s, .int .i64 d.d] 27))
  rw [← hv]
  have E : Ext w v := by rw [hv]; exact ((Ext.refl _).alloc _).alloc _
  have B1 : Held v w.heap.size 25 #[.slice A c.nk ca, .slice A' c.ny cb] := by rw [hv]; exact (Held.new _ _ _).alloc _
  have B2 : Held v (w.heap.size + 1) 27 #[.int .i64 d.y, .int .i64 d.m, .bool d.s, .int .i64 d.d] := by rw [hv]; exact Held.at _ _ _ _ (by simp)
  clear hv
  obtain ⟨b2, hb2⟩ := zgE (w.heap.size + 1)
  rw [← hb2] at B2 ⊢
  obtain ⟨b1, hb1⟩ := zgE (w.heap.size)
  rw [← hb1] at B1 ⊢
  have hbr : w.heap.size ≤ b2 := by omega
  have hbr1 : w.heap.size ≤ b1 := by omega
  have hn21 : b2 ≠ b1 := by omega
  clear hb1 hb2
  have C := hC.ext E
  clear hC
  obtain ⟨k0, k1⟩ := B1.c2
  have kl := B1.lt
  obtain ⟨p0, p1, p2, p3⟩ := B2.c4
  have pl := B2.lt
  go_wp2_with (go_at_call 94; (with_reducible refine Calls.mono (NH _ C) ?_); rintro e w1 ⟨rfl, h1⟩; replace E := E.trans h1; replace C := C.ext h1; replace B1 := B1.ext h1; replace B2 := B2.ext h1; clear k0 k1 kl; obtain ⟨k0, k1⟩ := B1.c2; have kl := B1.lt; clear p0 p1 p2 p3 pl; obtain ⟨p0, p1, p2, p3⟩ := B2.c4; have pl := B2.lt; clear h1)
  go_ret
  exact ⟨rfl, E⟩
 ·have hE : c.inE d = 0 := by rcases inE_cases c d with ⟨h, _⟩ | ⟨_, h, _⟩ | ⟨_, _, h⟩ <;> first | (rw [hv] at h; cases h) | exact h | (rw [hh] at h; cases h)
  have NK := fun v (h : CalAt v A ca A' cb c) => counted_any_r A A' ca cb c d v h hv hh
  simp only [hh] at NH
  rw [if_pos hE]
  generalize c.num d = V at *
  clear hE hh hv
  go_enter Tryz.func60, Tryz.ntmps60
  go_upto_region 1 with (fail)
  obtain ⟨v, hv⟩ := zgE ((w.alloc (.cells #[.slice A c.nk ca, .slice A' c.ny cb] 25)).alloc (.cells #[.int .i64 d.y, .int .i64 d.m, .bool d.s, .int .i64 d.d] 27))
  rw [← hv]
  have E : Ext w v := by rw [hv]; exact ((Ext.refl _).alloc _).alloc _
  have B1 : Held v w.heap.size 25 #[.slice A c.nk ca, .slice A' c.ny cb] := by rw [hv]; exact (Held.new _ _ _).alloc _
  have B2 : Held v (w.heap.size + 1) 27 #[.int .i64 d.y, .int .i64 d.m, .bool d.s, .int .i64 d.d] := by rw [hv]; exact Held.at _ _ _ _ (by simp)
  clear hv
  obtain ⟨b2, hb2⟩ := zgE (w.heap.size + 1)
  rw [← hb2] at B2 ⊢
  obtain ⟨b1, hb1⟩ := zgE (w.heap.size)
  rw [← hb1] at B1 ⊢
  have hbr : w.heap.size ≤ b2 := by omega
  have hbr1 : w.heap.size ≤ b1 := by omega
  have hn21 : b2 ≠ b1 := by omega
  clear hb1 hb2
  have C := hC.ext E
  clear hC
  obtain ⟨k0, k1⟩ := B1.c2
  have kl := B1.lt
  obtain ⟨p0, p1, p2, p3⟩ := B2.c4
  have pl := B2.lt
  go_wp2_with (first | (go_at_call 94; (with_reducible refine Calls.mono (NH _ C) ?_); rintro e w1 ⟨rfl, h1⟩; replace E := E.trans h1; replace C := C.ext h1; replace B1 := B1.ext h1; replace B2 := B2.ext h1; clear k0 k1 kl; obtain ⟨k0, k1⟩ := B1.c2; have kl := B1.lt; clear p0 p1 p2 p3 pl; obtain ⟨p0, p1, p2, p3⟩ := B2.c4; have pl := B2.lt; clear h1) | (go_at_call 95; (with_reducible refine Calls.mono (NK _ C) ?_); rintro e w2 ⟨rfl, h1⟩; replace E := E.trans h1; replace C := C.ext h1; replace B1 := B1.ext h1; replace B2 := B2.ext h1; clear k0 k1 kl; obtain ⟨k0, k1⟩ := B1.c2; have kl := B1.lt; clear p0 p1 p2 p3 pl; obtain ⟨p0, p1, p2, p3⟩ := B2.c4; have pl := B2.lt; clear h1))
  go_ret
  exact ⟨rfl, E⟩
theorem inOrderR_any (A A' : Option Addr) (ca cb : Nat) (c : Cal) (a b : Dt) (w : World) (hC : CalAt w A ca A' cb c) (hv : c.valid = true) :
  Calls Tryz.prog 61 #[.agg #[.slice A c.nk ca, .slice A' c.ny cb], .agg #[.int .i64 a.y, .int .i64 a.m, .bool a.s, .int .i64 a.d], .agg #[.int .i64 b.y, .int .i64 b.m, .bool b.s, .int .i64 b.d]] w fun e w' => e = .returned (.bool (decide (0 < c.numV a) && decide (c.numV a ≤ c.numV b))) ∧ Ext w w' := by
 have NA := fun v (h : CalAt v A ca A' cb c) => dayR_any A A' ca cb c a v h hv
 have NB := fun v (h : CalAt v A ca A' cb c) => dayR_any A A' ca cb c b v h hv
 generalize c.numV a = x at *
 generalize c.numV b = y at *
 clear hv
 go_enter Tryz.func61, Tryz.ntmps61
 go_upto_region 1 with (fail)
 obtain ⟨v, hv⟩ := zgE (((w.alloc (.cells #[.slice A c.nk ca, .slice A' c.ny cb] 25)).alloc (.cells #[.int .i64 a.y, .int .i64 a.m, .bool a.s, .int .i64 a.d] 27)).alloc (.cells #[.int .i64 b.y, .int .i64 b.m, .bool b.s, .int .i64 b.d] 27))
 rw [← hv]
 have E : Ext w v := by rw [hv]; exact (((Ext.refl _).alloc _).alloc _).alloc _
 have B1 : Held v w.heap.size 25 #[.slice A c.nk ca, .slice A' c.ny cb] := by rw [hv]; exact ((Held.new _ _ _).alloc _).alloc _
 have B2 : Held v (w.heap.size + 1) 27 #[.int .i64 a.y, .int .i64 a.m, .bool a.s, .int .i64 a.d] := by rw [hv]; exact (Held.at _ _ _ _ (by simp)).alloc _
 have B3 : Held v (w.heap.size + 1 + 1) 27 #[.int .i64 b.y, .int .i64 b.m, .bool b.s, .int .i64 b.d] := by rw [hv]; exact Held.at _ _ _ _ (by simp)
 clear hv
 obtain ⟨b3, hb3⟩ := zgE (w.heap.size + 1 + 1)
 rw [← hb3] at B3 ⊢
 obtain ⟨b2, hb2⟩ := zgE (w.heap.size + 1)
 rw [← hb2] at B2 ⊢
 obtain ⟨b1, hb1⟩ := zgE (w.heap.size)
 rw [← hb1] at B1 ⊢
 have hbr : w.heap.size ≤ b3 := by omega
 have hbr1 : w.heap.size ≤ b1 := by omega
 have hbr2 : w.heap.size ≤ b2 := by omega
 have hn21 : b2 ≠ b1 := by omega
 have hn31 : b3 ≠ b1 := by omega
 have hn32 : b3 ≠ b2 := by omega
 clear hb1 hb2 hb3
 have C := hC.ext E
 clear hC
 obtain ⟨k0, k1⟩ := B1.c2
 have kl := B1.lt
 obtain ⟨p0, p1, p2, p3⟩ := B2.c4
 have pl := B2.lt
 obtain ⟨q0, q1, q2, q3⟩ := B3.c4
 have ql := B3.lt
 refine wp_region_xw v mixed (by kernel_rfl) (by repeat (first | exact Ext.refl _ | (refine Ext.alloc ?_ _) | (refine Ext.trans ?_ (by assumption)))) ?_
 intro hne hrx hry
 try simp only []
 try simp only [List.append_eq, List.cons_append, List.nil_append]
 skip
 repeat (first
  | go_big_quiet_skip
  | (go_big_quiet_want; go_big_quiet_op; go_big_quiet_on)
  | (go_big_quiet_want; go_big_quiet_op; apply Exists.intro; refine ⟨fun u => ?_, ?_⟩
     ·first
       | (go_at_call 60; (with_reducible refine Calls.mono (NA _ (C.ext u.e)) ?_); rintro e w' ⟨rfl, hb⟩; exact ⟨rfl, u.back hb⟩)
       | (go_at_call 60; (with_reducible refine Calls.mono (NB _ (C.ext u.e)) ?_); rintro e w' ⟨rfl, hb⟩; exact ⟨rfl, u.back hb⟩)
     go_big_quiet_on))
 clear hne hry hrx
 refine wpQuiet_nil ?_
 intro v1 h1
 obtain ⟨hcv1, hfv1, hzv1⟩ := Ext.rules h1
 try simp only [World.size_alloc] at hzv1
 obtain ⟨hcbv1, hfbv1, hzbv1⟩ := Ext.rules (show Ext v v1 from (by repeat (first | exact Ext.refl _ | (refine Ext.alloc ?_ _) | (refine Ext.trans ?_ (by assumption)))))
 clear hcv1 hfv1
 clear NA NB C k0 k1 kl p0 p1 p2 p3 pl q0 q1 q2 q3 ql
 replace E := E.trans h1
 clear h1
 by_cases c1 : 0 < x
 ·have g1 : decide (0 < x) = true := decide_eq_true c1
  by_cases c2 : 0 < y
  ·have g2 : decide (0 < y) = true := decide_eq_true c2
   clear c1 c2
   cases g3 : decide (x ≤ y)
   ·go_wp2
    go_ret
    exact ⟨by rw [g1]; first | rfl | (rw [g3]; rfl), E⟩
   ·go_wp2
    go_ret
    exact ⟨by rw [g1]; first | rfl | (rw [g3]; rfl), E⟩
  ·have g2 : decide (0 < y) = false := decide_eq_false c2
   have g3 : decide (x ≤ y) = false := decide_eq_false (by omega)
   clear c1 c2
   go_wp2
   go_ret
   exact ⟨by rw [g3, Bool.and_false]; rfl, E⟩
 ·have g1 : decide (0 < x) = false := decide_eq_false c1
  clear c1
  go_wp2
  go_ret
  exact ⟨by rw [g1]; rfl, E⟩
end Go.Proofs.YtneiofnlmblglaaGreatDoor
namespace Go.Proofs.YtneiofnlmblglaaGreatDoor
open Go Go.RowKit
theorem eqIn_lot (w : World) (x0 y0 : ByteArray) (x1 y1 : Int) : (Op.equalIn 10000 68 (.agg #[.string x0, .int .i64 x1]) (.agg #[.string y0, .int .i64 y1])).run Tryz.prog w = .ok ((x0.toList == y0.toList) && (x1 == y1)) w := by
 go_simp
 by_cases h0 : x0.toList = y0.toList
 rotate_left
 ·simp [h0]
 by_cases h1 : x1 = y1
 rotate_left
 ·simp [h1]
 simp [h0, h1]
theorem neq_lot (w : World) (x0 y0 : ByteArray) (x1 y1 : Int) : (binOp .neq 68 (.agg #[.string x0, .int .i64 x1]) (.agg #[.string y0, .int .i64 y1])).run Tryz.prog w = .ok (.bool (!((x0.toList == y0.toList) && (x1 == y1)))) w := by rw [run_neq_struct, eqIn_lot]; rfl
theorem eqIn_ratio (w : World) (x0 y0 : Int) (x1 y1 : Int) : (Op.equalIn 10000 73 (.agg #[.int .i64 x0, .int .i64 x1]) (.agg #[.int .i64 y0, .int .i64 y1])).run Tryz.prog w = .ok ((x0 == y0) && (x1 == y1)) w := by
 go_simp
 by_cases h0 : x0 = y0
 rotate_left
 ·simp [h0]
 by_cases h1 : x1 = y1
 rotate_left
 ·simp [h1]
 simp [h0, h1]
theorem neq_ratio (w : World) (x0 y0 : Int) (x1 y1 : Int) : (binOp .neq 73 (.agg #[.int .i64 x0, .int .i64 x1]) (.agg #[.int .i64 y0, .int .i64 y1])).run Tryz.prog w = .ok (.bool (!((x0 == y0) && (x1 == y1)))) w := by rw [run_neq_struct, eqIn_ratio]; rfl
theorem eqIn_debt (w : World) (x0 y0 : Int) (x1 y1 : Int) (x2 y2 : Int) (x3 y3 : Int) (x4 y4 : Int) (x5 y5 : Int) : (Op.equalIn 10000 85 (.agg #[.int .i64 x0, .int .i64 x1, .int .i64 x2, .int .i64 x3, .int .i64 x4, .int .i64 x5]) (.agg #[.int .i64 y0, .int .i64 y1, .int .i64 y2, .int .i64 y3, .int .i64 y4, .int .i64 y5])).run Tryz.prog w = .ok ((x0 == y0) && ((x1 == y1) && ((x2 == y2) && ((x3 == y3) && ((x4 == y4) && (x5 == y5)))))) w := by
 go_simp
 by_cases h0 : x0 = y0
 rotate_left
 ·simp [h0]
 by_cases h1 : x1 = y1
 rotate_left
 ·simp [h1]
 by_cases h2 : x2 = y2
 rotate_left
 ·simp [h2]
 by_cases h3 : x3 = y3
 rotate_left
 ·simp [h3]
 by_cases h4 : x4 = y4
 rotate_left
 ·simp [h4]
 by_cases h5 : x5 = y5
 rotate_left
 ·simp [h5]
 simp [h0, h1, h2, h3, h4, h5]
theorem neq_debt (w : World) (x0 y0 : Int) (x1 y1 : Int) (x2 y2 : Int) (x3 y3 : Int) (x4 y4 : Int) (x5 y5 : Int) : (binOp .neq 85 (.agg #[.int .i64 x0, .int .i64 x1, .int .i64 x2, .int .i64 x3, .int .i64 x4, .int .i64 x5]) (.agg #[.int .i64 y0, .int .i64 y1, .int .i64 y2, .int .i64 y3, .int .i64 y4, .int .i64 y5])).run Tryz.prog w = .ok (.bool (!((x0 == y0) && ((x1 == y1) && ((x2 == y2) && ((x3 == y3) && ((x4 == y4) && (x5 == y5)))))))) w := by rw [run_neq_struct, eqIn_debt]; rfl
theorem eqIn_herd (w : World) (x0 y0 : Int) (x1 y1 : Int) (x2 y2 : Int) : (Op.equalIn 10000 99 (.agg #[.int .i64 x0, .int .i64 x1, .int .i64 x2]) (.agg #[.int .i64 y0, .int .i64 y1, .int .i64 y2])).run Tryz.prog w = .ok ((x0 == y0) && ((x1 == y1) && (x2 == y2))) w := by
 go_simp
 by_cases h0 : x0 = y0
 rotate_left
 ·simp [h0]
 by_cases h1 : x1 = y1
 rotate_left
 ·simp [h1]
 by_cases h2 : x2 = y2
 rotate_left
 ·simp [h2]
 simp [h0, h1, h2]
theorem neq_herd (w : World) (x0 y0 : Int) (x1 y1 : Int) (x2 y2 : Int) : (binOp .neq 99 (.agg #[.int .i64 x0, .int .i64 x1, .int .i64 x2]) (.agg #[.int .i64 y0, .int .i64 y1, .int .i64 y2])).run Tryz.prog w = .ok (.bool (!((x0 == y0) && ((x1 == y1) && (x2 == y2))))) w := by rw [run_neq_struct, eqIn_herd]; rfl
end Go.Proofs.YtneiofnlmblglaaGreatDoor
namespace Go.Proofs.YtneiofnlmblglaaGreatDoor
open Go Go.RowKit Go.Shelf
attribute [local go_sem] gv_yes
attribute [local go_sem high] neq_lot
theorem sameLotsR_any (v1 v2 : Value) (l : List Lt) (w : World) (h1 : LotsAt w v1 l) (h2 : LotsAt w v2 l) :
  Calls Tryz.prog 13 #[v1, v2] w fun e w' => e = .returned (.bool true) ∧ Ext w w' := by
 obtain ⟨A, ca, rfl, hA, hca, hca', _⟩ := h1
 obtain ⟨B, cb, rfl, hB, hcb, hcb', _⟩ := h2
 have hn : l.length ≤ 9223372036854775807 := Nat.le_trans hca (Nat.le_trans hca' (by decide))
 clear hca hca' hcb hcb'
 generalize l.length = n at *
 generalize ofL l = f at *
 go_enter Tryz.func13, Tryz.ntmps13
 go_upto_region 4 with (fail)
 go_loopw [5] (fun i wr => ∃ k : Nat, k ≤ n ∧ i = .int .i64 k ∧ Ext w wr) (fun i _ => n - (intOf i).toNat)
 case atStart => exact ⟨0, Nat.zero_le _, rfl, Ext.refl _⟩
 case round =>
  obtain ⟨k, hk, rfl, hE⟩ := hrel
  obtain ⟨wo, rfl⟩ := zgE wr
  by_cases hlt : k < n
  ·obtain ⟨b, off, rfl, hb, hc⟩ := (hA.ext hE) (by omega)
   have c0 : wo.cell? ⟨b, off + k * 2, none⟩ = some (.string (f k).g) := by simpa [lotr] using hc k 0 _ hlt rfl
   have c1 : wo.cell? ⟨b, off + k * 2 + 1, none⟩ = some (.int .i64 (f k).n) := by simpa [lotr] using hc k 1 _ hlt rfl
   clear hc
   obtain ⟨b2, off2, rfl, hb2, hc⟩ := (hB.ext hE) (by omega)
   have d0 : wo.cell? ⟨b2, off2 + k * 2, none⟩ = some (.string (f k).g) := by simpa [lotr] using hc k 0 _ hlt rfl
   have d1 : wo.cell? ⟨b2, off2 + k * 2 + 1, none⟩ = some (.int .i64 (f k).n) := by simpa [lotr] using hc k 1 _ hlt rfl
   clear hc hA hB
   generalize (f k).g = s at *
   generalize (f k).n = z at *
   go_upto_region 6 with (fail)
   refine wp_region_xw wo mixed (by kernel_rfl) (by repeat (first | exact Ext.refl _ | (refine Ext.alloc ?_ _) | (refine Ext.trans ?_ (by assumption)))) ?_
   intro hne hrx hry
   try simp only []
   try simp only [List.append_eq, List.cons_append, List.nil_append]
   skip
   repeat (first
    | go_big_quiet_skip
    | (go_big_quiet_want; go_big_quiet_op; go_big_quiet_on))
   clear hne hry hrx
   refine wpQuiet_nil ?_
   intro w2 h2
   obtain ⟨hcw2, hfw2, hzw2⟩ := Ext.rules h2
   try simp only [World.size_alloc] at hzw2
   obtain ⟨hcbw2, hfbw2, hzbw2⟩ := Ext.rules (show Ext wo w2 from (by repeat (first | exact Ext.refl _ | (refine Ext.alloc ?_ _) | (refine Ext.trans ?_ (by assumption)))))
   clear hcw2 hfw2
   go_wp2
   exact ⟨⟨k + 1, by omega, by go_num, hE.trans h2⟩, by simp [intOf]; omega⟩
  ·obtain rfl : k = n := by omega
   go_wp2
   go_ret
   exact ⟨rfl, hE⟩
theorem copyLotsO_any (v : Value) (l : List Lt) (w : World) (hL : LotsAt w v l) (hsz : l.length * 24 ≤ 140737488351232) :
  Calls Tryz.prog 20 #[v] w fun e w' => ∃ v', e = .returned v' ∧ Ext w w' ∧ w'.ownsRow w.heap.size 68 2 v' l.length (l.flatMap lcells) := by
 have hfl := flat_lots l
 obtain ⟨T, cap, rfl, hT, hcap, hmax, hnil⟩ := hL
 obtain ⟨i0, hi, hz0, hz1, hz2⟩ := info_parts info_lotQ
 have hlen := flatL_len (f := lotr (ofL l)) (sz := 2) (fun _ => rfl) l.length
 have hone : ∀ u ∈ flatL (lotr (ofL l)) l.length, u.oneCell' = true := flat_one (f := lotr (ofL l)) (n := l.length) (fun i u hu => by simp [lotr] at hu; rcases hu with rfl | rfl <;> simp [Value.oneCell'])
 go_enter Tryz.func20, Tryz.ntmps20
 go_upto_region 2 with (fail)
 go_wp2_with (at_builtin; refine wpList_append_copy rfl _ _ 28 rfl w.heap.size 68 i0 (.agg #[.string ⟨#[]⟩, .int .i64 0]) 2 24 Tryz.underlying28 hi hz0 hz1 hz2 rfl (by decide) rfl T l.length cap (flatL (lotr (ofL l)) l.length) rfl hnil hlen (flat_news (f := lotr (ofL l)) (sz := 2) (fun _ => rfl) (by decide) hT) hone (by unfold maxLen; omega) (by omega) (Nat.le_refl _) ?_; intro p w3 hP hgrow)
 have hx : Ext w w3 := (Ext.refl _).grown hgrow (fun q hq => by cases hq)
 clear hgrow
 rw [← hfl] at hP
 go_ret
 exact ⟨_, rfl, hx, hP⟩
theorem copyLotsR_any (v : Value) (l : List Lt) (w : World) (hL : LotsAt w v l) (hsz : l.length * 24 ≤ 140737488351232) :
  Calls Tryz.prog 20 #[v] w fun e w' => ∃ v', e = .returned v' ∧ Ext w w' ∧ LotsAt w' v' l := by
 exact (copyLotsO_any v l w hL hsz).mono fun e w' ⟨v', h1, h2, h3⟩ => ⟨v', h1, h2, lotsAt_own h3⟩
theorem chkLR_any (v : Value) (l : List Lt) (w : World) (hL : LotsAt w v l) :
  Calls Tryz.prog 55 #[v] w fun e w' => e = .returned (.int .i64 (lotsEL l)) ∧ Ext w w' := by
 obtain ⟨T, cap, rfl, hT, hcap, hmax, _⟩ := hL
 exact checkLotsR_any T l.length cap (ofL l) w hT hcap (Nat.le_trans hcap (Nat.le_trans hmax (by decide)))
theorem balR_any (p : Pd) (vo vd vc : Value) (w : World) (hP : PerAt w p vo vd vc) (hsz : p.o.length * 24 ≤ 140737488351232) :
  Calls Tryz.prog 30 #[.agg #[.string p.h, .int .i64 p.a.y, .int .i64 p.a.m, .bool p.a.s, .int .i64 p.a.d, .int .i64 p.b.y, .int .i64 p.b.m, .bool p.b.s, .int .i64 p.b.d, vo, vd, vc]] w fun e w' => ∃ v', e = .returned (.tuple #[v', .int .i64 (sumD p.o p.d).2]) ∧ Ext w w' ∧ LotsAt w' v' (sumD p.o p.d).1 := by
 obtain ⟨hO, hDD, hCC⟩ := hP
 obtain ⟨T0, cc0, rfl, _⟩ := id hO
 obtain ⟨T1, cc1, rfl, _⟩ := id hCC
 obtain ⟨D, cap, vs, rfl, hD, hcap, hmax, _, hat⟩ := hDD
 have hn : p.d.length ≤ 9223372036854775807 := Nat.le_trans hcap (Nat.le_trans hmax (by decide))
 obtain ⟨n, hnl⟩ := zgE (p.d.length)
 rw [← hnl] at hn hD hat hcap
 replace hnl := Lib.hid hnl
 obtain ⟨R, hR⟩ := zgE (sumD p.o p.d)
 rw [← hR]
 replace hR := Lib.hid hR
 have NC := fun w h => copyLotsR_any (.slice T0 p.o.length cc0) p.o w h hsz
 rw [← hnl.out]
 go_enter Tryz.func30, Tryz.ntmps30
 go_upto_region 1 with (fail)
 obtain ⟨v, hv⟩ := zgE (w.alloc (.cells #[.string p.h, .int .i64 p.a.y, .int .i64 p.a.m, .bool p.a.s, .int .i64 p.a.d, .int .i64 p.b.y, .int .i64 p.b.m, .bool p.b.s, .int .i64 p.b.d, .slice T0 p.o.length cc0, .slice D n cap, .slice T1 p.c.length cc1] 31))
 rw [← hv]
 have E : Ext w v := by rw [hv]; exact (Ext.refl _).alloc _
 have B1 : Held v w.heap.size 31 #[.string p.h, .int .i64 p.a.y, .int .i64 p.a.m, .bool p.a.s, .int .i64 p.a.d, .int .i64 p.b.y, .int .i64 p.b.m, .bool p.b.s, .int .i64 p.b.d, .slice T0 p.o.length cc0, .slice D n cap, .slice T1 p.c.length cc1] := by rw [hv]; exact (Held.new _ _ _)
 clear hv
 obtain ⟨b1, hb1⟩ := zgE (w.heap.size)
 rw [← hb1] at B1 ⊢
 have hbr : w.heap.size ≤ b1 := by omega
 clear hb1
 obtain ⟨k0, k1, k2, k3, k4, k5, k6, k7, k8, k9, k10, k11⟩ := B1.c12
 have kl := B1.lt
 have O1 := hO.ext E
 go_upto_region 2 with (go_at_call 20; (with_reducible refine Calls.mono (NC _ O1) ?_); rintro e w1 ⟨v0, rfl, h1, hS0⟩)
 obtain ⟨F0, m0, hv0, _⟩ := id hS0
 subst hv0
 clear k0 k1 k2 k3 k4 k5 k6 k7 k8 k9 k10 k11 kl
 replace E := E.trans h1
 replace B1 := B1.ext h1
 clear h1 NC O1 hO hCC
 obtain ⟨g, hg⟩ := zgE (fun i => p.d.getD i zDl)
 have hg' : ∀ i, p.d.getD i zDl = g i := fun i => by rw [hg]
 have hdr : Hid (∀ s k, k < n → sumD s (p.d.drop k) = if combEL (sgn (g k).i) s (g k).l ≠ 0 then ([], combEL (sgn (g k).i) s (g k).l) else sumD (combLL (sgn (g k).i) s (g k).l) (p.d.drop (k + 1))) := fun s k hk => by
  rw [sumD_at s (by rw [← hnl.out]; exact hk), hg']
 simp only [hg'] at hD hat
 clear hg hg'
 replace hat := Lib.hid hat
 have hD1 := hD.ext E
 go_upto_region 3 with (fail)
 go_loopw [4, 5] (fun sv iv wr => ∃ (k : Nat) (s : List Lt), k ≤ n ∧ iv = .int .i64 k ∧ LotsAt wr sv s ∧ Hid (R = sumD s (p.d.drop k)) ∧ Ext w1 wr) (fun _ i _ => n - (intOf i).toNat)
 case atStart => exact ⟨0, p.o, Nat.zero_le _, rfl, hS0, by unfold Hid; rw [hR.out]; rfl, Ext.refl _⟩
 case round =>
  clear hS0
  obtain ⟨k, s, hk, rfl, hS, hrun, hE⟩ := hrel
  obtain ⟨wo, rfl⟩ := zgE wr
  have B := B1.ext hE
  obtain ⟨k0, k1, k2, k3, k4, k5, k6, k7, k8, k9, k10, k11⟩ := B.c12
  have kl := B.lt
  obtain ⟨AS, cs, hsv, _⟩ := id hS
  subst hsv
  by_cases hlt : k < n
  ·obtain ⟨b, off, rfl, hb, hc⟩ := (hD1.ext hE) (by omega)
   have hL := (hat.out k hlt).ext (E.trans hE)
   have c4 : wo.cell? ⟨b, off + k * 7 + 4, none⟩ = some (.bool (g k).i) := by simpa [dealr] using hc k 4 _ hlt rfl
   have c6 : wo.cell? ⟨b, off + k * 7 + 6, none⟩ = some (vs k) := by simpa [dealr] using hc k 6 _ hlt rfl
   have HS := Lib.hid (hdr.out s k hlt)
   obtain ⟨VL, hvl⟩ := zgE (vs k)
   rw [← hvl] at c6 hL
   clear hvl hc hdr hat hR hD hD1
   obtain ⟨TL, cl, hVL, _⟩ := id hL
   subst hVL
   obtain ⟨SD, hSD⟩ := zgE (sumD s (p.d.drop k))
   rw [← hSD] at HS hrun
   clear hSD
   cases hi : (g k).i
   ·skip
    have NX := fun w h1 h2 => subLLR_any (.slice AS s.length cs) (.slice TL (g k).l.length cl) s (g k).l w h1 h2
    rw [hi] at HS
    have HS2 : Hid (SD = if combEL (-1) s (g k).l ≠ 0 then ([], combEL (-1) s (g k).l) else sumD (combLL (-1) s (g k).l) (p.d.drop (k + 1))) := HS
    rw [hi] at c4
    clear HS hi
    generalize hce : combEL (-1) s (g k).l = E1 at *
    generalize combLL (-1) s (g k).l = L1 at *
    by_cases e0 : E1 = 0
    ·subst e0
     have HS3 := Lib.hid (HS2.out.trans (if_neg (by simp)))
     clear HS2 hce
     go_wp2_with (go_at_call 68; (with_reducible refine Calls.mono (NX _ hS hL) ?_); rintro e w6 ⟨F6, k6', m6, rfl, h6, L6⟩)
     exact ⟨⟨k + 1, L1, by omega, by go_num, L6, Lib.hid (hrun.out.trans HS3.out), hE.trans h6⟩, by simp [intOf]; omega⟩
    ·have g0 : (E1 == 0) = false := beq_eq_false_iff_ne.2 e0
     have g0n : (E1 != 0) = true := by rw [bne, g0]; rfl
     have HS3 := Lib.hid (hrun.out.trans (HS2.out.trans (if_pos e0)))
     clear HS2 hrun hce e0
     go_wp2_with (go_at_call 68; (with_reducible refine Calls.mono (NX _ hS hL) ?_); rintro e w6 ⟨F6, k6', m6, rfl, h6, L6⟩)
     go_ret2
     exact ⟨_, by rw [HS3.out]; rfl, E.trans (hE.trans h6), by rw [HS3.out]; exact lotsAt_nil _⟩
   ·skip
    have NX := fun w h1 h2 => addLLR_any (.slice AS s.length cs) (.slice TL (g k).l.length cl) s (g k).l w h1 h2
    rw [hi] at HS
    have HS2 : Hid (SD = if combEL (1) s (g k).l ≠ 0 then ([], combEL (1) s (g k).l) else sumD (combLL (1) s (g k).l) (p.d.drop (k + 1))) := HS
    rw [hi] at c4
    clear HS hi
    generalize hce : combEL (1) s (g k).l = E1 at *
    generalize combLL (1) s (g k).l = L1 at *
    by_cases e0 : E1 = 0
    ·subst e0
     have HS3 := Lib.hid (HS2.out.trans (if_neg (by simp)))
     clear HS2 hce
     go_wp2_with (go_at_call 57; (with_reducible refine Calls.mono (NX _ hS hL) ?_); rintro e w6 ⟨F6, k6', m6, rfl, h6, L6⟩)
     exact ⟨⟨k + 1, L1, by omega, by go_num, L6, Lib.hid (hrun.out.trans HS3.out), hE.trans h6⟩, by simp [intOf]; omega⟩
    ·have g0 : (E1 == 0) = false := beq_eq_false_iff_ne.2 e0
     have g0n : (E1 != 0) = true := by rw [bne, g0]; rfl
     have HS3 := Lib.hid (hrun.out.trans (HS2.out.trans (if_pos e0)))
     clear HS2 hrun hce e0
     go_wp2_with (go_at_call 57; (with_reducible refine Calls.mono (NX _ hS hL) ?_); rintro e w6 ⟨F6, k6', m6, rfl, h6, L6⟩)
     go_ret2
     exact ⟨_, by rw [HS3.out]; rfl, E.trans (hE.trans h6), by rw [HS3.out]; exact lotsAt_nil _⟩
  ·obtain rfl : k = n := by omega
   have hr : Hid (R = (s, 0)) := by
    unfold Hid
    rw [hrun.out, hnl.out, List.drop_length]; rfl
   clear hrun hdr hat hR
   go_wp2
   go_ret2
   exact ⟨_, by rw [hr.out]; rfl, E.trans hE, by rw [hr.out]; exact hS⟩
end Go.Proofs.YtneiofnlmblglaaGreatDoor
namespace Go.Proofs.YtneiofnlmblglaaGreatDoor
open Go Go.RowKit Go.Shelf
attribute [local go_sem] gv_yes
theorem held4_allQ {W : World} {b : Nat} {t : TypeId} {v0 v1 v2 v3 : Value} (h : Held W b t #[v0, v1, v2, v3]) (u0 u1 u2 u3 : Value) : Held ((((W.setCell ⟨b, 0, none⟩ u0).setCell ⟨b, 1, none⟩ u1).setCell ⟨b, 2, none⟩ u2).setCell ⟨b, 3, none⟩ u3) b t #[u0, u1, u2, u3] := by unfold Held at h ⊢; simp [World.setCell, Array.getElem?_modify, h]
theorem ext4Q {w W : World} {b : Nat} (h : Ext w W) (hb : w.heap.size ≤ b) (u0 u1 u2 u3 : Value) : Ext w ((((W.setCell ⟨b, 0, none⟩ u0).setCell ⟨b, 1, none⟩ u1).setCell ⟨b, 2, none⟩ u2).setCell ⟨b, 3, none⟩ u3) :=
 (((h.setCell (p := ⟨b, 0, none⟩) hb u0).setCell (p := ⟨b, 1, none⟩) hb u1).setCell (p := ⟨b, 2, none⟩) hb u2).setCell (p := ⟨b, 3, none⟩) hb u3
def Cal.lastT (p : Pd) : Nat → Dt
 | 0 => p.a
 | k + 1 => (p.dl k).on
theorem held_c7Q {W : World} {b : Nat} {t : TypeId} {v0 v1 v2 v3 v4 v5 v6 : Value} (h : Held W b t #[v0, v1, v2, v3, v4, v5, v6]) : W.cell? ⟨b, 0, none⟩ = some v0 ∧ W.cell? ⟨b, 1, none⟩ = some v1 ∧ W.cell? ⟨b, 2, none⟩ = some v2 ∧ W.cell? ⟨b, 3, none⟩ = some v3 ∧ W.cell? ⟨b, 4, none⟩ = some v4 ∧ W.cell? ⟨b, 5, none⟩ = some v5 ∧ W.cell? ⟨b, 6, none⟩ = some v6 := ⟨h.cell 0, h.cell 1, h.cell 2, h.cell 3, h.cell 4, h.cell 5, h.cell 6⟩
theorem any_ofLQ {l : List Lt} {j : Nat} (hj : j < l.length) (h : (ofL l j).n < 0) : (l.any fun x => decide (x.n < 0)) = true := by
 rw [List.any_eq_true]
 exact ⟨ofL l j, by rw [ofL_get hj]; exact List.getElem_mem hj, decide_eq_true h⟩
theorem none_ofLQ {l : List Lt} (h : ∀ i, i < l.length → 0 ≤ (ofL l i).n) : (l.any fun x => decide (x.n < 0)) = false := by
 rw [List.any_eq_false]
 intro x hx
 obtain ⟨i, hi, rfl⟩ := List.getElem_of_mem hx
 have := h i hi
 rw [ofL_get hi] at this
 simpa using this
theorem last_num (c : Cal) (p : Pd) (k : Nat) : c.numV (Cal.lastT p k) = c.lastD p k := by cases k <;> rfl
theorem perValidR_any (A A' : Option Addr) (ca cb : Nat) (c : Cal) (p : Pd) (vo vd vc : Value) (w : World) (hC : CalAt w A ca A' cb c) (hv : c.valid = true) (hP : PerAt w p vo vd vc) :
  Calls Tryz.prog 32 #[.agg #[.slice A c.nk ca, .slice A' c.ny cb], .agg #[.string p.h, .int .i64 p.a.y, .int .i64 p.a.m, .bool p.a.s, .int .i64 p.a.d, .int .i64 p.b.y, .int .i64 p.b.m, .bool p.b.s, .int .i64 p.b.d, vo, vd, vc]] w fun e w' => e = .returned (.bool (c.perOk p)) ∧ Ext w w' := by
 obtain ⟨hO, hDD, hCC⟩ := hP
 obtain ⟨T0, cc0, rfl, _⟩ := id hO
 obtain ⟨T1, cc1, rfl, _⟩ := id hCC
 obtain ⟨D, cap, vs, rfl, hD, hcap, hmax, _, hat⟩ := hDD
 have hn : p.d.length ≤ 9223372036854775807 := Nat.le_trans hcap (Nat.le_trans hmax (by decide))
 obtain ⟨n, hnl⟩ := zgE (p.d.length)
 rw [← hnl] at hn hD hat hcap
 replace hnl := Lib.hid hnl
 have NN := fun w => isNameR_any p.h w
 have NI := fun v (h : CalAt v A ca A' cb c) => inOrderR_any A A' ca cb c p.a p.b v h hv
 have NO := fun w h => chkLR_any (.slice T0 p.o.length cc0) p.o w h
 have NK := fun w h => chkLR_any (.slice T1 p.c.length cc1) p.c w h
 obtain ⟨R, hR0⟩ := zgE (c.perOk p)
 rw [← hR0]
 replace hR0 := Lib.hid hR0
 have hhd : Hid (c.perHead p = (isName p.h && (decide (0 < c.numV p.a) && decide (c.numV p.a ≤ c.numV p.b)) && decide (lotsEL p.o = 0) && decide (lotsEL p.c = 0) && decide (n ≤ 64))) := by unfold Hid; rw [hnl.out]; rfl
 have hbad : Hid (c.perHead p = false → R = false) := fun h => by rw [hR0.out]; exact per_head h
 rw [← hnl.out]
 go_enter Tryz.func32, Tryz.ntmps32
 go_upto_region 1 with (fail)
 obtain ⟨v, hv⟩ := zgE ((w.alloc (.cells #[.slice A c.nk ca, .slice A' c.ny cb] 25)).alloc (.cells #[.string p.h, .int .i64 p.a.y, .int .i64 p.a.m, .bool p.a.s, .int .i64 p.a.d, .int .i64 p.b.y, .int .i64 p.b.m, .bool p.b.s, .int .i64 p.b.d, .slice T0 p.o.length cc0, .slice D n cap, .slice T1 p.c.length cc1] 31))
 rw [← hv]
 have E : Ext w v := by rw [hv]; exact ((Ext.refl _).alloc _).alloc _
 have B1 : Held v w.heap.size 25 #[.slice A c.nk ca, .slice A' c.ny cb] := by rw [hv]; exact (Held.new _ _ _).alloc _
 have B2 : Held v (w.heap.size + 1) 31 #[.string p.h, .int .i64 p.a.y, .int .i64 p.a.m, .bool p.a.s, .int .i64 p.a.d, .int .i64 p.b.y, .int .i64 p.b.m, .bool p.b.s, .int .i64 p.b.d, .slice T0 p.o.length cc0, .slice D n cap, .slice T1 p.c.length cc1] := by rw [hv]; exact Held.at _ _ _ _ (by simp)
 clear hv
 obtain ⟨b2, hb2⟩ := zgE (w.heap.size + 1)
 rw [← hb2] at B2 ⊢
 obtain ⟨b1, hb1⟩ := zgE (w.heap.size)
 rw [← hb1] at B1 ⊢
 have hbr : w.heap.size ≤ b2 := by omega
 have hbr1 : w.heap.size ≤ b1 := by omega
 have hn21 : b2 ≠ b1 := by omega
 clear hb1 hb2
 have C := hC.ext E
 have O := hO.ext E
 have K := hCC.ext E
 have DD := hD.ext E
 clear hC hO hCC
 obtain ⟨j0, j1⟩ := B1.c2
 have jl := B1.lt
 obtain ⟨k0, k1, k2, k3, k4, k5, k6, k7, k8, k9, k10, k11⟩ := B2.c12
 have kl := B2.lt
 cases hnm : isName p.h
 ·simp only [hnm] at NN
  have hr := hbad.out (by rw [hhd.out]; simp [hnm])
  subst hr
  clear hbad hhd hR0
  go_wp2_with (first | (go_at_call 69; (with_reducible refine Calls.mono (NN _) ?_); rintro e _ ⟨rfl, rfl⟩))
  go_ret
  exact ⟨rfl, E⟩
 simp only [hnm] at NN
 cases hsp : (decide (0 < c.numV p.a) && decide (c.numV p.a ≤ c.numV p.b))
 ·simp only [hsp] at NI
  have hr := hbad.out (by rw [hhd.out]; rw [hsp]; simp)
  subst hr
  clear hbad hhd hR0
  go_wp2_with (first | (go_at_call 69; (with_reducible refine Calls.mono (NN _) ?_); rintro e _ ⟨rfl, rfl⟩) | (go_at_call 61; (with_reducible refine Calls.mono (NI _ C) ?_); rintro e w2 ⟨rfl, hx⟩; replace E := E.trans hx; replace C := C.ext hx; replace O := O.ext hx; replace K := K.ext hx; replace DD := DD.ext hx; replace B1 := B1.ext hx; replace B2 := B2.ext hx; clear hx; clear j0 j1 jl k0 k1 k2 k3 k4 k5 k6 k7 k8 k9 k10 k11 kl; obtain ⟨j0, j1⟩ := B1.c2; have jl := B1.lt; obtain ⟨k0, k1, k2, k3, k4, k5, k6, k7, k8, k9, k10, k11⟩ := B2.c12; have kl := B2.lt))
  go_ret
  exact ⟨rfl, E⟩
 simp only [hsp] at NI
 by_cases hlo : lotsEL p.o = 0
 rotate_left
 ·have go : (lotsEL p.o == 0) = false := beq_eq_false_iff_ne.2 hlo
  have gon : (lotsEL p.o != 0) = true := by rw [bne, go]; rfl
  have hr := hbad.out (by rw [hhd.out]; simp [hlo])
  subst hr
  clear hbad hhd hR0
  go_wp2_with (first | (go_at_call 69; (with_reducible refine Calls.mono (NN _) ?_); rintro e _ ⟨rfl, rfl⟩) | (go_at_call 61; (with_reducible refine Calls.mono (NI _ C) ?_); rintro e w2 ⟨rfl, hx⟩; replace E := E.trans hx; replace C := C.ext hx; replace O := O.ext hx; replace K := K.ext hx; replace DD := DD.ext hx; replace B1 := B1.ext hx; replace B2 := B2.ext hx; clear hx; clear j0 j1 jl k0 k1 k2 k3 k4 k5 k6 k7 k8 k9 k10 k11 kl; obtain ⟨j0, j1⟩ := B1.c2; have jl := B1.lt; obtain ⟨k0, k1, k2, k3, k4, k5, k6, k7, k8, k9, k10, k11⟩ := B2.c12; have kl := B2.lt) | (go_at_call 55; (with_reducible refine Calls.mono (NO _ O) ?_); rintro e w3 ⟨rfl, hx⟩; replace E := E.trans hx; replace C := C.ext hx; replace O := O.ext hx; replace K := K.ext hx; replace DD := DD.ext hx; replace B1 := B1.ext hx; replace B2 := B2.ext hx; clear hx; clear j0 j1 jl k0 k1 k2 k3 k4 k5 k6 k7 k8 k9 k10 k11 kl; obtain ⟨j0, j1⟩ := B1.c2; have jl := B1.lt; obtain ⟨k0, k1, k2, k3, k4, k5, k6, k7, k8, k9, k10, k11⟩ := B2.c12; have kl := B2.lt))
  go_ret
  exact ⟨rfl, E⟩
 rw [hlo] at NO
 by_cases hlc : lotsEL p.c = 0
 rotate_left
 ·have gc : (lotsEL p.c == 0) = false := beq_eq_false_iff_ne.2 hlc
  have gcn : (lotsEL p.c != 0) = true := by rw [bne, gc]; rfl
  have hr := hbad.out (by rw [hhd.out]; simp [hlc])
  subst hr
  clear hbad hhd hR0
  go_wp2_with (first | (go_at_call 69; (with_reducible refine Calls.mono (NN _) ?_); rintro e _ ⟨rfl, rfl⟩) | (go_at_call 61; (with_reducible refine Calls.mono (NI _ C) ?_); rintro e w2 ⟨rfl, hx⟩; replace E := E.trans hx; replace C := C.ext hx; replace O := O.ext hx; replace K := K.ext hx; replace DD := DD.ext hx; replace B1 := B1.ext hx; replace B2 := B2.ext hx; clear hx; clear j0 j1 jl k0 k1 k2 k3 k4 k5 k6 k7 k8 k9 k10 k11 kl; obtain ⟨j0, j1⟩ := B1.c2; have jl := B1.lt; obtain ⟨k0, k1, k2, k3, k4, k5, k6, k7, k8, k9, k10, k11⟩ := B2.c12; have kl := B2.lt) | (go_at_call 55; (with_reducible refine Calls.mono (NO _ O) ?_); rintro e w3 ⟨rfl, hx⟩; replace E := E.trans hx; replace C := C.ext hx; replace O := O.ext hx; replace K := K.ext hx; replace DD := DD.ext hx; replace B1 := B1.ext hx; replace B2 := B2.ext hx; clear hx; clear j0 j1 jl k0 k1 k2 k3 k4 k5 k6 k7 k8 k9 k10 k11 kl; obtain ⟨j0, j1⟩ := B1.c2; have jl := B1.lt; obtain ⟨k0, k1, k2, k3, k4, k5, k6, k7, k8, k9, k10, k11⟩ := B2.c12; have kl := B2.lt) | (go_at_call 55; (with_reducible refine Calls.mono (NK _ K) ?_); rintro e w4 ⟨rfl, hx⟩; replace E := E.trans hx; replace C := C.ext hx; replace O := O.ext hx; replace K := K.ext hx; replace DD := DD.ext hx; replace B1 := B1.ext hx; replace B2 := B2.ext hx; clear hx; clear j0 j1 jl k0 k1 k2 k3 k4 k5 k6 k7 k8 k9 k10 k11 kl; obtain ⟨j0, j1⟩ := B1.c2; have jl := B1.lt; obtain ⟨k0, k1, k2, k3, k4, k5, k6, k7, k8, k9, k10, k11⟩ := B2.c12; have kl := B2.lt))
  go_ret
  exact ⟨rfl, E⟩
 rw [hlc] at NK
 by_cases h64 : 64 < n
 ·have g1 : decide (64 < n) = true := decide_eq_true h64
  have h64' : ¬ n ≤ 64 := by omega
  have hr := hbad.out (by rw [hhd.out]; simp [h64'])
  subst hr
  clear hbad hhd hR0
  go_wp2_with (first | (go_at_call 69; (with_reducible refine Calls.mono (NN _) ?_); rintro e _ ⟨rfl, rfl⟩) | (go_at_call 61; (with_reducible refine Calls.mono (NI _ C) ?_); rintro e w2 ⟨rfl, hx⟩; replace E := E.trans hx; replace C := C.ext hx; replace O := O.ext hx; replace K := K.ext hx; replace DD := DD.ext hx; replace B1 := B1.ext hx; replace B2 := B2.ext hx; clear hx; clear j0 j1 jl k0 k1 k2 k3 k4 k5 k6 k7 k8 k9 k10 k11 kl; obtain ⟨j0, j1⟩ := B1.c2; have jl := B1.lt; obtain ⟨k0, k1, k2, k3, k4, k5, k6, k7, k8, k9, k10, k11⟩ := B2.c12; have kl := B2.lt) | (go_at_call 55; (with_reducible refine Calls.mono (NO _ O) ?_); rintro e w3 ⟨rfl, hx⟩; replace E := E.trans hx; replace C := C.ext hx; replace O := O.ext hx; replace K := K.ext hx; replace DD := DD.ext hx; replace B1 := B1.ext hx; replace B2 := B2.ext hx; clear hx; clear j0 j1 jl k0 k1 k2 k3 k4 k5 k6 k7 k8 k9 k10 k11 kl; obtain ⟨j0, j1⟩ := B1.c2; have jl := B1.lt; obtain ⟨k0, k1, k2, k3, k4, k5, k6, k7, k8, k9, k10, k11⟩ := B2.c12; have kl := B2.lt) | (go_at_call 55; (with_reducible refine Calls.mono (NK _ K) ?_); rintro e w4 ⟨rfl, hx⟩; replace E := E.trans hx; replace C := C.ext hx; replace O := O.ext hx; replace K := K.ext hx; replace DD := DD.ext hx; replace B1 := B1.ext hx; replace B2 := B2.ext hx; clear hx; clear j0 j1 jl k0 k1 k2 k3 k4 k5 k6 k7 k8 k9 k10 k11 kl; obtain ⟨j0, j1⟩ := B1.c2; have jl := B1.lt; obtain ⟨k0, k1, k2, k3, k4, k5, k6, k7, k8, k9, k10, k11⟩ := B2.c12; have kl := B2.lt))
  go_ret
  exact ⟨rfl, E⟩
 have g1 : decide (64 < n) = false := decide_eq_false h64
 have hhead : c.perHead p = true := by
  rw [hhd.out, hnm, hsp, decide_eq_true hlo, decide_eq_true hlc, decide_eq_true (show n ≤ 64 by omega)]; rfl
 have hpa : 0 < c.numV (Cal.lastT p 0) := by
  have := (Bool.and_eq_true_iff.1 hsp).1
  exact of_decide_eq_true this
 clear hbad hhd hnm hsp hlo hlc
 go_upto_region 4 with (first | (go_at_call 69; (with_reducible refine Calls.mono (NN _) ?_); rintro e _ ⟨rfl, rfl⟩) | (go_at_call 61; (with_reducible refine Calls.mono (NI _ C) ?_); rintro e w2 ⟨rfl, hx⟩; replace E := E.trans hx; replace C := C.ext hx; replace O := O.ext hx; replace K := K.ext hx; replace DD := DD.ext hx; replace B1 := B1.ext hx; replace B2 := B2.ext hx; clear hx; clear j0 j1 jl k0 k1 k2 k3 k4 k5 k6 k7 k8 k9 k10 k11 kl; obtain ⟨j0, j1⟩ := B1.c2; have jl := B1.lt; obtain ⟨k0, k1, k2, k3, k4, k5, k6, k7, k8, k9, k10, k11⟩ := B2.c12; have kl := B2.lt) | (go_at_call 55; (with_reducible refine Calls.mono (NO _ O) ?_); rintro e w3 ⟨rfl, hx⟩; replace E := E.trans hx; replace C := C.ext hx; replace O := O.ext hx; replace K := K.ext hx; replace DD := DD.ext hx; replace B1 := B1.ext hx; replace B2 := B2.ext hx; clear hx; clear j0 j1 jl k0 k1 k2 k3 k4 k5 k6 k7 k8 k9 k10 k11 kl; obtain ⟨j0, j1⟩ := B1.c2; have jl := B1.lt; obtain ⟨k0, k1, k2, k3, k4, k5, k6, k7, k8, k9, k10, k11⟩ := B2.c12; have kl := B2.lt) | (go_at_call 55; (with_reducible refine Calls.mono (NK _ K) ?_); rintro e w4 ⟨rfl, hx⟩; replace E := E.trans hx; replace C := C.ext hx; replace O := O.ext hx; replace K := K.ext hx; replace DD := DD.ext hx; replace B1 := B1.ext hx; replace B2 := B2.ext hx; clear hx; clear j0 j1 jl k0 k1 k2 k3 k4 k5 k6 k7 k8 k9 k10 k11 kl; obtain ⟨j0, j1⟩ := B1.c2; have jl := B1.lt; obtain ⟨k0, k1, k2, k3, k4, k5, k6, k7, k8, k9, k10, k11⟩ := B2.c12; have kl := B2.lt))
 have hE5 := E.size
 obtain ⟨v5, hv⟩ := zgE (w4.alloc (.cells #[.int .i64 p.a.y, .int .i64 p.a.m, .bool p.a.s, .int .i64 p.a.d] 27))
 rw [← hv]
 have hx : Ext w4 v5 := by rw [hv]; exact (Ext.refl _).alloc _
 have BL : Held v5 w4.heap.size 27 #[.int .i64 p.a.y, .int .i64 p.a.m, .bool p.a.s, .int .i64 p.a.d] := by rw [hv]; exact Held.new _ _ _
 clear hv
 obtain ⟨bl, hbl⟩ := zgE (w4.heap.size)
 rw [← hbl] at BL ⊢
 replace hE5 : w4.heap.size ≤ bl := by omega
 clear hbl
 clear j0 j1 jl k0 k1 k2 k3 k4 k5 k6 k7 k8 k9 k10 k11 kl
 clear NN NI NO NK
 obtain ⟨g, hg⟩ := zgE (fun i => p.d.getD i zDl)
 have hg' : ∀ i, p.d.getD i zDl = g i := fun i => by rw [hg]
 have hdk : Hid (∀ k, c.dealOk p k = !(decide (c.numV (g k).on < c.lastD p k) || decide (c.numV p.b < c.numV (g k).on) || !isName (g k).w || decide ((g k).w = p.h) || !givenV (g k).l)) := fun k => by rw [← hg' k]; rfl
 have hgo : Hid (∀ k, (g k).on = Cal.lastT p (k + 1)) := fun k => by rw [← hg' k]; rfl
 simp only [hg'] at hD hat DD
 clear hg hg'
 replace hat := Lib.hid hat
 have C0 := C
 have A2' := B2
 have A1' := B1
 clear C O K B1 B2
 go_upto_region 5 with (fail)
 go_loopw [6] (fun iv wr => ∃ k : Nat, k ≤ n ∧ iv = .int .i64 k ∧ Hid (∀ j, j < k → c.dealOk p j = true) ∧ 0 < c.numV (Cal.lastT p k) ∧ Ext w4 wr ∧ Held wr bl 27 #[.int .i64 (Cal.lastT p k).y, .int .i64 (Cal.lastT p k).m, .bool (Cal.lastT p k).s, .int .i64 (Cal.lastT p k).d]) (fun iv _ => n - (intOf iv).toNat)
 case atStart => exact ⟨0, Nat.zero_le _, rfl, (fun j h => absurd h (by omega)), hpa, hx, BL⟩
 case round =>
  clear hpa hx BL
  obtain ⟨k, hk, rfl, hok, hpos, hE, BL⟩ := hrel
  obtain ⟨wo, rfl⟩ := zgE wr
  have C := C0.ext hE
  have B1 := A1'.ext hE
  have B2 := A2'.ext hE
  obtain ⟨j0, j1⟩ := B1.c2
  have jl := B1.lt
  obtain ⟨k0, k1, k2, k3, k4, k5, k6, k7, k8, k9, k10, k11⟩ := B2.c12
  have kl := B2.lt
  obtain ⟨m0, m1, m2, m3⟩ := BL.c4
  have ml := BL.lt
  by_cases hlt : k < n
  rotate_left
  ·obtain rfl : k = n := by omega
   have hr : R = true := by rw [hR0.out]; exact per_all hhead (fun j hj => hok.out j (by rw [hnl.out]; exact hj))
   subst hr
   clear hok hdk hat hgo
   go_wp2
   go_ret
   exact ⟨rfl, E.trans hE⟩
  obtain ⟨b, off, rfl, hb, hc⟩ := (DD.ext hE) (by omega)
  have hL := (hat.out k hlt).ext (E.trans hE)
  have c0 : wo.cell? ⟨b, off + k * 7, none⟩ = some (.int .i64 (g k).on.y) := by simpa [dealr] using hc k 0 _ hlt rfl
  have c1 : wo.cell? ⟨b, off + k * 7 + 1, none⟩ = some (.int .i64 (g k).on.m) := by simpa [dealr] using hc k 1 _ hlt rfl
  have c2 : wo.cell? ⟨b, off + k * 7 + 2, none⟩ = some (.bool (g k).on.s) := by simpa [dealr] using hc k 2 _ hlt rfl
  have c3 : wo.cell? ⟨b, off + k * 7 + 3, none⟩ = some (.int .i64 (g k).on.d) := by simpa [dealr] using hc k 3 _ hlt rfl
  have c4 : wo.cell? ⟨b, off + k * 7 + 4, none⟩ = some (.bool (g k).i) := by simpa [dealr] using hc k 4 _ hlt rfl
  have c5 : wo.cell? ⟨b, off + k * 7 + 5, none⟩ = some (.string (g k).w) := by simpa [dealr] using hc k 5 _ hlt rfl
  have c6 : wo.cell? ⟨b, off + k * 7 + 6, none⟩ = some (vs k) := by simpa [dealr] using hc k 6 _ hlt rfl
  have hno : Hid (c.dealOk p k = false → R = false) := fun h => by rw [hR0.out]; exact per_bad (by rw [← hnl.out]; exact hlt) h
  have hyes : Hid (c.dealOk p k = true → ∀ j, j < k + 1 → c.dealOk p j = true) := fun h j hj => by
   by_cases e : j = k
   ·subst e; exact h
   ·exact hok.out j (by omega)
  have hdk2 := Lib.hid (hdk.out k)
  have hgo2 := Lib.hid (hgo.out k)
  have hln := Lib.hid (last_num c p k)
  obtain ⟨VL, hvl⟩ := zgE (vs k)
  rw [← hvl] at c6 hL
  clear hvl hc hdk hgo hat hD DD hok
  obtain ⟨TL, cl, hVL, _⟩ := id hL
  subst hVL
  have NI1 := fun v (h : CalAt v A ca A' cb c) => inOrderR_any A A' ca cb c (Cal.lastT p k) (g k).on v h hv
  have NI2 := fun v (h : CalAt v A ca A' cb c) => inOrderR_any A A' ca cb c (g k).on p.b v h hv
  have NNK := fun w => isNameR_any (g k).w w
  have NCK := fun w h => chkLR_any (.slice TL (g k).l.length cl) (g k).l w h
  rw [decide_eq_true hpos, Bool.true_and] at NI1
  have hbs : wo.heap.size ≠ bl := by have := BL.lt; omega
  go_upto_region 8 with (fail)
  obtain ⟨vd1, hv⟩ := zgE (wo.alloc (.cells #[.int .i64 (g k).on.y, .int .i64 (g k).on.m, .bool (g k).on.s, .int .i64 (g k).on.d, .bool (g k).i, .string (g k).w, .slice TL (g k).l.length cl] 70))
  rw [← hv]
  have hx : Ext wo vd1 := by rw [hv]; exact (Ext.refl _).alloc _
  have BD : Held vd1 wo.heap.size 70 #[.int .i64 (g k).on.y, .int .i64 (g k).on.m, .bool (g k).on.s, .int .i64 (g k).on.d, .bool (g k).i, .string (g k).w, .slice TL (g k).l.length cl] := by rw [hv]; exact Held.new _ _ _
  clear hv
  generalize wo.heap.size = bb1 at *
  clear j0 j1 jl k0 k1 k2 k3 k4 k5 k6 k7 k8 k9 k10 k11 kl m0 m1 m2 m3 ml
  replace hE := hE.trans hx
  replace C := C.ext hx
  replace hL := hL.ext hx
  replace B1 := B1.ext hx
  replace B2 := B2.ext hx
  replace BL := BL.ext hx
  clear hx
  obtain ⟨j0, j1⟩ := B1.c2
  have jl := B1.lt
  obtain ⟨k0, k1, k2, k3, k4, k5, k6, k7, k8, k9, k10, k11⟩ := B2.c12
  have kl := B2.lt
  obtain ⟨m0, m1, m2, m3⟩ := BL.c4
  have ml := BL.lt
  obtain ⟨q0, q1, q2, q3, q4, q5, q6⟩ := held_c7 BD
  have ql := BD.lt
  clear c0 c1 c2 c3 c4 c5 c6 hb
  generalize hla : Cal.lastT p k = la at *
  clear hla
  by_cases h1 : c.numV la ≤ c.numV (g k).on
  rotate_left
  ·rw [decide_eq_false h1] at NI1
   have hr := hno.out (by rw [hdk2.out]; rw [← hln.out, decide_eq_true (show c.numV (g k).on < c.numV la by omega)]; rfl)
   subst hr
   clear hno hyes hdk2
   go_wp2_with (first | (go_at_call 61; (with_reducible refine Calls.mono (NI1 _ C) ?_); rintro e x1 ⟨rfl, hx⟩; replace hE := hE.trans hx; replace C := C.ext hx; replace hL := hL.ext hx; replace B1 := B1.ext hx; replace B2 := B2.ext hx; replace BL := BL.ext hx; replace BD := BD.ext hx; clear hx; clear j0 j1 jl k0 k1 k2 k3 k4 k5 k6 k7 k8 k9 k10 k11 kl m0 m1 m2 m3 ml q0 q1 q2 q3 q4 q5 q6 ql; obtain ⟨j0, j1⟩ := B1.c2; have jl := B1.lt; obtain ⟨k0, k1, k2, k3, k4, k5, k6, k7, k8, k9, k10, k11⟩ := B2.c12; have kl := B2.lt; obtain ⟨m0, m1, m2, m3⟩ := BL.c4; have ml := BL.lt; obtain ⟨q0, q1, q2, q3, q4, q5, q6⟩ := held_c7 BD; have ql := BD.lt))
   go_ret
   exact ⟨rfl, E.trans hE⟩
  rw [decide_eq_true h1] at NI1
  have hpk : 0 < c.numV (g k).on := by omega
  rw [decide_eq_true hpk, Bool.true_and] at NI2
  by_cases h2 : c.numV (g k).on ≤ c.numV p.b
  rotate_left
  ·rw [decide_eq_false h2] at NI2
   have hr := hno.out (by rw [hdk2.out]; rw [decide_eq_true (show c.numV p.b < c.numV (g k).on by omega)]; simp)
   subst hr
   clear hno hyes hdk2
   go_wp2_with (first | (go_at_call 61; (with_reducible refine Calls.mono (NI1 _ C) ?_); rintro e x1 ⟨rfl, hx⟩; replace hE := hE.trans hx; replace C := C.ext hx; replace hL := hL.ext hx; replace B1 := B1.ext hx; replace B2 := B2.ext hx; replace BL := BL.ext hx; replace BD := BD.ext hx; clear hx; clear j0 j1 jl k0 k1 k2 k3 k4 k5 k6 k7 k8 k9 k10 k11 kl m0 m1 m2 m3 ml q0 q1 q2 q3 q4 q5 q6 ql; obtain ⟨j0, j1⟩ := B1.c2; have jl := B1.lt; obtain ⟨k0, k1, k2, k3, k4, k5, k6, k7, k8, k9, k10, k11⟩ := B2.c12; have kl := B2.lt; obtain ⟨m0, m1, m2, m3⟩ := BL.c4; have ml := BL.lt; obtain ⟨q0, q1, q2, q3, q4, q5, q6⟩ := held_c7 BD; have ql := BD.lt) | (go_at_call 61; (with_reducible refine Calls.mono (NI2 _ C) ?_); rintro e x2 ⟨rfl, hx⟩; replace hE := hE.trans hx; replace C := C.ext hx; replace hL := hL.ext hx; replace B1 := B1.ext hx; replace B2 := B2.ext hx; replace BL := BL.ext hx; replace BD := BD.ext hx; clear hx; clear j0 j1 jl k0 k1 k2 k3 k4 k5 k6 k7 k8 k9 k10 k11 kl m0 m1 m2 m3 ml q0 q1 q2 q3 q4 q5 q6 ql; obtain ⟨j0, j1⟩ := B1.c2; have jl := B1.lt; obtain ⟨k0, k1, k2, k3, k4, k5, k6, k7, k8, k9, k10, k11⟩ := B2.c12; have kl := B2.lt; obtain ⟨m0, m1, m2, m3⟩ := BL.c4; have ml := BL.lt; obtain ⟨q0, q1, q2, q3, q4, q5, q6⟩ := held_c7 BD; have ql := BD.lt))
   go_ret
   exact ⟨rfl, E.trans hE⟩
  rw [decide_eq_true h2] at NI2
  cases h3 : isName (g k).w
  ·simp only [h3] at NNK
   have hr := hno.out (by rw [hdk2.out]; rw [h3]; simp)
   subst hr
   clear hno hyes hdk2
   go_wp2_with (first | (go_at_call 61; (with_reducible refine Calls.mono (NI1 _ C) ?_); rintro e x1 ⟨rfl, hx⟩; replace hE := hE.trans hx; replace C := C.ext hx; replace hL := hL.ext hx; replace B1 := B1.ext hx; replace B2 := B2.ext hx; replace BL := BL.ext hx; replace BD := BD.ext hx; clear hx; clear j0 j1 jl k0 k1 k2 k3 k4 k5 k6 k7 k8 k9 k10 k11 kl m0 m1 m2 m3 ml q0 q1 q2 q3 q4 q5 q6 ql; obtain ⟨j0, j1⟩ := B1.c2; have jl := B1.lt; obtain ⟨k0, k1, k2, k3, k4, k5, k6, k7, k8, k9, k10, k11⟩ := B2.c12; have kl := B2.lt; obtain ⟨m0, m1, m2, m3⟩ := BL.c4; have ml := BL.lt; obtain ⟨q0, q1, q2, q3, q4, q5, q6⟩ := held_c7 BD; have ql := BD.lt) | (go_at_call 61; (with_reducible refine Calls.mono (NI2 _ C) ?_); rintro e x2 ⟨rfl, hx⟩; replace hE := hE.trans hx; replace C := C.ext hx; replace hL := hL.ext hx; replace B1 := B1.ext hx; replace B2 := B2.ext hx; replace BL := BL.ext hx; replace BD := BD.ext hx; clear hx; clear j0 j1 jl k0 k1 k2 k3 k4 k5 k6 k7 k8 k9 k10 k11 kl m0 m1 m2 m3 ml q0 q1 q2 q3 q4 q5 q6 ql; obtain ⟨j0, j1⟩ := B1.c2; have jl := B1.lt; obtain ⟨k0, k1, k2, k3, k4, k5, k6, k7, k8, k9, k10, k11⟩ := B2.c12; have kl := B2.lt; obtain ⟨m0, m1, m2, m3⟩ := BL.c4; have ml := BL.lt; obtain ⟨q0, q1, q2, q3, q4, q5, q6⟩ := held_c7 BD; have ql := BD.lt) | (go_at_call 69; (with_reducible refine Calls.mono (NNK _) ?_); rintro e _ ⟨rfl, rfl⟩))
   go_ret
   exact ⟨rfl, E.trans hE⟩
  simp only [h3] at NNK
  by_cases h4 : (g k).w = p.h
  ·have g4 : ((g k).w.toList == p.h.toList) = true := by rw [h4]; exact beq_self_eq_true _
   have hr := hno.out (by rw [hdk2.out]; rw [decide_eq_true h4]; simp)
   subst hr
   clear hno hyes hdk2
   clear h4
   go_wp2_with (first | (go_at_call 61; (with_reducible refine Calls.mono (NI1 _ C) ?_); rintro e x1 ⟨rfl, hx⟩; replace hE := hE.trans hx; replace C := C.ext hx; replace hL := hL.ext hx; replace B1 := B1.ext hx; replace B2 := B2.ext hx; replace BL := BL.ext hx; replace BD := BD.ext hx; clear hx; clear j0 j1 jl k0 k1 k2 k3 k4 k5 k6 k7 k8 k9 k10 k11 kl m0 m1 m2 m3 ml q0 q1 q2 q3 q4 q5 q6 ql; obtain ⟨j0, j1⟩ := B1.c2; have jl := B1.lt; obtain ⟨k0, k1, k2, k3, k4, k5, k6, k7, k8, k9, k10, k11⟩ := B2.c12; have kl := B2.lt; obtain ⟨m0, m1, m2, m3⟩ := BL.c4; have ml := BL.lt; obtain ⟨q0, q1, q2, q3, q4, q5, q6⟩ := held_c7 BD; have ql := BD.lt) | (go_at_call 61; (with_reducible refine Calls.mono (NI2 _ C) ?_); rintro e x2 ⟨rfl, hx⟩; replace hE := hE.trans hx; replace C := C.ext hx; replace hL := hL.ext hx; replace B1 := B1.ext hx; replace B2 := B2.ext hx; replace BL := BL.ext hx; replace BD := BD.ext hx; clear hx; clear j0 j1 jl k0 k1 k2 k3 k4 k5 k6 k7 k8 k9 k10 k11 kl m0 m1 m2 m3 ml q0 q1 q2 q3 q4 q5 q6 ql; obtain ⟨j0, j1⟩ := B1.c2; have jl := B1.lt; obtain ⟨k0, k1, k2, k3, k4, k5, k6, k7, k8, k9, k10, k11⟩ := B2.c12; have kl := B2.lt; obtain ⟨m0, m1, m2, m3⟩ := BL.c4; have ml := BL.lt; obtain ⟨q0, q1, q2, q3, q4, q5, q6⟩ := held_c7 BD; have ql := BD.lt) | (go_at_call 69; (with_reducible refine Calls.mono (NNK _) ?_); rintro e _ ⟨rfl, rfl⟩))
   go_ret
   exact ⟨rfl, E.trans hE⟩
  have g4 : ((g k).w.toList == p.h.toList) = false := beq_eq_false_iff_ne.2 fun h => h4 (toList_inj h)
  have hgv : Hid (givenV (g k).l = (decide (0 < (g k).l.length) && decide (lotsEL (g k).l = 0) && !((g k).l.any fun x => decide (x.n < 0)))) := rfl
  by_cases h5 : (g k).l.length = 0
  ·have g5 : (((g k).l.length : Int) == 0) = true := by rw [h5]; rfl
   have g5' : ((g k).l.length == 0) = true := by rw [h5]; rfl
   have hr := hno.out (by rw [hdk2.out]; rw [show givenV (g k).l = false by rw [hgv.out, h5]; rfl]; simp)
   subst hr
   clear hno hyes hdk2
   go_wp2_with (first | (go_at_call 61; (with_reducible refine Calls.mono (NI1 _ C) ?_); rintro e x1 ⟨rfl, hx⟩; replace hE := hE.trans hx; replace C := C.ext hx; replace hL := hL.ext hx; replace B1 := B1.ext hx; replace B2 := B2.ext hx; replace BL := BL.ext hx; replace BD := BD.ext hx; clear hx; clear j0 j1 jl k0 k1 k2 k3 k4 k5 k6 k7 k8 k9 k10 k11 kl m0 m1 m2 m3 ml q0 q1 q2 q3 q4 q5 q6 ql; obtain ⟨j0, j1⟩ := B1.c2; have jl := B1.lt; obtain ⟨k0, k1, k2, k3, k4, k5, k6, k7, k8, k9, k10, k11⟩ := B2.c12; have kl := B2.lt; obtain ⟨m0, m1, m2, m3⟩ := BL.c4; have ml := BL.lt; obtain ⟨q0, q1, q2, q3, q4, q5, q6⟩ := held_c7 BD; have ql := BD.lt) | (go_at_call 61; (with_reducible refine Calls.mono (NI2 _ C) ?_); rintro e x2 ⟨rfl, hx⟩; replace hE := hE.trans hx; replace C := C.ext hx; replace hL := hL.ext hx; replace B1 := B1.ext hx; replace B2 := B2.ext hx; replace BL := BL.ext hx; replace BD := BD.ext hx; clear hx; clear j0 j1 jl k0 k1 k2 k3 k4 k5 k6 k7 k8 k9 k10 k11 kl m0 m1 m2 m3 ml q0 q1 q2 q3 q4 q5 q6 ql; obtain ⟨j0, j1⟩ := B1.c2; have jl := B1.lt; obtain ⟨k0, k1, k2, k3, k4, k5, k6, k7, k8, k9, k10, k11⟩ := B2.c12; have kl := B2.lt; obtain ⟨m0, m1, m2, m3⟩ := BL.c4; have ml := BL.lt; obtain ⟨q0, q1, q2, q3, q4, q5, q6⟩ := held_c7 BD; have ql := BD.lt) | (go_at_call 69; (with_reducible refine Calls.mono (NNK _) ?_); rintro e _ ⟨rfl, rfl⟩))
   go_ret
   exact ⟨rfl, E.trans hE⟩
  have g5 : (((g k).l.length : Int) == 0) = false := beq_eq_false_iff_ne.2 (by omega)
  have g5' : ((g k).l.length == 0) = false := beq_eq_false_iff_ne.2 h5
  by_cases h6 : lotsEL (g k).l = 0
  rotate_left
  ·have g6 : (lotsEL (g k).l == 0) = false := beq_eq_false_iff_ne.2 h6
   have g6n : (lotsEL (g k).l != 0) = true := by rw [bne, g6]; rfl
   have hr := hno.out (by rw [hdk2.out]; rw [show givenV (g k).l = false by rw [hgv.out, decide_eq_false h6]; simp]; simp)
   subst hr
   clear hno hyes hdk2
   go_wp2_with (first | (go_at_call 61; (with_reducible refine Calls.mono (NI1 _ C) ?_); rintro e x1 ⟨rfl, hx⟩; replace hE := hE.trans hx; replace C := C.ext hx; replace hL := hL.ext hx; replace B1 := B1.ext hx; replace B2 := B2.ext hx; replace BL := BL.ext hx; replace BD := BD.ext hx; clear hx; clear j0 j1 jl k0 k1 k2 k3 k4 k5 k6 k7 k8 k9 k10 k11 kl m0 m1 m2 m3 ml q0 q1 q2 q3 q4 q5 q6 ql; obtain ⟨j0, j1⟩ := B1.c2; have jl := B1.lt; obtain ⟨k0, k1, k2, k3, k4, k5, k6, k7, k8, k9, k10, k11⟩ := B2.c12; have kl := B2.lt; obtain ⟨m0, m1, m2, m3⟩ := BL.c4; have ml := BL.lt; obtain ⟨q0, q1, q2, q3, q4, q5, q6⟩ := held_c7 BD; have ql := BD.lt) | (go_at_call 61; (with_reducible refine Calls.mono (NI2 _ C) ?_); rintro e x2 ⟨rfl, hx⟩; replace hE := hE.trans hx; replace C := C.ext hx; replace hL := hL.ext hx; replace B1 := B1.ext hx; replace B2 := B2.ext hx; replace BL := BL.ext hx; replace BD := BD.ext hx; clear hx; clear j0 j1 jl k0 k1 k2 k3 k4 k5 k6 k7 k8 k9 k10 k11 kl m0 m1 m2 m3 ml q0 q1 q2 q3 q4 q5 q6 ql; obtain ⟨j0, j1⟩ := B1.c2; have jl := B1.lt; obtain ⟨k0, k1, k2, k3, k4, k5, k6, k7, k8, k9, k10, k11⟩ := B2.c12; have kl := B2.lt; obtain ⟨m0, m1, m2, m3⟩ := BL.c4; have ml := BL.lt; obtain ⟨q0, q1, q2, q3, q4, q5, q6⟩ := held_c7 BD; have ql := BD.lt) | (go_at_call 69; (with_reducible refine Calls.mono (NNK _) ?_); rintro e _ ⟨rfl, rfl⟩) | (go_at_call 55; (with_reducible refine Calls.mono (NCK _ hL) ?_); rintro e x4 ⟨rfl, hx⟩; replace hE := hE.trans hx; replace C := C.ext hx; replace hL := hL.ext hx; replace B1 := B1.ext hx; replace B2 := B2.ext hx; replace BL := BL.ext hx; replace BD := BD.ext hx; clear hx; clear j0 j1 jl k0 k1 k2 k3 k4 k5 k6 k7 k8 k9 k10 k11 kl m0 m1 m2 m3 ml q0 q1 q2 q3 q4 q5 q6 ql; obtain ⟨j0, j1⟩ := B1.c2; have jl := B1.lt; obtain ⟨k0, k1, k2, k3, k4, k5, k6, k7, k8, k9, k10, k11⟩ := B2.c12; have kl := B2.lt; obtain ⟨m0, m1, m2, m3⟩ := BL.c4; have ml := BL.lt; obtain ⟨q0, q1, q2, q3, q4, q5, q6⟩ := held_c7 BD; have ql := BD.lt))
   go_ret
   exact ⟨rfl, E.trans hE⟩
  rw [h6] at NCK
  have hdk3 : Hid (c.dealOk p k = !((g k).l.any fun x => decide (x.n < 0))) := by
   unfold Hid
   rw [hdk2.out, ← hln.out, decide_eq_false (show ¬ c.numV (g k).on < c.numV la by omega), decide_eq_false (show ¬ c.numV p.b < c.numV (g k).on by omega), h3, decide_eq_false h4, hgv.out, decide_eq_true (show 0 < (g k).l.length by omega), decide_eq_true h6]
   simp
  clear hdk2 hgv h1 h2 h3 h4 h5 h6 hln
  go_upto_region 11 with (first | (go_at_call 61; (with_reducible refine Calls.mono (NI1 _ C) ?_); rintro e x1 ⟨rfl, hx⟩; replace hE := hE.trans hx; replace C := C.ext hx; replace hL := hL.ext hx; replace B1 := B1.ext hx; replace B2 := B2.ext hx; replace BL := BL.ext hx; replace BD := BD.ext hx; clear hx; clear j0 j1 jl k0 k1 k2 k3 k4 k5 k6 k7 k8 k9 k10 k11 kl m0 m1 m2 m3 ml q0 q1 q2 q3 q4 q5 q6 ql; obtain ⟨j0, j1⟩ := B1.c2; have jl := B1.lt; obtain ⟨k0, k1, k2, k3, k4, k5, k6, k7, k8, k9, k10, k11⟩ := B2.c12; have kl := B2.lt; obtain ⟨m0, m1, m2, m3⟩ := BL.c4; have ml := BL.lt; obtain ⟨q0, q1, q2, q3, q4, q5, q6⟩ := held_c7 BD; have ql := BD.lt) | (go_at_call 61; (with_reducible refine Calls.mono (NI2 _ C) ?_); rintro e x2 ⟨rfl, hx⟩; replace hE := hE.trans hx; replace C := C.ext hx; replace hL := hL.ext hx; replace B1 := B1.ext hx; replace B2 := B2.ext hx; replace BL := BL.ext hx; replace BD := BD.ext hx; clear hx; clear j0 j1 jl k0 k1 k2 k3 k4 k5 k6 k7 k8 k9 k10 k11 kl m0 m1 m2 m3 ml q0 q1 q2 q3 q4 q5 q6 ql; obtain ⟨j0, j1⟩ := B1.c2; have jl := B1.lt; obtain ⟨k0, k1, k2, k3, k4, k5, k6, k7, k8, k9, k10, k11⟩ := B2.c12; have kl := B2.lt; obtain ⟨m0, m1, m2, m3⟩ := BL.c4; have ml := BL.lt; obtain ⟨q0, q1, q2, q3, q4, q5, q6⟩ := held_c7 BD; have ql := BD.lt) | (go_at_call 69; (with_reducible refine Calls.mono (NNK _) ?_); rintro e _ ⟨rfl, rfl⟩) | (go_at_call 55; (with_reducible refine Calls.mono (NCK _ hL) ?_); rintro e x4 ⟨rfl, hx⟩; replace hE := hE.trans hx; replace C := C.ext hx; replace hL := hL.ext hx; replace B1 := B1.ext hx; replace B2 := B2.ext hx; replace BL := BL.ext hx; replace BD := BD.ext hx; clear hx; clear j0 j1 jl k0 k1 k2 k3 k4 k5 k6 k7 k8 k9 k10 k11 kl m0 m1 m2 m3 ml q0 q1 q2 q3 q4 q5 q6 ql; obtain ⟨j0, j1⟩ := B1.c2; have jl := B1.lt; obtain ⟨k0, k1, k2, k3, k4, k5, k6, k7, k8, k9, k10, k11⟩ := B2.c12; have kl := B2.lt; obtain ⟨m0, m1, m2, m3⟩ := BL.c4; have ml := BL.lt; obtain ⟨q0, q1, q2, q3, q4, q5, q6⟩ := held_c7 BD; have ql := BD.lt))
  clear j0 j1 jl k0 k1 k2 k3 k4 k5 k6 k7 k8 k9 k10 k11 kl m0 m1 m2 m3 ml q0 q1 q2 q3 q4 q5 q6 ql
  clear NI1 NI2 NNK NCK g4 g5 g5'
  obtain ⟨TL', cl', hTL, hTR, hcl, hclm, _⟩ := id hL
  obtain ⟨rfl, rfl⟩ : TL = TL' ∧ cl = cl' := by simpa using hTL
  clear hTL
  generalize g k = G at *
  have hl63 : G.l.length ≤ 9223372036854775807 := Nat.le_trans hcl (Nat.le_trans hclm (by decide))
  have hEx := hE
  go_loopw [8] (fun iv wr => ∃ j : Nat, j ≤ G.l.length ∧ iv = .int .i64 j ∧ Hid (∀ i, i < j → 0 ≤ (ofL G.l i).n) ∧ Ext x4 wr) (fun iv _ => G.l.length - (intOf iv).toNat)
  case atStart => exact ⟨0, Nat.zero_le _, rfl, (fun i h => absurd h (by omega)), Ext.refl _⟩
  case round =>
   obtain ⟨j, hj, rfl, hnn, hEj⟩ := hrel
   obtain ⟨wi, rfl⟩ := zgE wr
   have BDi := BD.ext hEj
   have BLi := BL.ext hEj
   obtain ⟨q0, q1, q2, q3, q4, q5, q6⟩ := held_c7Q BDi
   have ql := Held.lt BDi
   by_cases hlj : j < G.l.length
   ·obtain ⟨b2, off2, rfl, hb2, hc2⟩ := (hTR.ext hEj) (by omega)
    have d1 : wi.cell? ⟨b2, off2 + j * 2 + 1, none⟩ = some (.int .i64 (ofL G.l j).n) := by simpa [lotr] using hc2 j 1 _ hlj rfl
    have hin2 : j < G.l.length := hlj
    clear hc2
    by_cases hneg : (ofL G.l j).n < 0
    ·have g7 : decide ((ofL G.l j).n < 0) = true := decide_eq_true hneg
     have hany : (G.l.any fun x => decide (x.n < 0)) = true := any_ofLQ hlj hneg
     have hr := hno.out (by rw [hdk3.out, hany]; rfl)
     subst hr
     clear hno hyes hdk3 hany hneg hnn
     go_wp2
     go_ret
     exact ⟨rfl, E.trans (hE.trans hEj)⟩
    ·have g7 : decide ((ofL G.l j).n < 0) = false := decide_eq_false hneg
     have hnn2 : Hid (∀ i, i < j + 1 → 0 ≤ (ofL G.l i).n) := fun i hi => by
      by_cases e : i = j
      ·subst e; omega
      ·exact hnn.out i (by omega)
     clear hno hyes hdk3 hneg hnn
     go_wp2
     exact ⟨⟨j + 1, by omega, by go_num, hnn2, hEj⟩, by simp [intOf]; omega⟩
   ·obtain rfl : j = G.l.length := by omega
    have hany : (G.l.any fun x => decide (x.n < 0)) = false := none_ofLQ (fun i hi => hnn.out i hi)
    have hnx := Lib.hid (hyes.out (by rw [hdk3.out, hany]; rfl))
    clear hno hyes hdk3 hany hnn
    obtain ⟨f0, f1, f2, f3⟩ : (_ ∧ _ ∧ _ ∧ _) := ⟨BLi.frozen 0, BLi.frozen 1, BLi.frozen 2, BLi.frozen 3⟩
    obtain ⟨m0, m1, m2, m3⟩ := BLi.c4
    have ml := BLi.lt
    have X := held4_allQ BLi (.int .i64 G.on.y) (.int .i64 G.on.m) (.bool G.on.s) (.int .i64 G.on.d)
    have E4 := ext4Q (hE.trans hEj) hE5 (.int .i64 G.on.y) (.int .i64 G.on.m) (.bool G.on.s) (.int .i64 G.on.d)
    have hps : 0 < c.numV (Cal.lastT p (k + 1)) := by rw [← hgo2.out]; exact hpk
    clear hpk
    go_wp2
    exact ⟨⟨k + 1, by omega, by go_num, hnx, hps, E4, by rw [← hgo2.out]; exact X⟩, by simp [intOf]; omega⟩
end Go.Proofs.YtneiofnlmblglaaGreatDoor
