/- The walk of LedgerRationsGiven. -/
import Derived.Test.YtneiofnlmblglaaGreatDoorM12
import Derived.Test.YtneiofnlmblglaaGreatDoorM13
set_option maxRecDepth 100000
set_option maxHeartbeats 4000000
namespace Go.Proofs.YtneiofnlmblglaaGreatDoor
open Go Go.RowKit Go.Shelf
attribute [local go_sem] gv_yes
theorem info_clsQ : (Tryz.prog.info? 49).map (fun i => (i.zero, i.size, i.bytes)) = some (some (.agg #[.int .i64 0, .slice none 0 0]), 2, 32) := by kernel_rfl
theorem cells_clsQ (x : Cls) (F : Option Addr) (n m : Nat) : ∀ u ∈ clsr x (.slice F n m), u.oneCell' = true := by simp [clsr, Value.oneCell']
/-- Classes in an own row, each with lots in an own row. -/
def ClsOwn (W : World) (b : Nat) (v : Value) (n : Nat) (g : Nat → Cls) : Prop := ∃ vs : Nat → Value, W.ownsRow b 49 2 v n (flatL (fun i => clsr (g i) (vs i)) n) ∧ ∀ i, i < n → LotsOwn W b (vs i) (g i).l
theorem cls_nil (W : World) (b : Nat) (g : Nat → Cls) : ClsOwn W b (.slice none 0 0) 0 g := ⟨fun _ => .slice none 0 0, World.ownsRow_nil _ _ _ _, fun i h => absurd h (by omega)⟩
theorem clsAt_own {W : World} {b : Nat} {v : Value} {l : List Cls} (h : ClsOwn W b v l.length (fun i => l.getD i zCls)) : ClsAt W v l := by
 obtain ⟨vs, h1, h2⟩ := h
 obtain ⟨F, c, g1, g2, g3, g4, g5, _⟩ := flat_rows (f := fun i => clsr (l.getD i zCls) (vs i)) (fun _ => rfl) h1
 exact ⟨F, c, vs, g1, g2, g3, g4, g5, fun i hi => lotsAt_own (h2 i hi)⟩
theorem cls_push {W w1 : World} {b k : Nat} {v v' vl : Value} {g : Nat → Cls} {vs : Nat → Value} {ob : Obj} (hO : W.ownsRow b 49 2 v k (flatL (fun i => clsr (g i) (vs i)) k)) (hL : ∀ i, i < k → LotsOwn W b (vs i) (g i).l) (hl : LotsOwn W b vl (g k).l)
  (hown : w1.ownsRow b 49 2 v' (k + 1) (flatL (fun i => clsr (g i) (vs i)) k ++ clsr (g k) vl)) (hgrow : (W.alloc ob).grownBy w1 v.ownBlock) : ClsOwn w1 b v' (k + 1) g := by
 have keep : ∀ {u : Value} {l : List Lt}, LotsOwn W b u l → LotsOwn w1 b u l := fun h => (World.ownsRow.alloc h ob).kept hgrow (own_apart h hO (by decide))
 refine ⟨fun i => if i = k then vl else vs i, ?_, fun i hi => ?_⟩
 ·rw [flatL_succ, flatL_congr (f' := fun i => clsr (g i) (vs i)) k (fun i hi => by simp [show i ≠ k by omega])]
  simpa using hown
 ·by_cases e : i = k
  ·subst e; simpa using keep hl
  ·simpa [e] using keep (hL i (by omega))
set_option maxHeartbeats 20000000 in
theorem ledgerRationsGiven_walk (v : Value) (L : List Cls) (m : Int) (w : World) (hC : ClsAt w v L) (hsl : ∀ i, i < L.length → (L.getD i zCls).l.length * 24 ≤ 140737488351232) (hsd : L.length * 32 ≤ 140737488351232) (hZ : Zro w) :
  Calls Tryz.prog 5 #[v, .int .i64 m] w fun e w' => e = .returned (.bool true) ∧ Ext w w' := by
 obtain ⟨i0, hi, hz0, hz1, hz2⟩ := info_parts info_clsQ
 obtain ⟨D, cap, vs, rfl, hD, hcap, hmax, _, hat0⟩ := id hC
 have hat := Lib.hid hat0
 have hn : L.length ≤ 9223372036854775807 := Nat.le_trans hcap (Nat.le_trans hmax (by decide))
 obtain ⟨g, hg⟩ := zgE (fun i => L.getD i zCls)
 have hg' : ∀ i, L.getD i zCls = g i := fun i => by rw [hg]
 have hgl := Lib.hid hg
 have NR1 := fun v w h => rations_any v L m w h
 have NR2 := fun v w h => rationsR_any v L m w h
 simp only [hg'] at hD hat hsl
 replace hsl := Lib.hid hsl
 clear hg hg' hmax hat0
 generalize ratnV L m = V at *
 obtain ⟨S, Se⟩ := V
 simp only at NR1 NR2
 have N6 := fun v1 v2 w h1 h2 => sameLotsR_any v1 v2 S w h1 h2
 go_enter Tryz.func5, Tryz.ntmps5
 go_upto_region 3 with (fail)
 go_loopw [5, 6] (fun ov iv wr => ∃ k : Nat, k ≤ L.length ∧ iv = .int .i64 k ∧ ClsOwn wr w.heap.size ov k g ∧ Ext w wr) (fun _ i _ => L.length - (intOf i).toNat)
 case atStart => exact ⟨0, Nat.zero_le _, rfl, cls_nil _ _ _, Ext.refl _⟩
 case round =>
  obtain ⟨k, hk, rfl, ⟨vs', hO, hLo0⟩, hE⟩ := hrel
  have hLo := Lib.hid hLo0
  clear hLo0
  obtain ⟨wo, rfl⟩ := zgE wr
  obtain ⟨FO, mO, rfl⟩ := own_sl hO
  by_cases hlt : k < L.length
  ·obtain ⟨b, off, rfl, hb, hc⟩ := (hD.ext hE) (by omega)
   have c0 : wo.cell? ⟨b, off + k * 2, none⟩ = some (.int .i64 (g k).k) := by simpa [clsr] using hc k 0 _ hlt rfl
   have c1 : wo.cell? ⟨b, off + k * 2 + 1, none⟩ = some (vs k) := by simpa [clsr] using hc k 1 _ hlt rfl
   have HL := (hat.out k hlt).ext hE
   have hs := hsl.out k hlt
   obtain ⟨VL, hvl⟩ := zgE (vs k)
   rw [← hvl] at c1 HL
   clear hc hvl hC hD hat hsl NR1 NR2 N6 hgl
   obtain ⟨TL, cl, hVL, _⟩ := id HL
   subst hVL
   obtain ⟨x, hx0⟩ := zgE (g k)
   rw [← hx0] at c0 c1 HL hs
   have hx := Lib.hid hx0
   clear hx0
   have NC := fun w h => copyLotsO_any (.slice TL x.l.length cl) x.l w h hs
   have hlen := flatL_len (f := fun i => clsr (g i) (vs' i)) (sz := 2) (fun _ => rfl) k
   go_upto_region 5 with (fail)
   refine wp_region_z 16 [14, 15] (fun x => Ext wo x) mixed rfl ?_
   intro va hva
   have HC := hva
   refine z_stills (g := 5) [0, 1, 2, 3, 4, 5, 6, 7, 8, 9, 10] [_, _, _, _, _, _, _, _, _, _, _] ⟨rfl, rfl, rfl, rfl, rfl, rfl, rfl, rfl, rfl, rfl, rfl, trivial⟩ (by kernel_rfl) (by kernel_rfl) HC ?_
   simp only [zgA, zgB, zgC]
   apply Exists.intro
   refine ⟨fun u hu => ?_, ?_⟩
   ·have r0 := (hu.cell (p := ⟨b, off + k * 2, none⟩) hb).trans c0
    have r1 := (hu.cell (p := ⟨b, off + k * 2 + 1, none⟩) hb).trans c1
    have rl := Nat.lt_of_lt_of_le hb hu.size
    repeat (first | go_big_quiet_skip | (go_big_quiet_want; go_big_quiet_op; go_big_quiet_on))
    refine wpQuiet_nil ?_
    rfl
   refine z_one 11 rfl (by kernel_rfl) ?_
   simp only [zgA, zgB, zgC]
   go_wp2_with (go_at_call 20; (with_reducible refine Calls.mono (NC _ (HL.ext HC)) ?_); rintro e w4 ⟨vl, rfl, h4, hS⟩; obtain ⟨F0, m0, rfl⟩ := own_sl hS)
   replace HC := HC.trans h4
   replace hO := owns_ext hO HC
   have hS3 : LotsOwn w4 w.heap.size (.slice F0 x.l.length m0) x.l := own_le hS (Nat.le_trans hE.size hva.size)
   have hLs : ∀ i, i < k → LotsOwn w4 w.heap.size (vs' i) (g i).l := fun i hi => owns_ext (hLo.out i hi) HC
   clear h4 hS
   refine onQ_in HC ?_
   refine z_stills (g := 3) [12] [_] ⟨rfl, trivial⟩ (by kernel_rfl) (by kernel_rfl) HC ?_
   simp only [zgA, zgB, zgC]
   apply Exists.intro
   refine ⟨fun u hu => ?_, ?_⟩
   ·have r0 := (hu.cell (p := ⟨b, off + k * 2, none⟩) hb).trans c0
    have r1 := (hu.cell (p := ⟨b, off + k * 2 + 1, none⟩) hb).trans c1
    have rl := Nat.lt_of_lt_of_le hb hu.size
    repeat (first | go_big_quiet_skip | (go_big_quiet_want; go_big_quiet_op; go_big_quiet_on))
    refine wpQuiet_nil ?_
    rfl
   refine z_one 13 rfl (by kernel_rfl) ?_
   simp only [zgA, zgB, zgC]
   go_wp2
   have HC4 := HC
   replace HC := HC.alloc (.cells #[.int .i64 x.k, .slice F0 x.l.length m0] 49)
   refine onQ_in HC ?_
   refine z_end 14 rfl (by kernel_rfl) ?_
   simp only [zgA, zgB, zgC]
   go_wp2_with (at_builtin; refine wpList_append_own_at _ rfl _ _ 47 rfl w.heap.size 49 i0 (.agg #[.int .i64 0, .slice none 0 0]) 2 32 Tryz.underlying47 hi hz0 hz1 hz2 rfl (by decide) _ _ _ rfl (hO.alloc _) ⟨w4.heap.size, 0, none⟩ 1 1 (clsr x (.slice F0 x.l.length m0)) rfl rfl (cells_newL _ _ _) (cells_clsQ _ _ _ _) (by unfold maxLen; omega) (by omega) (by have := (hE.trans HC4).size; simp; omega) ?_; intro o' w5 hown hgrow _ _)
   refine onQ_last ?_
   refine z_end 15 rfl (by kernel_rfl) ?_
   simp only [zgA, zgB, zgC]
   go_wp2
   refine onQ_last ?_
   refine z_done (by kernel_rfl) ?_
   skip
   have E5 : Ext w w5 := ((hE.trans HC4).alloc _).grown hgrow (fun q hq => (hO.lt q hq).1)
   rw [hx.out] at hown hS3
   have D5 := cls_push hO hLs hS3 hown hgrow
   clear hgrow hown hO hLs hS3 hx
   go_wp2
   exact ⟨⟨k + 1, by omega, by go_num, D5, E5⟩, by simp [intOf]; omega⟩
  ·obtain rfl : k = L.length := by omega
   have OW : ClsAt wo (.slice FO L.length mO) L := clsAt_own (by rw [← hgl.out]; exact ⟨vs', hO, hLo.out⟩)
   clear hO hLo hsl hi hz0 hz1 hz2
   go_upto_region 8 with (first | (go_at_call 21; (with_reducible refine Calls.mono (NR1 _ _ OW) ?_); rintro e w1 ⟨r1, rfl, h1, L1⟩; obtain ⟨R1, Q1, e1, _⟩ := id L1; subst e1) | (go_at_call 22; (with_reducible refine Calls.mono (NR2 _ _ (hC.ext (hE.trans h1))) ?_); rintro e w2 ⟨r2, rfl, h2, L2⟩; obtain ⟨R2, Q2, e1, _⟩ := id L2; subst e1))
   obtain ⟨FO', mO', vs2, hF, RO, _, _, _, hato⟩ := OW.ext (h1.trans h2)
   obtain ⟨rfl, rfl⟩ : FO = FO' ∧ mO = mO' := by simpa using hF
   have hg' : ∀ i, L.getD i zCls = g i := fun i => by rw [hgl.out]
   simp only [hg'] at RO hato
   clear hg' hF NR1 NR2
   have hat2 := Lib.hid hato
   have E0 := hE.trans (h1.trans h2)
   have RD := hD.ext E0
   have Z := hZ.ext E0
   clear hato OW hC hZ hD
   go_upto_region 9 with (fail)
   go_loopw [11] (fun iv wr => ∃ i : Nat, i ≤ L.length ∧ iv = .int .i64 i ∧ Ext w2 wr) (fun iv _ => L.length - (intOf iv).toNat)
   case atStart => exact ⟨0, Nat.zero_le _, rfl, Ext.refl _⟩
   case round =>
    clear hE
    obtain ⟨i, hi, rfl, hE⟩ := hrel
    obtain ⟨wi, rfl⟩ := zgE wr
    by_cases hlt2 : i < L.length
    ·obtain ⟨b, off, rfl, hb, hc⟩ := (RD.ext hE) (by omega)
     have c0 : wi.cell? ⟨b, off + i * 2, none⟩ = some (.int .i64 (g i).k) := by simpa [clsr] using hc i 0 _ hlt2 rfl
     have c1 : wi.cell? ⟨b, off + i * 2 + 1, none⟩ = some (vs i) := by simpa [clsr] using hc i 1 _ hlt2 rfl
     clear hc
     obtain ⟨b2, off2, rfl, hb2, hc⟩ := (RO.ext hE) (by omega)
     have d0 : wi.cell? ⟨b2, off2 + i * 2, none⟩ = some (.int .i64 (g i).k) := by simpa [clsr] using hc i 0 _ hlt2 rfl
     have d1 : wi.cell? ⟨b2, off2 + i * 2 + 1, none⟩ = some (vs2 i) := by simpa [clsr] using hc i 1 _ hlt2 rfl
     clear hc
     have HL := (hat.out i hlt2).ext (E0.trans hE)
     have HL2 := (hat2.out i hlt2).ext hE
     generalize vs i = VL at *
     generalize vs2 i = VL2 at *
     generalize g i = x at *
     obtain ⟨TL, cl, hVL, _⟩ := id HL
     subst hVL
     obtain ⟨TL2, cl2, hVL, _⟩ := id HL2
     subst hVL
     have NS := fun w h1 h2 => sameLotsR_any (.slice TL2 x.l.length cl2) (.slice TL x.l.length cl) x.l w h1 h2
     clear hat hat2 RD RO
     go_upto_region 11 with (fail)
     refine wp_region_xw wi mixed (by kernel_rfl) (by repeat (first | exact Ext.refl _ | (refine Ext.alloc ?_ _) | (refine Ext.trans ?_ (by assumption)))) ?_
     intro hne hrx hry
     try simp only []
     try simp only [List.append_eq, List.cons_append, List.nil_append]
     skip
     repeat (first
      | go_big_quiet_skip
      | (go_big_quiet_want; go_big_quiet_op; go_big_quiet_on)
      | (go_big_quiet_want; go_big_quiet_op; apply Exists.intro; refine ⟨fun u => ?_, ?_⟩
         ·first
           | (go_at_call 13; (with_reducible refine Calls.mono (NS _ (HL2.ext u.e) (HL.ext u.e)) ?_); rintro e w' ⟨rfl, hb⟩; exact ⟨rfl, u.back hb⟩)
         go_big_quiet_on))
     clear hne hry hrx
     refine wpQuiet_nil ?_
     intro w7 hx
     obtain ⟨hcw7, hfw7, hzw7⟩ := Ext.rules hx
     try simp only [World.size_alloc] at hzw7
     obtain ⟨hcbw7, hfbw7, hzbw7⟩ := Ext.rules (show Ext wi w7 from (by repeat (first | exact Ext.refl _ | (refine Ext.alloc ?_ _) | (refine Ext.trans ?_ (by assumption)))))
     clear hcw7 hfw7
     go_wp2
     exact ⟨⟨i + 1, by omega, by go_num, hE.trans hx⟩, by simp [intOf]; omega⟩
    ·obtain rfl : i = L.length := by omega
     clear hat hat2 RD RO
     go_wp2_with (first | (go_at_call 13; (with_reducible refine Calls.mono (N6 _ _ _ (L1.ext (h2.trans hE)) (L2.ext hE)) ?_); rintro e w6 ⟨rfl, h6⟩) | (go_at_call 15; (with_reducible refine Calls.mono (works8_any _ (Z.ext (hE.trans h6))) ?_); rintro e wk ⟨rfl, hk⟩))
     go_ret
     exact ⟨rfl, ((E0.trans hE).trans h6).trans hk⟩
end Go.Proofs.YtneiofnlmblglaaGreatDoor