/- Walks of the program's functions and plain facts, packed; proved: the lemmas below; no conditions but those that each states. -/
import Derived.Test.YthmjpbafbohelaaDoorK1
import Derived.Maps.Own
import Derived.Maps.Views
import Derived.DeepKeys4
import Derived.Sort.CutIn
import Derived.Shelf.Abstract
import Derived.Shelf.RegionOpen
namespace Go.Proofs.YthmjpbafbohelaaDoor
open Go Go.RowKit
attribute [local go_sem] gv_yes

def hadF (f : Nat → Yr) (y : Yr) (n : Nat) : Bool := (List.range n).any fun j => (f j).alike y
def NoTwin (f : Nat → ByteArray) (k : Nat) : Prop := ∀ i j, j < i → i < k → f j ≠ f i
def NameAll (f : Nat → ByteArray) (k : Nat) : Bool := (List.range k).all fun i => isName (f i)
theorem kingsOk_twin {c : Cal} {j k : Nat} (hk : k < c.nk) (hj : j < k) (h : c.kg j = c.kg k) : c.kingsOk = false := by
  rw [Bool.eq_false_iff]
  intro hh
  simp only [Cal.kingsOk, Bool.and_eq_true, List.all_eq_true, List.mem_range] at hh
  have h1 := hh.2 k hk
  simp only [Cal.kingOk, Bool.and_eq_true, List.all_eq_true, List.mem_range, decide_eq_true_eq] at h1
  exact h1.2 j hj h
theorem kingsOk_apart {c : Cal} (h : NoTwin c.kg c.nk) : c.kingsOk = (decide (1 ≤ (c.nk : Int)) && decide ((c.nk : Int) ≤ 40) && NameAll c.kg c.nk) := by
  have e : (List.range c.nk).all c.kingOk = NameAll c.kg c.nk := by
    rw [NameAll, Bool.eq_iff_iff]
    simp only [List.all_eq_true, List.mem_range, Cal.kingOk, Bool.and_eq_true, decide_eq_true_eq]
    exact ⟨fun hh i hi => (hh i hi).1, fun hh i hi => ⟨hh i hi, fun j hj => h i j hj hi⟩⟩
  rw [Cal.kingsOk, e]
  congr 2 <;> simp <;> omega
theorem notTo_snoc {f : Nat → ByteArray} {s : ByteArray} {k : Nat} (h : NotTo f s k) (hk : f k ≠ s) : NotTo f s (k + 1) := fun j hj => by
  rcases Nat.lt_or_ge j k with h' | h'
  · exact h j h'
  · rw [show j = k from by omega]; exact hk
theorem noTwin_snoc {f : Nat → ByteArray} {k : Nat} (h : NoTwin f k) (hk : NotTo f (f k) k) : NoTwin f (k + 1) := fun i j hj hi => by
  rcases Nat.lt_or_ge i k with h' | h'
  · exact h i j hj h'
  · obtain rfl : i = k := by omega
    exact hk j hj
theorem nameAll_snoc (f : Nat → ByteArray) (k : Nat) : NameAll f (k + 1) = (NameAll f k && isName (f k)) := by
  rw [NameAll, NameAll, List.range_succ, List.all_append]; simp
set_option maxRecDepth 100000 in
set_option maxHeartbeats 1000000 in
theorem validKings_any (A : Option Addr) (ca : Nat) (c : Cal) (w : World) (hA : RowsAt w A c.nk 1 (fun i => [.string (c.kg i)])) (hn : c.nk ≤ 9223372036854775807) (hcap : c.nk ≤ ca) :
    Calls Tryd.prog 103 #[.slice A c.nk ca] w fun e w' => e = .returned (.bool c.kingsOk) ∧ Ext w w' := by
  go_enter Tryd.func103, Tryd.ntmps103
  go_upto_region 1 with (fail)
  go_step3
  go_upto_region 1 with (fail)
  refine wp_region_xl w (by repeat (first | exact Ext.refl _ | (refine Ext.alloc ?_ _) | (refine Ext.trans ?_ (by assumption)))) ?_
  intro hne hrx hry
  try simp only []
  try simp only [List.append_eq, List.cons_append, List.nil_append]
  skip
  repeat (first
    | go_big_quiet_skip
    | ((with_reducible apply q_and)
       · exact rfl
       · exact rfl
       · exact rfl
       intro K hK
       unfold Then; go_big_quiet_op; (with_reducible refine hK _ ?_); clear hK K)
    | ((with_reducible apply q_or)
       · exact rfl
       · exact rfl
       · exact rfl
       intro K hK
       unfold Then; go_big_quiet_op; (with_reducible refine hK _ ?_); clear hK K)
    | (go_big_quiet_want; go_big_quiet_op; go_big_quiet_on)
    | ((with_reducible apply q_and_g)
       · first | exact wanted_pt rfl rfl rfl | exact wanted_pf rfl rfl rfl | exact wanted_gt rfl rfl rfl | exact wanted_gf rfl rfl rfl
       · exact rfl
       · exact rfl
       · exact rfl
       intro K hK
       unfold Then; go_big_quiet_op; (with_reducible refine hK _ ?_); clear hK K)
    | ((with_reducible apply q_or_g)
       · first | exact wanted_pt rfl rfl rfl | exact wanted_pf rfl rfl rfl | exact wanted_gt rfl rfl rfl | exact wanted_gf rfl rfl rfl
       · exact rfl
       · exact rfl
       · exact rfl
       intro K hK
       unfold Then; go_big_quiet_op; (with_reducible refine hK _ ?_); clear hK K)
    | ((with_reducible apply q_sym)
       · first | exact wanted_pt rfl rfl rfl | exact wanted_pf rfl rfl rfl | exact wanted_gt rfl rfl rfl | exact wanted_gf rfl rfl rfl
       apply Exists.intro
       refine And.intro (fun hgb => ?_) ?_
       · intro u
         try simp at hgb
         go_simp
         try simp only [if_pos hsl]
         try simp only [if_pos (hin (by omega))]
         try (simp only [hd0 (by omega)]; go_simp)
         try (rw [hlook _ (Ext.trans (by repeat (first | exact Ext.refl _ | (refine Ext.alloc ?_ _) | (refine Ext.trans ?_ (by assumption)))) u.e) (hlk0 hgb)]; go_simp)
         first
           | (with_reducible exact rfl)
       intro K hK
       unfold Then; go_big_quiet_op; (with_reducible refine hK _ ?_); clear hK K))
  clear hne hry hrx
  refine wpQuiet_nil ?_
  intro wq hq
  obtain ⟨hcwq, hfwq, hzwq⟩ := Ext.rules hq
  try simp only [World.size_alloc] at hzwq
  obtain ⟨hcbwq, hfbwq, hzbwq⟩ := Ext.rules (show Ext w wq from (by repeat (first | exact Ext.refl _ | (refine Ext.alloc ?_ _) | (refine Ext.trans ?_ (by assumption)))))
  clear hcwq hfwq
  go_wp2
  go_step3
  go_wp2
  go_loopw [3, 18] (fun o i wr => ∃ k : Nat, k ≤ c.nk ∧ i = .int .i64 k ∧ o = .bool (decide (1 ≤ (c.nk : Int)) && decide ((c.nk : Int) ≤ 40) && NameAll c.kg k) ∧ NoTwin c.kg k ∧ Ext w wr) (fun _ i _ => c.nk - (intOf i).toNat)
  case atStart => exact ⟨0, Nat.zero_le _, rfl, by simp [NameAll], (fun i j _ h => absurd h (by omega)), hq⟩
  case round =>
    obtain ⟨k, hk, rfl, rfl, hN, hB⟩ := hrel
    clear hq hzwq hcbwq hfbwq hzbwq
    obtain ⟨wo, rfl⟩ : ∃ wo : World, wo = wr := ⟨_, rfl⟩
    obtain ⟨hcwo, hfwo, hzwo⟩ := Ext.rules hB
    try simp only [World.size_alloc] at hzwo
    obtain ⟨hcbwo, hfbwo, hzbwo⟩ := Ext.rules (show Ext w wo from (by repeat (first | exact Ext.refl _ | (refine Ext.alloc ?_ _) | (refine Ext.trans ?_ (by assumption)))))
    clear hcwo hfwo
    by_cases hlt : k < c.nk
    · obtain ⟨b, off, rfl, hb, hc⟩ := hA (by omega)
      have hc' : ∀ j, j < c.nk → w.cell? ⟨b, off + j, none⟩ = some (.string (c.kg j)) := fun j hj => by simpa using hc j 0 _ hj rfl
      have c0 := hc' k hlt
      clear hc hA
      go_wp2
      go_loop [3, 27] (fun o i => ∃ j : Nat, j ≤ k ∧ i = .int .i64 j ∧ o = .bool (decide (1 ≤ (c.nk : Int)) && decide ((c.nk : Int) ≤ 40) && NameAll c.kg k) ∧ NotTo c.kg (c.kg k) j) (fun _ i => k - (intOf i).toNat)
      case atStart => exact ⟨0, Nat.zero_le _, rfl, rfl, fun j h => absurd h (by omega)⟩
      case round =>
        obtain ⟨j, hj, rfl, rfl, hT⟩ := hrel
        by_cases hlj : j < k
        · have c1 := hc' j (by omega)
          go_wp2
          · go_ret
            exact ⟨ret_bool (kingsOk_twin hlt hlj (same_yes ‹_›)).symm, (by repeat (first | exact Ext.refl _ | (refine Ext.alloc ?_ _) | (refine Ext.trans ?_ (by assumption))))⟩
          · have hne := same_no (a := c.kg j) (b := c.kg k) ‹_›
            exact ⟨⟨j + 1, by omega, by go_num, rfl, notTo_snoc hT hne⟩, by simp [intOf]; omega⟩
        · have hTk : NotTo c.kg (c.kg k) k := fun i hi => hT i (by omega)
          go_upto_region 11 with (fail)
          refine wp_region_xl w (by repeat (first | exact Ext.refl _ | (refine Ext.alloc ?_ _) | (refine Ext.trans ?_ (by assumption)))) ?_
          intro hne hrx hry
          try simp only []
          try simp only [List.append_eq, List.cons_append, List.nil_append]
          skip
          repeat (first
            | go_big_quiet_skip
            | ((with_reducible apply q_and)
               · exact rfl
               · exact rfl
               · exact rfl
               intro K hK
               unfold Then; go_big_quiet_op; (with_reducible refine hK _ ?_); clear hK K)
            | ((with_reducible apply q_or)
               · exact rfl
               · exact rfl
               · exact rfl
               intro K hK
               unfold Then; go_big_quiet_op; (with_reducible refine hK _ ?_); clear hK K)
            | (go_big_quiet_want; go_big_quiet_op; go_big_quiet_on)
            | (go_big_quiet_want; go_big_quiet_op; apply Exists.intro; refine ⟨fun u => ?_, ?_⟩
               · first
                   | (go_at_call 94; refine (isName_any _ _).mono ?_; rintro e w' ⟨rfl, rfl⟩; exact ⟨rfl, u, rfl⟩)
               go_big_quiet_on)
            | ((with_reducible apply q_and_g)
               · first | exact wanted_pt rfl rfl rfl | exact wanted_pf rfl rfl rfl | exact wanted_gt rfl rfl rfl | exact wanted_gf rfl rfl rfl
               · exact rfl
               · exact rfl
               · exact rfl
               intro K hK
               unfold Then; go_big_quiet_op; (with_reducible refine hK _ ?_); clear hK K)
            | ((with_reducible apply q_or_g)
               · first | exact wanted_pt rfl rfl rfl | exact wanted_pf rfl rfl rfl | exact wanted_gt rfl rfl rfl | exact wanted_gf rfl rfl rfl
               · exact rfl
               · exact rfl
               · exact rfl
               intro K hK
               unfold Then; go_big_quiet_op; (with_reducible refine hK _ ?_); clear hK K)
            | ((with_reducible apply q_sym)
               · first | exact wanted_pt rfl rfl rfl | exact wanted_pf rfl rfl rfl | exact wanted_gt rfl rfl rfl | exact wanted_gf rfl rfl rfl
               apply Exists.intro
               refine And.intro (fun hgb => ?_) ?_
               · intro u
                 try simp at hgb
                 go_simp
                 try simp only [if_pos hsl]
                 try simp only [if_pos (hin (by omega))]
                 try (simp only [hd0 (by omega)]; go_simp)
                 try (rw [hlook _ (Ext.trans (by repeat (first | exact Ext.refl _ | (refine Ext.alloc ?_ _) | (refine Ext.trans ?_ (by assumption)))) u.e) (hlk0 hgb)]; go_simp)
                 first
                   | (with_reducible exact rfl)
                   | (go_at_call 94; refine (isName_any _ _).mono ?_; rintro e w' ⟨rfl, rfl⟩; exact ⟨rfl, u, rfl⟩)
               intro K hK
               unfold Then; go_big_quiet_op; (with_reducible refine hK _ ?_); clear hK K))
          clear hne hry hrx
          refine wpQuiet_nil ?_
          intro wn hwn
          obtain ⟨hcwn, hfwn, hzwn⟩ := Ext.rules hwn
          try simp only [World.size_alloc] at hzwn
          obtain ⟨hcbwn, hfbwn, hzbwn⟩ := Ext.rules (show Ext w wn from (by repeat (first | exact Ext.refl _ | (refine Ext.alloc ?_ _) | (refine Ext.trans ?_ (by assumption)))))
          clear hcwn hfwn
          go_wp2
          exact ⟨⟨k + 1, by omega, by go_num, by simp only [nameAll_snoc, Bool.and_assoc], noTwin_snoc hN hTk, (by repeat (first | exact Ext.refl _ | (refine Ext.alloc ?_ _) | (refine Ext.trans ?_ (by assumption))))⟩, by simp [intOf]; omega⟩
    · go_wp2
      rw [Exit.noGoto_ret]
      go_ret
      exact ⟨ret_bool (by rw [kingsOk_apart (fun i j hj hi => hN i j hj (by omega)), show c.nk = k from by omega]), (by repeat (first | exact Ext.refl _ | (refine Ext.alloc ?_ _) | (refine Ext.trans ?_ (by assumption))))⟩
end Go.Proofs.YthmjpbafbohelaaDoor

namespace Go.Proofs.YthmjpbafbohelaaDoor
open Go Go.RowKit
attribute [local go_sem] gv_yes

def YearsTo (c : Cal) (k : Nat) : Prop := ∀ i, i < k → c.yearOk i = true
theorem hadTo_eq (c : Cal) (y : Yr) (k : Nat) : c.hadTo y k = hadF c.yr y k := rfl
theorem prevK_eq {c : Cal} {k : Nat} (h : YearsTo c k) : 0 ≤ c.prevK k ∧ (0 < k → c.prevK k = (c.yr (k - 1)).k) := by
  induction k with
  | zero => exact ⟨Int.le_refl _, fun h => absurd h (by omega)⟩
  | succ k ih =>
    have h1 := ih (fun i hi => h i (by omega))
    have h2 := h k (by omega)
    simp only [Cal.yearOk, Bool.and_eq_true, decide_eq_true_eq] at h2
    refine ⟨?_, fun _ => rfl⟩
    show 0 ≤ (c.yr k).k
    omega
theorem shape_eq (y : Yr) : y.shapeOk = !(decide (y.db < 0) || decide (12 < y.db) || decide (y.lg < 0) || decide (8191 < y.lg) || (y.db == 0 && decide (4096 ≤ y.lg))) := by
  rw [Yr.shapeOk, Bool.eq_iff_iff]; simp; omega
theorem valid_year {c : Cal} {k : Nat} (hk : k < c.ny) (h : c.yearOk k = false) : c.valid = false := by
  rw [Bool.eq_false_iff]; intro hh
  simp only [Cal.valid, Bool.and_eq_true, List.all_eq_true, List.mem_range] at hh
  rw [hh.2 k hk] at h; cases h
theorem to_snoc {p : Nat → Bool} {k : Nat} (h : ∀ i, i < k → p i = true) (hk : p k = true) : ∀ i, i < k + 1 → p i = true := fun i hi => by
  rcases Nat.lt_or_ge i k with h' | h'
  · exact h i h'
  · rw [show i = k from by omega]; exact hk

end Go.Proofs.YthmjpbafbohelaaDoor

namespace Go.Proofs.YthmjpbafbohelaaDoor
open Go Go.RowKit
open Go.Maps

theorem named_row : (189 : TypeId) < Tryd.prog.types.size := of_decide_eq_true (by kernel_rfl)
theorem named_wide : (match Tryd.prog.underlying 189 with | some (.array _ _) | some (.struct _) => true | _ => false) = true := by kernel_rfl
theorem prog_laidOut : laidOutB Tryd.prog = true := by kernel_rfl
set_option maxRecDepth 100000 in
theorem named_law : Keyed Tryd.prog 189 := Keyed.of_law (Go.deep_law_laid prog_laidOut (m := 2) (by omega) named_row (by kernel_rfl) named_wide)
theorem named_map : Tryd.prog.underlying 187 = some (.map 189 4) := by kernel_rfl
theorem named_zero (w : World) : (zeroValue 4).run Tryd.prog w = .ok (.bool false) w := by kernel_rfl
theorem bool_under : Tryd.prog.underlying 4 = some .bool := by kernel_rfl
def fsOf : Option TypeDesc → Array Field
  | some (.struct fs) => fs
  | _ => #[]
theorem named_under : Tryd.prog.underlying 189 = some (.struct (fsOf (Tryd.prog.underlying 189))) := by kernel_rfl
theorem named_fs : (fsOf (Tryd.prog.underlying 189)).toList.map (fun f => (f.type, f.offset)) = [(3, 0), (9, 1)] := by kernel_rfl
theorem named_names : (fsOf (Tryd.prog.underlying 189)).all (·.name != "_") = true := by kernel_rfl
theorem named_cells : Tryd.prog.cellsOf 189 = 2 := by kernel_rfl
theorem named_keyType : Tryd.prog.keyType 189 = true := by kernel_rfl
theorem types_size : ∃ m, Tryd.prog.types.size = m + 1 + 1 := by
  have h : (2 : Nat) ≤ Tryd.prog.types.size := Nat.le_trans (show (2 : Nat) ≤ 189 by decide) (Nat.le_of_lt named_row)
  exact ⟨Tryd.prog.types.size - 2, by omega⟩
/-- What the pair of a king's place and a name reads as. -/
def yrLit (k : Int) (nm : ByteArray) : Lit := .string (keyBytes [.int .i64 k, .string nm.data.toList])
theorem keyOf_named {k : Int} {nm : ByteArray} (hk : (Lit.int .i64 k).wf = true) (hn : nm.size ≤ maxLen) : keyOf Tryd.prog 189 (.agg #[.int .i64 k, .string nm]) = some (yrLit k nm) := by
  obtain ⟨m, hm⟩ := types_size
  have hf := named_fs
  have hN := named_names
  have hU := named_under
  generalize fsOf (Tryd.prog.underlying 189) = fs at hf hN hU
  obtain ⟨l⟩ := fs
  simp only [List.map_eq_cons_iff, List.map_eq_nil_iff] at hf
  obtain ⟨f0, _, rfl, e0, f1, _, rfl, e1, rfl⟩ := hf
  simp only [Prod.mk.injEq] at e0 e1
  unfold keyOf
  simp only [hU]
  rw [if_pos (by simp [named_keyType, Value.formed, hU, named_cells]), hm]
  unfold Program.keyLits
  simp only [hU, Value.cells]
  rw [if_pos ⟨by rw [named_cells]; rfl, hN⟩, List.mapM_cons, List.mapM_cons, List.mapM_nil]
  rw [e0.1, e0.2, e1.1, e1.2]
  have c3 : Tryd.prog.cellsOf 3 = 1 := by kernel_rfl
  have c9 : Tryd.prog.cellsOf 9 = 1 := by kernel_rfl
  simp [c3, c9, Program.keyLits, hk, hn, yrLit]

/-- What the map holds after the first n years. -/
def hadD {H : Type} (f : Nat → Yr) : Nat → DataW H
  | 0 => .map []
  | n + 1 => (hadD f n).put (yrLit (f n).k (f n).nm) (.lit (.bool true))
theorem hadD_isMap {H : Type} (f : Nat → Yr) : ∀ n, IsMap (hadD (H := H) f n)
  | 0 => isMap_empty
  | n + 1 => (hadD_isMap f n).put _ _
def KeyOk (y : Yr) : Prop := (Lit.int .i64 y.k).wf = true ∧ y.nm.size ≤ maxLen
theorem hadD_at {H : Type} {f : Nat → Yr} {y : Yr} (hy : KeyOk y) : ∀ n, (∀ j, j < n → KeyOk (f j)) → (hadD (H := H) f n).atKey (yrLit y.k y.nm) (.lit (.bool false)) = .lit (.bool (hadF f y n))
  | 0, _ => rfl
  | n + 1, h => by
    have ih := hadD_at (H := H) hy n (fun j hj => h j (by omega))
    have kf := keyOf_named (h n (by omega)).1 (h n (by omega)).2
    have ky := keyOf_named hy.1 hy.2
    have e : hadF f y (n + 1) = (hadF f y n || (f n).alike y) := by rw [hadF, hadF, List.range_succ, List.any_append]; simp
    rw [e]
    by_cases he : (f n).alike y = true
    · have h1 : (f n).k = y.k ∧ (f n).nm = y.nm := by simpa [Yr.alike] using he
      rw [he, Bool.or_true, hadD, h1.1, h1.2]
      exact atKey_put_same (hadD_isMap f n) (named_law.key ky) _ _
    · rw [Bool.not_eq_true] at he
      rw [he, Bool.or_false, ← ih, hadD]
      refine atKey_put_other (fun hl => ?_) _ _
      have h2 := named_law.inj ky (by rw [hl]; exact kf)
      simp at h2
      rw [Yr.alike, h2.1, h2.2] at he
      simp at he
/-- The lookup in the walk. -/
theorem had_look {H : Type} {w : World} {b m n : Nat} {f : Nat → Yr} {y : Yr} (hm : w.ownsMap Tryd.prog 189 (plainElem (H := H) Tryd.prog 4) b m (hadD f n)) (hy : KeyOk y) (hf : ∀ j, j < n → KeyOk (f j)) :
    (Instr.lookup 187 (.map (some b)) (.agg #[.int .i64 y.k, .string y.nm]) false).run Tryd.prog w = .ok (.bool (hadF f y n)) w := by
  obtain ⟨v, ps, hrun, hv⟩ := hm.lookup named_law named_map (named_zero w) (plainElem_bool bool_under false) (keyOf_named hy.1 hy.2)
  rw [hadD_at hy n hf] at hv
  rw [hrun]
  simp only [plainElem, bool_under] at hv
  split at hv <;> simp_all
end Go.Proofs.YthmjpbafbohelaaDoor

namespace Go.Proofs.YthmjpbafbohelaaDoor
open Go Go.RowKit
open Go.Maps
attribute [local go_sem] gv_yes

theorem ownsMap_ext {H : Type} {P : Program} {k : TypeId} {R : Value → Option (DataW H × List MemPlace)} {w w' : World} {b n : Nat} {D : DataW H} (h : w.ownsMap P k R b n D) (e : Ext w w') : w'.ownsMap P k R b n D := by
  have hlt := h.lt
  obtain ⟨es, clock, hb, F, hs, hD⟩ := h
  exact ⟨es, clock, (e.block hlt).trans hb, F, hs, hD⟩
theorem keyOk_of {y : Yr} {n : Int} (h0 : 0 ≤ y.k) (h1 : y.k < n) (hn : n ≤ 9223372036854775807) (hs : isName y.nm = true) : KeyOk y := by
  refine ⟨?_, ?_⟩
  · simp [Lit.wf, IntKind.min, IntKind.max, IntKind.signed, IntKind.bits]; omega
  · simp only [isName, Bool.and_eq_true, decide_eq_true_eq] at hs
    have : maxLen = 9223372036854775807 := rfl
    omega
theorem prevK_nn {c : Cal} {k : Nat} (h : YearsTo c k) : 0 ≤ c.prevK k := (prevK_eq h).1
theorem keyOk_to {c : Cal} {k : Nat} (h : YearsTo c k) (hn : c.nk ≤ 9223372036854775807) : ∀ j, j < k → KeyOk (c.yr j) := fun j hj => by
  have h1 := h j hj
  have h2 := prevK_nn (c := c) (k := j) (fun i hi => h i (by omega))
  simp only [Cal.yearOk, Bool.and_eq_true, decide_eq_true_eq] at h1
  exact keyOk_of (n := c.nk) (by omega) (by omega) (by omega) (by simp_all)
theorem yearOk_go (c : Cal) (k : Nat) : c.yearOk k =
    !(decide ((c.yr k).k < c.prevK k) || decide ((c.nk : Int) ≤ (c.yr k).k) || !isName (c.yr k).nm || hadF c.yr (c.yr k) k || decide ((c.yr k).db < 0) || decide (12 < (c.yr k).db) || decide ((c.yr k).lg < 0) || decide (8191 < (c.yr k).lg) || ((c.yr k).db == 0 && decide (4096 ≤ (c.yr k).lg))) := by
  rw [Cal.yearOk, hadTo_eq, shape_eq, Bool.eq_iff_iff]
  cases isName (c.yr k).nm <;> cases hadF c.yr (c.yr k) k <;> simp <;> omega
theorem valid_size' {c : Cal} (h : (!c.kingsOk || decide ((c.ny : Int) < 1) || decide (400 < (c.ny : Int))) = true) : c.valid = false := by
  rw [Bool.eq_false_iff]; intro hh
  simp only [Cal.valid, Bool.and_eq_true, decide_eq_true_eq] at hh
  simp only [Bool.or_eq_true, decide_eq_true_eq, Bool.not_eq_true'] at h
  rcases h with (h | h) | h
  · rw [hh.1.1.1] at h; cases h
  · omega
  · omega
theorem valid_yes' {c : Cal} (h : (!c.kingsOk || decide ((c.ny : Int) < 1) || decide (400 < (c.ny : Int))) = false) (hy : YearsTo c c.ny) : c.valid = true := by
  simp only [Bool.or_eq_false_iff, decide_eq_false_iff_not, Bool.not_eq_false'] at h
  simp only [Cal.valid, Bool.and_eq_true, List.all_eq_true, List.mem_range, decide_eq_true_eq]
  exact ⟨⟨⟨h.1.1, by omega⟩, by omega⟩, hy⟩

set_option maxRecDepth 100000 in
set_option maxHeartbeats 4000000 in
theorem valid_any (A A' : Option Addr) (ca cb : Nat) (c : Cal) (w : World) (hC : CalAt w A ca A' cb c) :
    Calls Tryd.prog 55 #[.agg #[.slice A c.nk ca, .slice A' c.ny cb]] w fun e w' => e = .returned (.bool c.valid) ∧ Ext w w' := by
  have hnk := hC.nk_le
  have hny := hC.ny_le
  have hcapk := hC.nk_cap
  have hcapy := hC.ny_cap
  have hmm := @run_makeMap Tryd.prog
  go_enter Tryd.func55, Tryd.ntmps55
  go_upto_region 1 with (fail)
  refine wp_region_xl w (by repeat (first | exact Ext.refl _ | (refine Ext.alloc ?_ _) | (refine Ext.trans ?_ (by assumption)))) ?_
  intro hne hrx hry
  try simp only []
  try simp only [List.append_eq, List.cons_append, List.nil_append]
  have hrx0 := fun u o => hrx u (w.heap.size) o (by first | omega | (simp; done) | (simp; omega))
  skip
  repeat (first
    | go_big_quiet_skip
    | ((with_reducible apply q_and)
       · exact rfl
       · exact rfl
       · exact rfl
       intro K hK
       unfold Then; go_big_quiet_op; (with_reducible refine hK _ ?_); clear hK K)
    | ((with_reducible apply q_or)
       · exact rfl
       · exact rfl
       · exact rfl
       intro K hK
       unfold Then; go_big_quiet_op; (with_reducible refine hK _ ?_); clear hK K)
    | (go_big_quiet_want; go_big_quiet_op; go_big_quiet_on)
    | (go_big_quiet_want; go_big_quiet_op; apply Exists.intro; refine ⟨fun u => ?_, ?_⟩
       · first
           | (go_at_call 103; refine (validKings_any _ _ c _ (hC.kings.ext (Ext.trans (by repeat (first | exact Ext.refl _ | (refine Ext.alloc ?_ _) | (refine Ext.trans ?_ (by assumption)))) u.e)) (by omega) (by omega)).mono ?_; rintro e w' ⟨rfl, hb⟩; exact ⟨rfl, u.back hb⟩)
       go_big_quiet_on)
    | ((with_reducible apply q_and_g)
       · first | exact wanted_pt rfl rfl rfl | exact wanted_pf rfl rfl rfl | exact wanted_gt rfl rfl rfl | exact wanted_gf rfl rfl rfl
       · exact rfl
       · exact rfl
       · exact rfl
       intro K hK
       unfold Then; go_big_quiet_op; (with_reducible refine hK _ ?_); clear hK K)
    | ((with_reducible apply q_or_g)
       · first | exact wanted_pt rfl rfl rfl | exact wanted_pf rfl rfl rfl | exact wanted_gt rfl rfl rfl | exact wanted_gf rfl rfl rfl
       · exact rfl
       · exact rfl
       · exact rfl
       intro K hK
       unfold Then; go_big_quiet_op; (with_reducible refine hK _ ?_); clear hK K)
    | ((with_reducible apply q_sym)
       · first | exact wanted_pt rfl rfl rfl | exact wanted_pf rfl rfl rfl | exact wanted_gt rfl rfl rfl | exact wanted_gf rfl rfl rfl
       apply Exists.intro
       refine And.intro (fun hgb => ?_) ?_
       · intro u
         try simp at hgb
         go_simp
         try simp only [if_pos hsl]
         try simp only [if_pos (hin (by omega))]
         try (simp only [hd0 (by omega)]; go_simp)
         try (rw [hlook _ (Ext.trans (by repeat (first | exact Ext.refl _ | (refine Ext.alloc ?_ _) | (refine Ext.trans ?_ (by assumption)))) u.e) (hlk0 hgb)]; go_simp)
         first
           | (with_reducible exact rfl)
           | (go_at_call 103; refine (validKings_any _ _ c _ (hC.kings.ext (Ext.trans (by repeat (first | exact Ext.refl _ | (refine Ext.alloc ?_ _) | (refine Ext.trans ?_ (by assumption)))) u.e)) (by omega) (by omega)).mono ?_; rintro e w' ⟨rfl, hb⟩; exact ⟨rfl, u.back hb⟩)
       intro K hK
       unfold Then; go_big_quiet_op; (with_reducible refine hK _ ?_); clear hK K))
  clear hne hry hrx hrx0
  refine wpQuiet_nil ?_
  intro wq hq
  obtain ⟨hcwq, hfwq, hzwq⟩ := Ext.rules hq
  try simp only [World.size_alloc] at hzwq
  have hk0wq := fun o => hcwq (w.heap.size) o (by first | omega | (simp; done) | (simp; omega))
  have hj0wq := fun o => hfwq (w.heap.size) o (by first | omega | (simp; done) | (simp; omega))
  have hl0wq : w.heap.size < wq.heap.size := (by first | omega | (simp; done) | (simp; omega))
  obtain ⟨hcbwq, hfbwq, hzbwq⟩ := Ext.rules (show Ext w wq from (by repeat (first | exact Ext.refl _ | (refine Ext.alloc ?_ _) | (refine Ext.trans ?_ (by assumption)))))
  clear hcwq hfwq
  generalize hf : (!c.kingsOk || decide ((c.ny : Int) < 1) || decide (400 < (c.ny : Int))) = f at *
  have HF : Hid (_ = f) := hf
  clear hf
  cases f
  · go_wp2
    have hB0 : Ext (w.alloc (.cells #[.slice A c.nk ca, .slice A' c.ny cb] 25)) wq := hq
    go_loopw [4, 27] (fun kg i wr => ∃ k : Nat, k ≤ c.ny ∧ i = .int .i64 k ∧ kg = .int .i64 (c.prevK k) ∧ YearsTo c k ∧ Ext (w.alloc (.cells #[.slice A c.nk ca, .slice A' c.ny cb] 25)) wr ∧
      wr.ownsMap Tryd.prog 189 (plainElem (H := Unit) Tryd.prog 4) wq.heap.size k (hadD c.yr k)) (fun _ i _ => c.ny - (intOf i).toNat)
    case atStart => exact ⟨0, Nat.zero_le _, rfl, rfl, (fun i h => absurd h (by omega)), Ext.alloc hq _, World.ownsMap_made _ _ _ _⟩
    case round =>
      obtain ⟨k, hk, rfl, rfl, hY, hB, hM⟩ := hrel
      clear hzwq hk0wq hj0wq hl0wq hcbwq hfbwq hzbwq
      obtain ⟨wo, rfl⟩ : ∃ wo : World, wo = wr := ⟨_, rfl⟩
      obtain ⟨hcwo, hfwo, hzwo⟩ := Ext.rules hB
      try simp only [World.size_alloc] at hzwo
      have hk0wo := fun o => hcwo (w.heap.size) o (by first | omega | (simp; done) | (simp; omega))
      have hj0wo := fun o => hfwo (w.heap.size) o (by first | omega | (simp; done) | (simp; omega))
      have hl0wo : w.heap.size < wo.heap.size := (by first | omega | (simp; done) | (simp; omega))
      obtain ⟨hcbwo, hfbwo, hzbwo⟩ := Ext.rules (show Ext w wo from (by repeat (first | exact Ext.refl _ | (refine Ext.alloc ?_ _) | (refine Ext.trans ?_ (by assumption)))))
      clear hcwo hfwo
      by_cases hlt : k < c.ny
      · obtain ⟨b, off, rfl, hb, c0, c1, c2, c3⟩ := hC.year hlt
        have HY : Hid (c.yearOk k = _) := yearOk_go c k
        have hbo : b < wo.heap.size := by omega
        have h0 := prevK_nn hY
        have hlook : ∀ w', Ext wo w' → KeyOk (c.yr k) → (Instr.lookup 187 (.map (some wq.heap.size)) (.agg #[.int .i64 (c.yr k).k, .string (c.yr k).nm]) false).run Tryd.prog w' = .ok (.bool (hadF c.yr (c.yr k) k)) w' :=
          fun w' e hy => had_look (ownsMap_ext hM e) hy (keyOk_to hY hnk)
        have hlk0 : (c.prevK k ≤ (c.yr k).k ∧ (c.yr k).k < c.nk) ∧ isName (c.yr k).nm = true → KeyOk (c.yr k) := fun h => keyOk_of (by omega) h.1.2 (by omega) h.2
        go_upto_region 8 with (fail)
        refine wp_region_xl wo (by repeat (first | exact Ext.refl _ | (refine Ext.alloc ?_ _) | (refine Ext.trans ?_ (by assumption)))) ?_
        intro hne hrx hry
        try simp only []
        try simp only [List.append_eq, List.cons_append, List.nil_append]
        have hrx0 := fun u o => hrx u (wo.heap.size) o (by first | omega | (simp; done) | (simp; omega))
        skip
        repeat (first
          | go_big_quiet_skip
          | ((with_reducible apply q_and)
             · exact rfl
             · exact rfl
             · exact rfl
             intro K hK
             unfold Then; go_big_quiet_op; (with_reducible refine hK _ ?_); clear hK K)
          | ((with_reducible apply q_or)
             · exact rfl
             · exact rfl
             · exact rfl
             intro K hK
             unfold Then; go_big_quiet_op; (with_reducible refine hK _ ?_); clear hK K)
          | (go_big_quiet_want; go_big_quiet_op; go_big_quiet_on)
          | (go_big_quiet_want; go_big_quiet_op; apply Exists.intro; refine ⟨fun u => ?_, ?_⟩
             · first
                 | (go_at_call 94; refine (isName_any _ _).mono ?_; rintro e w' ⟨rfl, rfl⟩; exact ⟨rfl, u, rfl⟩)
             go_big_quiet_on)
          | ((with_reducible apply q_and_g)
             · first | exact wanted_pt rfl rfl rfl | exact wanted_pf rfl rfl rfl | exact wanted_gt rfl rfl rfl | exact wanted_gf rfl rfl rfl
             · exact rfl
             · exact rfl
             · exact rfl
             intro K hK
             unfold Then; go_big_quiet_op; (with_reducible refine hK _ ?_); clear hK K)
          | ((with_reducible apply q_or_g)
             · first | exact wanted_pt rfl rfl rfl | exact wanted_pf rfl rfl rfl | exact wanted_gt rfl rfl rfl | exact wanted_gf rfl rfl rfl
             · exact rfl
             · exact rfl
             · exact rfl
             intro K hK
             unfold Then; go_big_quiet_op; (with_reducible refine hK _ ?_); clear hK K)
          | ((with_reducible apply q_sym)
             · first | exact wanted_pt rfl rfl rfl | exact wanted_pf rfl rfl rfl | exact wanted_gt rfl rfl rfl | exact wanted_gf rfl rfl rfl
             apply Exists.intro
             refine And.intro (fun hgb => ?_) ?_
             · intro u
               try simp at hgb
               go_simp
               try simp only [if_pos hsl]
               try simp only [if_pos (hin (by omega))]
               try (simp only [hd0 (by omega)]; go_simp)
               try (rw [hlook _ (Ext.trans (by repeat (first | exact Ext.refl _ | (refine Ext.alloc ?_ _) | (refine Ext.trans ?_ (by assumption)))) u.e) (hlk0 hgb)]; go_simp)
               first
                 | (with_reducible exact rfl)
                 | (go_at_call 94; refine (isName_any _ _).mono ?_; rintro e w' ⟨rfl, rfl⟩; exact ⟨rfl, u, rfl⟩)
             intro K hK
             unfold Then; go_big_quiet_op; (with_reducible refine hK _ ?_); clear hK K))
        clear hne hry hrx hrx0
        refine wpQuiet_nil ?_
        intro wn hwn
        obtain ⟨hcwn, hfwn, hzwn⟩ := Ext.rules hwn
        try simp only [World.size_alloc] at hzwn
        have hk0wn := fun o => hcwn (wo.heap.size) o (by first | omega | (simp; done) | (simp; omega))
        have hj0wn := fun o => hfwn (wo.heap.size) o (by first | omega | (simp; done) | (simp; omega))
        have hl0wn : wo.heap.size < wn.heap.size := (by first | omega | (simp; done) | (simp; omega))
        obtain ⟨hcbwn, hfbwn, hzbwn⟩ := Ext.rules (show Ext wo wn from (by repeat (first | exact Ext.refl _ | (refine Ext.alloc ?_ _) | (refine Ext.trans ?_ (by assumption)))))
        clear hcwn hfwn
        generalize hs : (decide ((c.yr k).k < c.prevK k) || decide ((c.nk : Int) ≤ (c.yr k).k) || !isName (c.yr k).nm || hadF c.yr (c.yr k) k || decide ((c.yr k).db < 0) || decide (12 < (c.yr k).db) || decide ((c.yr k).lg < 0) || decide (8191 < (c.yr k).lg) || ((c.yr k).db == 0 && decide (4096 ≤ (c.yr k).lg))) = s at *
        have HS : Hid (c.yearOk k = !s) := HY.out
        clear hs HY
        cases s
        · have hY1 : YearsTo c (k + 1) := to_snoc hY HS.out
          have hyk : KeyOk (c.yr k) := keyOk_to hY1 hnk k (by omega)
          have hMn := ownsMap_ext hM (w' := wn) (Ext.trans (by repeat (first | exact Ext.refl _ | (refine Ext.alloc ?_ _) | (refine Ext.trans ?_ (by assumption)))) hwn)
          obtain ⟨w1, hrun1, hM1, hg1⟩ := hMn.update named_law named_map (show k < 9223372036854775807 by omega) (keyOf_named hyk.1 hyk.2) (plainElem_bool bool_under true)
          have hsz : (w.alloc (.cells #[.slice A c.nk ca, .slice (some ⟨b, off, none⟩) c.ny cb] 25)).heap.size ≤ wq.heap.size := hB0.size
          have hE1 : Ext (w.alloc (.cells #[.slice A c.nk ca, .slice (some ⟨b, off, none⟩) c.ny cb] 25)) w1 := Ext.grown (w := wn) (by repeat (first | exact Ext.refl _ | (refine Ext.alloc ?_ _) | (refine Ext.trans ?_ (by assumption)))) hg1 (fun j hj => by cases hj; exact hsz)
          go_wp2
          exact ⟨⟨k + 1, by omega, by go_num, rfl, hY1, hE1, hM1⟩, by simp [intOf]; omega⟩
        · go_wp2
          go_ret
          exact ⟨ret_bool (valid_year hlt HS.out).symm, (by repeat (first | exact Ext.refl _ | (refine Ext.alloc ?_ _) | (refine Ext.trans ?_ (by assumption))))⟩
      · have hY' : YearsTo c c.ny := fun i hi => hY i (by omega)
        go_wp2
        go_ret
        exact ⟨ret_bool (valid_yes' HF.out hY').symm, (by repeat (first | exact Ext.refl _ | (refine Ext.alloc ?_ _) | (refine Ext.trans ?_ (by assumption))))⟩
  · go_wp2
    go_ret
    exact ⟨ret_bool (valid_size' HF.out).symm, (by repeat (first | exact Ext.refl _ | (refine Ext.alloc ?_ _) | (refine Ext.trans ?_ (by assumption))))⟩
end Go.Proofs.YthmjpbafbohelaaDoor

namespace Go.Proofs.YthmjpbafbohelaaDoor
open Go Go.RowKit
attribute [local go_sem] gv_yes

theorem chk_yes {c : Cal} (h : c.valid = true) : c.chk = 0 := by simp [Cal.chk, h]
theorem chk_no {c : Cal} (h : c.valid = false) : c.chk = 70 := by simp [Cal.chk, h]
set_option maxRecDepth 100000 in
set_option maxHeartbeats 1000000 in
theorem check_any (A A' : Option Addr) (ca cb : Nat) (c : Cal) (w : World) (hC : CalAt w A ca A' cb c) :
    Calls Tryd.prog 17 #[.agg #[.slice A c.nk ca, .slice A' c.ny cb]] w fun e w' => e = .returned (.int .i64 c.chk) ∧ Ext w w' := by
  go_enter Tryd.func17, Tryd.ntmps17
  go_upto_region 1 with (fail)
  refine wp_region_xl w (by repeat (first | exact Ext.refl _ | (refine Ext.alloc ?_ _) | (refine Ext.trans ?_ (by assumption)))) ?_
  intro hne hrx hry
  try simp only []
  try simp only [List.append_eq, List.cons_append, List.nil_append]
  have hrx0 := fun u o => hrx u (w.heap.size) o (by first | omega | (simp; done) | (simp; omega))
  skip
  repeat (first
    | go_big_quiet_skip
    | ((with_reducible apply q_and)
       · exact rfl
       · exact rfl
       · exact rfl
       intro K hK
       unfold Then; go_big_quiet_op; (with_reducible refine hK _ ?_); clear hK K)
    | ((with_reducible apply q_or)
       · exact rfl
       · exact rfl
       · exact rfl
       intro K hK
       unfold Then; go_big_quiet_op; (with_reducible refine hK _ ?_); clear hK K)
    | (go_big_quiet_want; go_big_quiet_op; go_big_quiet_on)
    | (go_big_quiet_want; go_big_quiet_op; apply Exists.intro; refine ⟨fun u => ?_, ?_⟩
       · first
           | (go_at_call 55; refine (valid_any _ _ _ _ c _ (hC.ext (Ext.trans (by repeat (first | exact Ext.refl _ | (refine Ext.alloc ?_ _) | (refine Ext.trans ?_ (by assumption)))) u.e))).mono ?_; rintro e w' ⟨rfl, hb⟩; exact ⟨rfl, u.back hb⟩)
       go_big_quiet_on)
    | ((with_reducible apply q_and_g)
       · first | exact wanted_pt rfl rfl rfl | exact wanted_pf rfl rfl rfl | exact wanted_gt rfl rfl rfl | exact wanted_gf rfl rfl rfl
       · exact rfl
       · exact rfl
       · exact rfl
       intro K hK
       unfold Then; go_big_quiet_op; (with_reducible refine hK _ ?_); clear hK K)
    | ((with_reducible apply q_or_g)
       · first | exact wanted_pt rfl rfl rfl | exact wanted_pf rfl rfl rfl | exact wanted_gt rfl rfl rfl | exact wanted_gf rfl rfl rfl
       · exact rfl
       · exact rfl
       · exact rfl
       intro K hK
       unfold Then; go_big_quiet_op; (with_reducible refine hK _ ?_); clear hK K)
    | ((with_reducible apply q_sym)
       · first | exact wanted_pt rfl rfl rfl | exact wanted_pf rfl rfl rfl | exact wanted_gt rfl rfl rfl | exact wanted_gf rfl rfl rfl
       apply Exists.intro
       refine And.intro (fun hgb => ?_) ?_
       · intro u
         try simp at hgb
         go_simp
         try simp only [if_pos hsl]
         try simp only [if_pos (hin (by omega))]
         try (simp only [hd0 (by omega)]; go_simp)
         try (rw [hlook _ (Ext.trans (by repeat (first | exact Ext.refl _ | (refine Ext.alloc ?_ _) | (refine Ext.trans ?_ (by assumption)))) u.e) (hlk0 hgb)]; go_simp)
         first
           | (with_reducible exact rfl)
           | (go_at_call 55; refine (valid_any _ _ _ _ c _ (hC.ext (Ext.trans (by repeat (first | exact Ext.refl _ | (refine Ext.alloc ?_ _) | (refine Ext.trans ?_ (by assumption)))) u.e))).mono ?_; rintro e w' ⟨rfl, hb⟩; exact ⟨rfl, u.back hb⟩)
       intro K hK
       unfold Then; go_big_quiet_op; (with_reducible refine hK _ ?_); clear hK K))
  clear hne hry hrx hrx0
  refine wpQuiet_nil ?_
  intro wq hq
  obtain ⟨hcwq, hfwq, hzwq⟩ := Ext.rules hq
  try simp only [World.size_alloc] at hzwq
  have hk0wq := fun o => hcwq (w.heap.size) o (by first | omega | (simp; done) | (simp; omega))
  have hj0wq := fun o => hfwq (w.heap.size) o (by first | omega | (simp; done) | (simp; omega))
  have hl0wq : w.heap.size < wq.heap.size := (by first | omega | (simp; done) | (simp; omega))
  obtain ⟨hcbwq, hfbwq, hzbwq⟩ := Ext.rules (show Ext w wq from (by repeat (first | exact Ext.refl _ | (refine Ext.alloc ?_ _) | (refine Ext.trans ?_ (by assumption)))))
  clear hcwq hfwq
  generalize hv : c.valid = v at *
  cases v
  · go_wp2
    go_ret
    exact ⟨ret_int (chk_no hv).symm, (by repeat (first | exact Ext.refl _ | (refine Ext.alloc ?_ _) | (refine Ext.trans ?_ (by assumption))))⟩
  · go_wp2
    go_ret
    exact ⟨ret_int (chk_yes hv).symm, (by repeat (first | exact Ext.refl _ | (refine Ext.alloc ?_ _) | (refine Ext.trans ?_ (by assumption))))⟩
end Go.Proofs.YthmjpbafbohelaaDoor

namespace Go.Proofs.YthmjpbafbohelaaDoor
open Go Go.RowKit
attribute [local go_sem] gv_yes

def dcells (d : Dt) : List Value := [.int .i64 d.y, .int .i64 d.m, .bool d.s, .int .i64 d.d]
def InTo (c : Cal) (f : Nat → Dt) (k : Nat) : Prop := ∀ i, i < k → c.has (f i) = true
def Cal.checks (c : Cal) (f : Nat → Dt) (n : Nat) : Int := if c.valid then (if (List.range n).all (fun i => c.has (f i)) then 0 else 71) else 70
theorem checks_no {c : Cal} {f : Nat → Dt} {n : Nat} (h : c.valid = false) : c.checks f n = 70 := by simp [Cal.checks, h]
theorem checks_out {c : Cal} {f : Nat → Dt} {n k : Nat} (h : c.valid = true) (hk : k < n) (ho : c.has (f k) = false) : c.checks f n = 71 := by
  have : (List.range n).all (fun i => c.has (f i)) = false := by
    rw [List.all_eq_false]; exact ⟨k, by simpa using hk, by simp [ho]⟩
  simp only [Cal.checks, h, this]; rfl
theorem checks_yes {c : Cal} {f : Nat → Dt} {n : Nat} (h : c.valid = true) (hI : InTo c f n) : c.checks f n = 0 := by
  have : (List.range n).all (fun i => c.has (f i)) = true := by
    rw [List.all_eq_true]; intro i hi; exact hI i (by simpa using hi)
  simp only [Cal.checks, h, this]; rfl
theorem valid_lg {c : Cal} (h : c.valid = true) : ∀ i, i < c.ny → 0 ≤ (c.yr i).lg ∧ (c.yr i).lg ≤ 8191 := fun i hi => by
  simp only [Cal.valid, Bool.and_eq_true, List.all_eq_true, List.mem_range] at h
  have h1 := h.2 i hi
  simp only [Cal.yearOk, Bool.and_eq_true] at h1
  have h2 := h1.2
  rw [shape_eq] at h2
  simp at h2
  omega
set_option maxRecDepth 100000 in
set_option maxHeartbeats 1000000 in
theorem checks_any (A A' : Option Addr) (ca cb : Nat) (c : Cal) (B : Option Addr) (n cap : Nat) (f : Nat → Dt) (w : World) (hC : CalAt w A ca A' cb c) (hD : RowsAt w B n 4 (fun i => dcells (f i))) (hn : n ≤ 9223372036854775807) :
    Calls Tryd.prog 48 #[.agg #[.slice A c.nk ca, .slice A' c.ny cb], .slice B n cap] w fun e w' => e = .returned (.int .i64 (c.checks f n)) ∧ Ext w w' := by
  go_enter Tryd.func48, Tryd.ntmps48
  go_upto_region 1 with (fail)
  refine wp_region_xl w (by repeat (first | exact Ext.refl _ | (refine Ext.alloc ?_ _) | (refine Ext.trans ?_ (by assumption)))) ?_
  intro hne hrx hry
  try simp only []
  try simp only [List.append_eq, List.cons_append, List.nil_append]
  have hrx0 := fun u o => hrx u (w.heap.size) o (by first | omega | (simp; done) | (simp; omega))
  skip
  repeat (first
    | go_big_quiet_skip
    | ((with_reducible apply q_and)
       · exact rfl
       · exact rfl
       · exact rfl
       intro K hK
       unfold Then; go_big_quiet_op; (with_reducible refine hK _ ?_); clear hK K)
    | ((with_reducible apply q_or)
       · exact rfl
       · exact rfl
       · exact rfl
       intro K hK
       unfold Then; go_big_quiet_op; (with_reducible refine hK _ ?_); clear hK K)
    | (go_big_quiet_want; go_big_quiet_op; go_big_quiet_on)
    | (go_big_quiet_want; go_big_quiet_op; apply Exists.intro; refine ⟨fun u => ?_, ?_⟩
       · first
           | (go_at_call 55; refine (valid_any _ _ _ _ c _ (hC.ext (Ext.trans (by repeat (first | exact Ext.refl _ | (refine Ext.alloc ?_ _) | (refine Ext.trans ?_ (by assumption)))) u.e))).mono ?_; rintro e w' ⟨rfl, hb⟩; exact ⟨rfl, u.back hb⟩)
       go_big_quiet_on)
    | ((with_reducible apply q_and_g)
       · first | exact wanted_pt rfl rfl rfl | exact wanted_pf rfl rfl rfl | exact wanted_gt rfl rfl rfl | exact wanted_gf rfl rfl rfl
       · exact rfl
       · exact rfl
       · exact rfl
       intro K hK
       unfold Then; go_big_quiet_op; (with_reducible refine hK _ ?_); clear hK K)
    | ((with_reducible apply q_or_g)
       · first | exact wanted_pt rfl rfl rfl | exact wanted_pf rfl rfl rfl | exact wanted_gt rfl rfl rfl | exact wanted_gf rfl rfl rfl
       · exact rfl
       · exact rfl
       · exact rfl
       intro K hK
       unfold Then; go_big_quiet_op; (with_reducible refine hK _ ?_); clear hK K)
    | ((with_reducible apply q_sym)
       · first | exact wanted_pt rfl rfl rfl | exact wanted_pf rfl rfl rfl | exact wanted_gt rfl rfl rfl | exact wanted_gf rfl rfl rfl
       apply Exists.intro
       refine And.intro (fun hgb => ?_) ?_
       · intro u
         try simp at hgb
         go_simp
         try simp only [if_pos hsl]
         try simp only [if_pos (hin (by omega))]
         try (simp only [hd0 (by omega)]; go_simp)
         try (rw [hlook _ (Ext.trans (by repeat (first | exact Ext.refl _ | (refine Ext.alloc ?_ _) | (refine Ext.trans ?_ (by assumption)))) u.e) (hlk0 hgb)]; go_simp)
         first
           | (with_reducible exact rfl)
           | (go_at_call 55; refine (valid_any _ _ _ _ c _ (hC.ext (Ext.trans (by repeat (first | exact Ext.refl _ | (refine Ext.alloc ?_ _) | (refine Ext.trans ?_ (by assumption)))) u.e))).mono ?_; rintro e w' ⟨rfl, hb⟩; exact ⟨rfl, u.back hb⟩)
       intro K hK
       unfold Then; go_big_quiet_op; (with_reducible refine hK _ ?_); clear hK K))
  clear hne hry hrx hrx0
  refine wpQuiet_nil ?_
  intro wq hq
  obtain ⟨hcwq, hfwq, hzwq⟩ := Ext.rules hq
  try simp only [World.size_alloc] at hzwq
  have hk0wq := fun o => hcwq (w.heap.size) o (by first | omega | (simp; done) | (simp; omega))
  have hj0wq := fun o => hfwq (w.heap.size) o (by first | omega | (simp; done) | (simp; omega))
  have hl0wq : w.heap.size < wq.heap.size := (by first | omega | (simp; done) | (simp; omega))
  obtain ⟨hcbwq, hfbwq, hzbwq⟩ := Ext.rules (show Ext w wq from (by repeat (first | exact Ext.refl _ | (refine Ext.alloc ?_ _) | (refine Ext.trans ?_ (by assumption)))))
  clear hcwq hfwq
  generalize hv : c.valid = v at *
  cases v
  · go_wp2
    go_ret
    exact ⟨ret_int (checks_no hv).symm, (by repeat (first | exact Ext.refl _ | (refine Ext.alloc ?_ _) | (refine Ext.trans ?_ (by assumption))))⟩
  · go_wp2
    go_loopw [12] (fun i wr => ∃ k : Nat, k ≤ n ∧ i = .int .i64 k ∧ InTo c f k ∧ Ext (w.alloc (.cells #[.slice A c.nk ca, .slice A' c.ny cb] 25)) wr) (fun i _ => n - (intOf i).toNat)
    case atStart => exact ⟨0, Nat.zero_le _, rfl, (fun i h => absurd h (by omega)), hq⟩
    case round =>
      obtain ⟨k, hk, rfl, hI, hB⟩ := hrel
      clear hzwq hk0wq hj0wq hl0wq hcbwq hfbwq hzbwq hq
      obtain ⟨wo, rfl⟩ : ∃ wo : World, wo = wr := ⟨_, rfl⟩
      obtain ⟨hcwo, hfwo, hzwo⟩ := Ext.rules hB
      try simp only [World.size_alloc] at hzwo
      have hk0wo := fun o => hcwo (w.heap.size) o (by first | omega | (simp; done) | (simp; omega))
      have hj0wo := fun o => hfwo (w.heap.size) o (by first | omega | (simp; done) | (simp; omega))
      have hl0wo : w.heap.size < wo.heap.size := (by first | omega | (simp; done) | (simp; omega))
      obtain ⟨hcbwo, hfbwo, hzbwo⟩ := Ext.rules (show Ext w wo from (by repeat (first | exact Ext.refl _ | (refine Ext.alloc ?_ _) | (refine Ext.trans ?_ (by assumption)))))
      clear hcwo hfwo
      by_cases hlt : k < n
      · obtain ⟨b, off, rfl, hb, hc⟩ := hD (by omega)
        have c0 : w.cell? ⟨b, off + k * 4, none⟩ = some (.int .i64 (f k).y) := by simpa using hc k 0 _ hlt rfl
        have c1 : w.cell? ⟨b, off + k * 4 + 1, none⟩ = some (.int .i64 (f k).m) := hc k 1 _ hlt rfl
        have c2 : w.cell? ⟨b, off + k * 4 + 2, none⟩ = some (.bool (f k).s) := hc k 2 _ hlt rfl
        have c3 : w.cell? ⟨b, off + k * 4 + 3, none⟩ = some (.int .i64 (f k).d) := hc k 3 _ hlt rfl
        clear hc hD
        have hbo : b < wo.heap.size := by omega
        go_upto_region 6 with (fail)
        refine wp_region_xl wo (by repeat (first | exact Ext.refl _ | (refine Ext.alloc ?_ _) | (refine Ext.trans ?_ (by assumption)))) ?_
        intro hne hrx hry
        try simp only []
        try simp only [List.append_eq, List.cons_append, List.nil_append]
        have hrx0 := fun u o => hrx u (wo.heap.size) o (by first | omega | (simp; done) | (simp; omega))
        skip
        repeat (first
          | go_big_quiet_skip
          | ((with_reducible apply q_and)
             · exact rfl
             · exact rfl
             · exact rfl
             intro K hK
             unfold Then; go_big_quiet_op; (with_reducible refine hK _ ?_); clear hK K)
          | ((with_reducible apply q_or)
             · exact rfl
             · exact rfl
             · exact rfl
             intro K hK
             unfold Then; go_big_quiet_op; (with_reducible refine hK _ ?_); clear hK K)
          | (go_big_quiet_want; go_big_quiet_op; go_big_quiet_on)
          | (go_big_quiet_want; go_big_quiet_op; apply Exists.intro; refine ⟨fun u => ?_, ?_⟩
             · first
                 | (go_at_call 98; refine (in_any _ _ _ _ c (f k) _ (hC.ext (Ext.trans (by repeat (first | exact Ext.refl _ | (refine Ext.alloc ?_ _) | (refine Ext.trans ?_ (by assumption)))) u.e)) (valid_lg hv)).mono ?_; rintro e w' ⟨rfl, hb⟩; exact ⟨rfl, u.back hb⟩)
             go_big_quiet_on)
          | ((with_reducible apply q_and_g)
             · first | exact wanted_pt rfl rfl rfl | exact wanted_pf rfl rfl rfl | exact wanted_gt rfl rfl rfl | exact wanted_gf rfl rfl rfl
             · exact rfl
             · exact rfl
             · exact rfl
             intro K hK
             unfold Then; go_big_quiet_op; (with_reducible refine hK _ ?_); clear hK K)
          | ((with_reducible apply q_or_g)
             · first | exact wanted_pt rfl rfl rfl | exact wanted_pf rfl rfl rfl | exact wanted_gt rfl rfl rfl | exact wanted_gf rfl rfl rfl
             · exact rfl
             · exact rfl
             · exact rfl
             intro K hK
             unfold Then; go_big_quiet_op; (with_reducible refine hK _ ?_); clear hK K)
          | ((with_reducible apply q_sym)
             · first | exact wanted_pt rfl rfl rfl | exact wanted_pf rfl rfl rfl | exact wanted_gt rfl rfl rfl | exact wanted_gf rfl rfl rfl
             apply Exists.intro
             refine And.intro (fun hgb => ?_) ?_
             · intro u
               try simp at hgb
               go_simp
               try simp only [if_pos hsl]
               try simp only [if_pos (hin (by omega))]
               try (simp only [hd0 (by omega)]; go_simp)
               try (rw [hlook _ (Ext.trans (by repeat (first | exact Ext.refl _ | (refine Ext.alloc ?_ _) | (refine Ext.trans ?_ (by assumption)))) u.e) (hlk0 hgb)]; go_simp)
               first
                 | (with_reducible exact rfl)
                 | (go_at_call 98; refine (in_any _ _ _ _ c (f k) _ (hC.ext (Ext.trans (by repeat (first | exact Ext.refl _ | (refine Ext.alloc ?_ _) | (refine Ext.trans ?_ (by assumption)))) u.e)) (valid_lg hv)).mono ?_; rintro e w' ⟨rfl, hb⟩; exact ⟨rfl, u.back hb⟩)
             intro K hK
             unfold Then; go_big_quiet_op; (with_reducible refine hK _ ?_); clear hK K))
        clear hne hry hrx hrx0
        refine wpQuiet_nil ?_
        intro wn hwn
        obtain ⟨hcwn, hfwn, hzwn⟩ := Ext.rules hwn
        try simp only [World.size_alloc] at hzwn
        have hk0wn := fun o => hcwn (wo.heap.size) o (by first | omega | (simp; done) | (simp; omega))
        have hj0wn := fun o => hfwn (wo.heap.size) o (by first | omega | (simp; done) | (simp; omega))
        have hl0wn : wo.heap.size < wn.heap.size := (by first | omega | (simp; done) | (simp; omega))
        obtain ⟨hcbwn, hfbwn, hzbwn⟩ := Ext.rules (show Ext wo wn from (by repeat (first | exact Ext.refl _ | (refine Ext.alloc ?_ _) | (refine Ext.trans ?_ (by assumption)))))
        clear hcwn hfwn
        generalize hs : c.has (f k) = s at *
        cases s
        · go_wp2
          go_ret
          exact ⟨ret_int (checks_out hv hlt hs).symm, (by repeat (first | exact Ext.refl _ | (refine Ext.alloc ?_ _) | (refine Ext.trans ?_ (by assumption))))⟩
        · go_wp2
          exact ⟨⟨k + 1, by omega, by go_num, to_snoc hI hs, (by repeat (first | exact Ext.refl _ | (refine Ext.alloc ?_ _) | (refine Ext.trans ?_ (by assumption))))⟩, by simp [intOf]; omega⟩
      · go_wp2
        go_ret
        exact ⟨ret_int (checks_yes hv (fun i hi => hI i (by omega))).symm, (by repeat (first | exact Ext.refl _ | (refine Ext.alloc ?_ _) | (refine Ext.trans ?_ (by assumption))))⟩
end Go.Proofs.YthmjpbafbohelaaDoor

namespace Go.Proofs.YthmjpbafbohelaaDoor
open Go Go.RowKit Go.Shelf
attribute [local go_sem] Oper.semAt_some gv_yes
attribute [local go_sem high] eql_month

theorem Ext.putObj {W w : World} (h : Ext W w) {k : Nat} (hk : W.heap.size ≤ k) (o : Obj) : Ext W (w.putObj k o) := h.grown (grownBy_putObj' w k o) (fun j e => by cases e; exact hk)
theorem ownFrom_ext {β : Type} {B : Nat} {w₀ : World} (hB : w₀.heap.size ≤ B) : OwnFrom B (fun (_ : β) W => Ext w₀ W) := ownFrom_below (Nat.le_refl _) hB
theorem keepsFrom_ext {B : Nat} {W W' : World} (e : Ext W W') : KeepsFrom B W W' := ⟨e.size, fun _ _ _ h _ => (e.block (Array.getElem?_eq_some_iff.1 h).1).trans h⟩
theorem ret_none {F : Fence} {n : Nat} {P : Program} {fn : Func} {R : Ending → World → Prop} {tmps : Array Value} {w : World} {v : Value} (hr : (results fn tmps).run P w = .ok v w) (hR : R (.returned v) w) :
    bodyPostM F n P fn R .ret { tmps := tmps, defers := [] } w := ⟨v, hr, hR⟩
theorem ret_mark {F : Fence} {n : Nat} {P : Program} {fn : Func} {R : Ending → World → Prop} {tmps : Array Value} {w : World} {v : Value} {D : Nat} (hK : w.heap[D]? = some (.deferred (some [])))
    (hr : (results fn tmps).run P (w.putObj D (.deferred none)) = .ok v (w.putObj D (.deferred none))) (hR : R (.returned v) (w.putObj D (.deferred none))) :
    bodyPostM F n P fn R .ret { tmps := tmps, defers := [{ target := .collected D, args := #[] }] } w := ⟨by simp, .inl ⟨_, _, rfl, run_takeDeferred hK, v, hr, hR⟩⟩
theorem boxed_turned {W : World} {B : Nat} {t : TypeId} {v : Value} (h : Boxed W B t v) {D : Nat} {o o' : Obj} (hK : W.heap[D]? = some o) (ho : o.isCells = false) : Boxed (W.putObj D o') B t v :=
  h.kept (grownBy_putObj' W D o') (fun e => by
    cases e
    rw [show W.heap[B]? = _ from h] at hK; cases hK; cases ho)

set_option maxRecDepth 100000 in
/-- 'for m, first := range months(c)': the law of such a loop. -/
theorem loop_months {g : Operand} {ps : Array Tmp} {assign body : Code} {Q : Exit → Act → World → Prop} {a : Act} {A A' : Option Addr} {ca cb : Nat} {c : Cal} {B : Nat} (w₀ w : World)
    (hg : a.eval g = .func (.func 118) #[] #[.pointer (some ⟨B, 0, none⟩)]) (hps : ps.size = 2)
    (hC : CalAt w₀ A ca A' cb c) (hlg : ∀ i, i < c.ny → 0 ≤ (c.yr i).lg ∧ (c.yr i).lg ≤ 8191) (hny : c.ny ≤ 400) (he : Ext w₀ w) (hB : w.cell? ⟨B, 1, none⟩ = some (.slice A' c.ny cb)) (hBl : B < w.heap.size)
    (I : List (Mo c) → World → Prop) (Ix : Code → List (Mo c) → World → Prop) (hI : OwnFrom w.heap.size I) (hIx : ∀ c, OwnFrom w.heap.size (Ix c)) (h0 : I [] w) (Ax : Mo c → Act → World → Prop)
    (hAx : ∀ x a', OwnFrom w.heap.size (fun (_ : Unit) W => Ax x a' W))
    (hassign : ∀ (l : Nat) (pre : List (Mo c)) (x : Mo c) (W : World) (K : Act → World → Prop), I pre W → (∀ a' W', KeepsFrom w.heap.size W W' → KpY w₀.heap.size W W' → I pre W' → Ax x a' W' → K a' W') →
      assign.wpIn (Fence.wide.inRound l) 7 Tryd.prog (Exit.then K (fun _ _ _ => False)) { tmps := (ps.zip (Mo.enc x)).foldl (fun t (p, v) => t.setIfInBounds p v) a.tmps, defers := [] } W)
    (hbody : ∀ (l : Nat) (pre : List (Mo c)) (x : Mo c) (a' : Act) (W : World), w.heap.size ≤ l → I pre W → Ax x a' W → pre.length < 13 * c.ny → body.wpIn (Fence.wide.inRound l) 7 Tryd.prog (ownPostG w.heap.size (KpY w₀.heap.size) I Ix (pre ++ [x]) W) a' W)
    (hdone : ∀ (D : Nat) (xs : List (Mo c)) (W : World), w.heap.size ≤ D → Mo.its xs = c.items → I xs W → W.heap[D]? = some (.deferred (some [])) → Q .normal { a with defers := { target := .collected D, args := #[] } :: a.defers } W)
    (hstop : ∀ (D : Nat) (c' : Code) (pre : List (Mo c)) (W : World), w.heap.size ≤ D → Mo.its pre <+: c.items → Ix c' pre W → W.heap[D]? = some (.deferred (some [])) → c'.wp Tryd.prog Q { a with defers := { target := .collected D, args := #[] } :: a.defers } W) :
    (Code.rangeFunc g ps assign body).wp Tryd.prog Q a w := by
  refine (wpIn_wide (n := 9)).1 (wpIn_rangeFunc_ownH rfl (by omega) hg trivial (enters_of Tryd.func118 (by kernel_rfl) rfl) (months1_stops A A' ca cb c B 8 w₀ w hC hlg hny (by omega) he hB hBl)
    KpY.trans (KpY.turn he.size) (Below.refl _ _) (fun _ => hps.symm) I Ix hI hIx h0 Ax hAx hassign (fun l pre x a' W hl _ hi hx hlt => hbody l pre x a' W hl hi hx (Nat.lt_of_lt_of_le hlt (itemsTo_length c c.ny))) hdone
    (fun D c' pre W hD hp hx hK => wpIn_wide.2 (hstop D c' pre W hD hp hx hK)))

theorem ownFrom_ex {β γ : Type} {B : Nat} {I : γ → β → World → Prop} (h : ∀ x, OwnFrom B (I x)) : OwnFrom B (fun s W => ∃ x, I x s W) := fun s X Y row ⟨x, hs⟩ hg hr => ⟨x, h x s X Y row hs hg hr⟩
theorem ownFrom_box {β : Type} (B b : Nat) (t : TypeId) (f : β → Value) : OwnFrom B (fun s W => Boxed W b t (f s)) := Own.from (boxed_own b t f) B
/-- Block b is just the cells cs. -/
def Held (W : World) (b : Nat) (t : TypeId) (cs : Array Value) : Prop := W.heap[b]? = some (.cells cs t (0, 0))
theorem Held.lt {W : World} {b : Nat} {t : TypeId} {cs : Array Value} (h : Held W b t cs) : b < W.heap.size := (Array.getElem?_eq_some_iff.1 h).1
theorem Held.new (W : World) (t : TypeId) (cs : Array Value) : Held (W.alloc (.cells cs t)) W.heap.size t cs := World.alloc_heap_new W _
theorem Held.at (W : World) (t : TypeId) (cs : Array Value) (b : Nat) (h : b = W.heap.size) : Held (W.alloc (.cells cs t)) b t cs := by rw [h]; exact Held.new W t cs
theorem Held.alloc {W : World} {b : Nat} {t : TypeId} {cs : Array Value} (h : Held W b t cs) (o : Obj) : Held (W.alloc o) b t cs := (Below.heap_alloc W o b h.lt).trans h
theorem Held.boxed {W : World} {b : Nat} {t : TypeId} {v : Value} (h : Held W b t #[v]) : Boxed W b t v := h
theorem Held.ext {W W' : World} {b : Nat} {t : TypeId} {cs : Array Value} (h : Held W b t cs) (e : Ext W W') : Held W' b t cs := (e.block h.lt).trans h
theorem Held.other {W : World} {b b' : Nat} {t : TypeId} {cs : Array Value} (h : Held W b t cs) (hne : b ≠ b') (u : Value) : Held (W.setCell ⟨b', 0, none⟩ u) b t cs := ((grownBy_setCell' W b' u).block b h.lt (fun e => hne (by cases e; rfl))).trans h
theorem Held.cell {W : World} {b : Nat} {t : TypeId} {cs : Array Value} (h : Held W b t cs) (i : Nat) : W.cell? ⟨b, i, none⟩ = cs[i]? := by simp [World.cell?, show W.heap[b]? = _ from h]
theorem Held.frozen {W : World} {b : Nat} {t : TypeId} {cs : Array Value} (h : Held W b t cs) (i : Nat) : W.frozen? ⟨b, i, none⟩ = false := by simp [World.frozen?, show W.heap[b]? = _ from h]
section
variable {W : World} {b : Nat} {t : TypeId} {v0 v1 v2 v3 : Value}
theorem Held.c1 (h : Held W b t #[v0]) : W.cell? ⟨b, 0, none⟩ = some v0 := h.cell 0
theorem Held.c2 (h : Held W b t #[v0, v1]) : W.cell? ⟨b, 0, none⟩ = some v0 ∧ W.cell? ⟨b, 1, none⟩ = some v1 := ⟨h.cell 0, h.cell 1⟩
theorem Held.c3 (h : Held W b t #[v0, v1, v2]) : W.cell? ⟨b, 0, none⟩ = some v0 ∧ W.cell? ⟨b, 1, none⟩ = some v1 ∧ W.cell? ⟨b, 2, none⟩ = some v2 := ⟨h.cell 0, h.cell 1, h.cell 2⟩
theorem Held.c4 (h : Held W b t #[v0, v1, v2, v3]) : W.cell? ⟨b, 0, none⟩ = some v0 ∧ W.cell? ⟨b, 1, none⟩ = some v1 ∧ W.cell? ⟨b, 2, none⟩ = some v2 ∧ W.cell? ⟨b, 3, none⟩ = some v3 := ⟨h.cell 0, h.cell 1, h.cell 2, h.cell 3⟩
end
theorem ownFrom_held {β : Type} (B b : Nat) (t : TypeId) (f : β → Array Value) : OwnFrom B (fun s W => Held W b t (f s)) := fun s X Y row hs hg hr => (hg.block b hs.lt (fun e => by
  obtain ⟨_, o, ho, hc⟩ := hr b e.symm
  rw [show X.heap[b]? = _ from hs] at ho; cases ho; cases hc)).trans hs
theorem boxed_ext {W W' : World} {b : Nat} {t : TypeId} {v : Value} (h : Boxed W b t v) (e : Ext W W') : Boxed W' b t v := (e.block h.lt).trans h
theorem it_of_eq (x : It) (d : Dt) : x.of d = ((x.y : Int) == d.y && (x.n == d.m && x.s == d.s)) := by rw [It.of, Bool.and_assoc]; rfl
/-- What a month's box is behind the assignment, and the frame with it. -/
def AxM (L : Nat) (f : It → Nat → Array Value) {c : Cal} (x : Mo c) (a' : Act) (W : World) : Prop :=
  ∃ Bx, L ≤ Bx ∧ Held W Bx 169 #[.int .i64 (x.1.y : Int), .int .i64 x.1.n, .bool x.1.s] ∧ a' = { tmps := f x.1 Bx, defers := [] }
theorem axM_own {L B : Nat} {f : It → Nat → Array Value} {c : Cal} (x : Mo c) (a' : Act) : OwnFrom B (fun (_ : Unit) W => AxM L f x a' W) :=
  ownFrom_ex fun _ => OwnFrom.and (ownFrom_pure _ _) (OwnFrom.and (ownFrom_held _ _ _ _) (ownFrom_pure _ _))

theorem two_boxes {W : World} {b b' : Nat} {t t' : TypeId} {v v' : Value} (h : Boxed W b t v) (h' : Boxed W b' t' v') (hne : b ≠ b') (u u' : Value) :
    Boxed ((W.setCell ⟨b, 0, none⟩ u).setCell ⟨b', 0, none⟩ u').drew b t u ∧ Boxed ((W.setCell ⟨b, 0, none⟩ u).setCell ⟨b', 0, none⟩ u').drew b' t' u' :=
  ⟨(h.set u).other hne u', (h'.other (Ne.symm hne) u).set u'⟩
/-! ### number -/
def NoneOf (d : Dt) (l : List It) : Prop := ∀ x, x ∈ l → x.of d = false
theorem numFrom_none {d : Dt} : ∀ {l : List It} (k : Int), NoneOf d l → numFrom d l k = (0, 0)
  | [], _, _ => rfl
  | x :: l, k, h => by
    rw [numFrom, h x (List.mem_cons_self ..)]
    exact numFrom_none (k + 1) (fun y hy => h y (List.mem_cons_of_mem _ hy))
theorem numFrom_here {d : Dt} {x : It} (hx : x.of d = true) : ∀ (pre l : List It) (k : Int), NoneOf d pre → numFrom d (pre ++ x :: l) k = (x.first + d.d - 1, k + pre.length + 1)
  | [], l, k, _ => by simp [numFrom, hx]
  | y :: pre, l, k, h => by
    rw [List.cons_append, numFrom, h y (List.mem_cons_self ..)]
    show numFrom d _ (k + 1) = _
    rw [numFrom_here hx pre l (k + 1) (fun z hz => h z (List.mem_cons_of_mem _ hz)), List.length_cons]
    congr 1; omega
theorem num_none {c : Cal} {d : Dt} (h : NoneOf d c.items) : c.num d = (0, 0) := numFrom_none 0 h
theorem num_here {c : Cal} {d : Dt} {pre : List It} {x : It} (hN : NoneOf d pre) (hx : x.of d = true) (hp : pre ++ [x] <+: c.items) : c.num d = (x.first + d.d - 1, (pre.length : Int) + 1) := by
  obtain ⟨t, ht⟩ := hp
  rw [Cal.num, ← ht, List.append_assoc, List.singleton_append, numFrom_here hx pre t 0 hN]
  congr 1; omega
theorem noneOf_snoc {d : Dt} {l : List It} {x : It} (h : NoneOf d l) (hx : x.of d = false) : NoneOf d (l ++ [x]) := fun y hy => by
  rcases List.mem_append.1 hy with hy | hy
  · exact h y hy
  · rw [List.mem_singleton.1 hy]; exact hx
/-- The world in which number has boxed its arguments. -/
def numW (A A' : Option Addr) (ca cb : Nat) (c : Cal) (d : Dt) (w : World) : World := (w.alloc (.cells #[.slice A c.nk ca, .slice A' c.ny cb] 25)).alloc (.cells #[.int .i64 d.y, .int .i64 d.m, .bool d.s, .int .i64 d.d] 29)
set_option maxRecDepth 100000 in
set_option maxHeartbeats 4000000 in
theorem number_any (A A' : Option Addr) (ca cb : Nat) (c : Cal) (d : Dt) (w : World) (hC : CalAt w A ca A' cb c) (hlg : ∀ i, i < c.ny → 0 ≤ (c.yr i).lg ∧ (c.yr i).lg ≤ 8191) (hny : c.ny ≤ 400) (hd : 1 ≤ d.d ∧ d.d ≤ 30) :
    Calls Tryd.prog 86 #[.agg #[.slice A c.nk ca, .slice A' c.ny cb], .agg #[.int .i64 d.y, .int .i64 d.m, .bool d.s, .int .i64 d.d]] w fun e w' => e = .returned (.tuple #[.int .i64 (c.num d).1, .int .i64 (c.num d).2]) ∧ Ext w w' := by
  refine callsIn_wide.1 (callsIn_of_wp_marks (F := Fence.wide) (n := 9) Tryd.func86 rfl trivial (wpIn_wide.2 ?_) rfl)
  simp only [Tryd.ntmps86, List.size_toArray, List.length_cons, List.length_nil, Nat.reduceAdd, Nat.reduceSub, Array.replicate_succ, Array.replicate_zero, List.push_toArray, List.append_toArray, List.nil_append, List.cons_append]
  go_wp2_with (go_at_call 88; refine (months_any _ _ _ _ c _).mono ?_; rintro e w' ⟨rfl, rfl⟩)
  obtain ⟨wd, hwd⟩ : ∃ wd, wd = numW A A' ca cb c d w := ⟨_, rfl⟩
  have hEd : Ext w wd := by rw [hwd]; unfold numW; exact (by repeat (first | exact Ext.refl _ | (refine Ext.alloc ?_ _) | (refine Ext.trans ?_ (by assumption))))
  have hsd : wd.heap.size = w.heap.size + 1 + 1 := by rw [hwd]; simp [numW]
  have hdb : Held wd (w.heap.size + 1) 29 #[.int .i64 d.y, .int .i64 d.m, .bool d.s, .int .i64 d.d] := by rw [hwd]; unfold numW; exact (by repeat (first | (refine Held.at _ _ _ _ ?_; (simp; done)) | refine Held.alloc ?_ _))
  generalize hW5 : World.alloc _ _ = W5
  have hE5 : Ext wd W5 := by rw [← hW5, hwd]; unfold numW; exact (by repeat (first | exact Ext.refl _ | (refine Ext.alloc ?_ _) | (refine Ext.trans ?_ (by assumption))))
  have hs5 : W5.heap.size = w.heap.size + 1 + 1 + 1 + 1 + 1 := by rw [← hW5]; simp
  have b4 : Boxed W5 (w.heap.size + 1 + 1) 3 (.int .i64 0) := by rw [← hW5]; exact Held.boxed (by repeat (first | (refine Held.at _ _ _ _ ?_; (simp; done)) | refine Held.alloc ?_ _))
  have b5 : Boxed W5 (w.heap.size + 1 + 1 + 1) 3 (.int .i64 0) := by rw [← hW5]; exact Held.boxed (by repeat (first | (refine Held.at _ _ _ _ ?_; (simp; done)) | refine Held.alloc ?_ _))
  have hB : W5.cell? ⟨w.heap.size + 1 + 1 + 1 + 1, 1, none⟩ = some (.slice A' c.ny cb) := by rw [← hW5]; exact (Held.cell (t := 25) (cs := #[.slice A c.nk ca, .slice A' c.ny cb]) (by repeat (first | (refine Held.at _ _ _ _ ?_; (simp; done)) | refine Held.alloc ?_ _)) 1)
  clear hW5 hwd
  generalize hs : w.heap.size = s at *
  refine loop_months (A := A) (A' := A') (ca := ca) (cb := cb) (c := c) (B := s + 1 + 1 + 1 + 1) wd W5 rfl rfl (hC.ext hEd) hlg hny hE5 hB (by omega)
    (fun pre W => Ext wd W ∧ Boxed W (s + 1 + 1) 3 (.int .i64 0) ∧ Boxed W (s + 1 + 1 + 1) 3 (.int .i64 (pre.length : Int)) ∧ NoneOf d (Mo.its pre))
    (fun c' pre W => Ext wd W ∧ ∃ p : List (Mo c) × Mo c, Boxed W (s + 1 + 1) 3 (.int .i64 (p.2.1.first + d.d - 1)) ∧ Boxed W (s + 1 + 1 + 1) 3 (.int .i64 (pre.length : Int)) ∧ c' = .ret ∧ pre = p.1 ++ [p.2] ∧ NoneOf d (Mo.its p.1) ∧ p.2.1.of d = true)
    (OwnFrom.and (ownFrom_ext (by omega)) (OwnFrom.and (ownFrom_box _ _ _ _) (OwnFrom.and (ownFrom_box _ _ _ _) (ownFrom_pure _ _))))
    (fun c' => OwnFrom.and (ownFrom_ext (by omega)) (ownFrom_ex fun p => OwnFrom.and (ownFrom_box _ _ _ _) (OwnFrom.and (ownFrom_box _ _ _ _) (ownFrom_pure _ _))))
    ⟨hE5, b4, b5, fun _ h => (by cases h)⟩
    (AxM (s + 1 + 1 + 1 + 1) (fun y Bx => #[.agg #[.slice A c.nk ca, .slice A' c.ny cb], .agg #[.int .i64 d.y, .int .i64 d.m, .bool d.s, .int .i64 d.d], .pointer (some ⟨s, 0, none⟩), .pointer (some ⟨s + 1, 0, none⟩), .pointer (some ⟨s + 1 + 1, 0, none⟩), .pointer (some ⟨s + 1 + 1 + 1, 0, none⟩), .pointer (some ⟨Bx, 0, none⟩), .int .i64 y.first,
      .agg #[.slice A c.nk ca, .slice A' c.ny cb], .func (.func 118) #[] #[.pointer (some ⟨s + 1 + 1 + 1 + 1, 0, none⟩)], .agg #[.int .i64 (y.y : Int), .int .i64 y.n, .bool y.s], .int .i64 y.first, undef, undef, undef, undef, undef, undef, undef, undef, undef, undef, undef, undef])) axM_own ?assign ?body ?done ?stop
  case assign =>
    intro l pre x W K hi hK
    simp only [Mo.enc]
    gi_wp2
    refine hK _ _ (keepsFrom_ext ((Ext.refl W).alloc _)) (KpY.of_ext ((Ext.refl W).alloc _) hi.1.size) ⟨hi.1.alloc _, hi.2.1.alloc _, hi.2.2.1.alloc _, hi.2.2.2⟩ ⟨W.heap.size, hi.2.2.1.lt, Held.new _ _ _, rfl⟩
  case body =>
    rintro l pre x a' W hl ⟨hE, b4, b5, hN⟩ ⟨Bx, hBx, hm, rfl⟩ hlt
    have hcb := b5.cell
    have hfb := b5.frozen
    gi_wp2
    have hKp : KpY wd.heap.size W (W.setCell ⟨s + 1 + 1 + 1, 0, none⟩ (.int .i64 ((pre.length : Int) + 1))) := KpY.box b5 (by decide) (by omega) _
    have hKf : KeepsFrom W5.heap.size W (W.setCell ⟨s + 1 + 1 + 1, 0, none⟩ (.int .i64 ((pre.length : Int) + 1))) := (KeepsOthers.setCell _ _ _).from _
    have hE2 := hE.setCell (p := ⟨s + 1 + 1 + 1, 0, none⟩) (show wd.heap.size ≤ s + 1 + 1 + 1 by omega) (.int .i64 ((pre.length : Int) + 1))
    have b42 := b4.other (B' := s + 1 + 1 + 1) (by omega) (.int .i64 ((pre.length : Int) + 1))
    have b52 := b5.set (.int .i64 ((pre.length : Int) + 1))
    have hm2 := hm.other (b' := s + 1 + 1 + 1) (by omega) (.int .i64 ((pre.length : Int) + 1))
    generalize World.setCell W _ _ = W2 at *
    clear hcb hfb b4 b5 hm hE
    have hd2 := hdb.ext hE2
    have m0 := hm2.cell 0
    have m1 := hm2.cell 1
    have m2 := hm2.cell 2
    have e0 := hd2.cell 0
    have e1 := hd2.cell 1
    have e2 := hd2.cell 2
    have e3 := hd2.cell 3
    have hl1 := hm2.lt
    have hl2 := hd2.lt
    simp at m0 m1 m2 e0 e1 e2 e3
    refine wpIn_region_xw W2 mixed (by kernel_rfl) (by kernel_rfl) (by repeat (first | exact Ext.refl _ | (refine Ext.alloc ?_ _) | (refine Ext.trans ?_ (by assumption)))) ?_
    intro hne hrx hry
    try simp only []
    try simp only [List.append_eq, List.cons_append, List.nil_append]
    skip
    repeat (first
      | go_big_quiet_skip
      | ((with_reducible apply q_and)
         · exact rfl
         · exact rfl
         · exact rfl
         intro K hK
         unfold Then; go_big_quiet_op; (with_reducible refine hK _ ?_); clear hK K)
      | ((with_reducible apply q_or)
         · exact rfl
         · exact rfl
         · exact rfl
         intro K hK
         unfold Then; go_big_quiet_op; (with_reducible refine hK _ ?_); clear hK K)
      | (go_big_quiet_want; go_big_quiet_op; go_big_quiet_on)
      | (go_big_quiet_want; go_big_quiet_op; apply Exists.intro; refine ⟨fun u => ?_, ?_⟩
         · first
             | (go_at_call 117; refine (monthOf_any d _).mono ?_; rintro e w' ⟨rfl, hb⟩; exact ⟨rfl, u.back hb⟩)
         go_big_quiet_on)
      | ((with_reducible apply q_and_g)
         · first | exact wanted_pt rfl rfl rfl | exact wanted_pf rfl rfl rfl | exact wanted_gt rfl rfl rfl | exact wanted_gf rfl rfl rfl
         · exact rfl
         · exact rfl
         · exact rfl
         intro K hK
         unfold Then; go_big_quiet_op; (with_reducible refine hK _ ?_); clear hK K)
      | ((with_reducible apply q_or_g)
         · first | exact wanted_pt rfl rfl rfl | exact wanted_pf rfl rfl rfl | exact wanted_gt rfl rfl rfl | exact wanted_gf rfl rfl rfl
         · exact rfl
         · exact rfl
         · exact rfl
         intro K hK
         unfold Then; go_big_quiet_op; (with_reducible refine hK _ ?_); clear hK K)
      | ((with_reducible apply q_sym)
         · first | exact wanted_pt rfl rfl rfl | exact wanted_pf rfl rfl rfl | exact wanted_gt rfl rfl rfl | exact wanted_gf rfl rfl rfl
         apply Exists.intro
         refine And.intro (fun hgb => ?_) ?_
         · intro u
           try simp at hgb
           go_simp
           try simp only [if_pos hsl]
           try simp only [if_pos (hin (by omega))]
           try (simp only [hd0 (by omega)]; go_simp)
           try (rw [hlook _ (Ext.trans (by repeat (first | exact Ext.refl _ | (refine Ext.alloc ?_ _) | (refine Ext.trans ?_ (by assumption)))) u.e) (hlk0 hgb)]; go_simp)
           first
             | (with_reducible exact rfl)
             | (go_at_call 117; refine (monthOf_any d _).mono ?_; rintro e w' ⟨rfl, hb⟩; exact ⟨rfl, u.back hb⟩)
         intro K hK
         unfold Then; go_big_quiet_op; (with_reducible refine hK _ ?_); clear hK K))
    clear hne hry hrx
    refine wpQuiet_nil ?_
    intro wq hq
    obtain ⟨hcwq, hfwq, hzwq⟩ := Ext.rules hq
    try simp only [World.size_alloc] at hzwq
    obtain ⟨hcbwq, hfbwq, hzbwq⟩ := Ext.rules (show Ext W2 wq from (by repeat (first | exact Ext.refl _ | (refine Ext.alloc ?_ _) | (refine Ext.trans ?_ (by assumption)))))
    clear hcwq hfwq
    have HO : Hid (x.1.of d = _) := it_of_eq x.1 d
    have hxok := x.2
    have hx1 := hxok.f1
    have hx2 := hxok.f2
    clear hxok
    generalize ((x.1.y : Int) == d.y && (x.1.n == d.m && x.1.s == d.s)) = f at *
    have hEq := hE2.trans hq
    have b4q := boxed_ext b42 hq
    have b5q := boxed_ext b52 hq
    have hKq := hKp.trans (KpY.of_ext hq hE2.size)
    have hFq := hKf.trans (keepsFrom_ext hq)
    clear m0 m1 m2 hl1
    cases f
    · gi_wp2
      exact ⟨hFq, hKq, hEq, b4q, by simpa using b5q, by rw [its_snoc]; exact noneOf_snoc hN HO.out⟩
    · have q4 := b4q.cell
      have q5 := b5q.cell
      have f4 := b4q.frozen
      have f5 := b5q.frozen
      have hdq := hd2.ext hq
      clear e0 e1 e2 e3 hd2 hcbwq hfbwq
      have e3 := hdq.cell 3
      simp at e3
      have hl4 := b4q.lt
      have hl5 := b5q.lt
      have hld := hdq.lt
      gi_upto_region 6 with (fail)
      have hmix := mixed
      have HS : Hid (IntKind.i64.wrap (IntKind.i64.wrap (x.1.first + d.d) - 1) = x.1.first + d.d - 1) := by unfold Hid; rw [IntKind.wrap_i64, IntKind.wrap_i64]; omega
      have hEs := fun u v => ((hEq.setCell (p := ⟨s + 1 + 1, 0, none⟩) (show wd.heap.size ≤ s + 1 + 1 by omega) u).setCell (p := ⟨s + 1 + 1 + 1, 0, none⟩) (show wd.heap.size ≤ s + 1 + 1 + 1 by omega) v).drew
      have hBs := fun u v => two_boxes b4q b5q (by omega) u v
      have hFs := fun u v => (((hFq.trans ((KeepsOthers.setCell _ ⟨s + 1 + 1, 0, none⟩ u).from _)).trans ((KeepsOthers.setCell _ ⟨s + 1 + 1 + 1, 0, none⟩ v).from _)).trans ((KeepsOthers.drew _).from _))
      gi_region_with_o (fail)
      all_goals
        gi_wp2
        refine ⟨hFs _ _, hEs _ _, (pre, x), ?_, ?_, rfl, rfl, hN, HO.out⟩
        · rw [← HS.out]; exact (hBs _ _).1
        · rw [List.length_append]; exact (hBs _ _).2
  case done =>
    rintro D xs W hD hxs ⟨hE, b4, b5, hN⟩ hK
    have hc4 := b4.cell
    have hf4 := b4.frozen
    have hc5 := b5.cell
    have hf5 := b5.frozen
    rw [hxs] at hN
    have HN := Lib.hid (num_none hN)
    clear hN hxs
    go_wp2
    have hK2 : ((W.setCell ⟨s + 1 + 1, 0, none⟩ (.int .i64 0)).setCell ⟨s + 1 + 1 + 1, 0, none⟩ (.int .i64 0)).heap[D]? = some (.deferred (some [])) := ((KeepsOthers.setCell W ⟨s + 1 + 1, 0, none⟩ (.int .i64 0)).trans (KeepsOthers.setCell _ ⟨s + 1 + 1 + 1, 0, none⟩ (.int .i64 0))).same D _ hK rfl
    have hB2 := two_boxes b4 b5 (by omega) (.int .i64 0) (.int .i64 0)
    have hE2 : Ext wd ((W.setCell ⟨s + 1 + 1, 0, none⟩ (.int .i64 0)).setCell ⟨s + 1 + 1 + 1, 0, none⟩ (.int .i64 0)) := ((hE.setCell (p := ⟨s + 1 + 1, 0, none⟩) (show wd.heap.size ≤ s + 1 + 1 by omega) (.int .i64 0)).setCell (p := ⟨s + 1 + 1 + 1, 0, none⟩) (show wd.heap.size ≤ s + 1 + 1 + 1 by omega) (.int .i64 0))
    clear hc4 hf4 hc5 hf5
    generalize World.setCell _ _ _ = W6 at *
    have c4 := (boxed_turned (o' := .deferred none) (show Boxed W6 _ _ _ from hB2.1) hK2 rfl).cell
    have c5 := (boxed_turned (o' := .deferred none) (show Boxed W6 _ _ _ from hB2.2) hK2 rfl).cell
    refine ret_mark hK2 (v := .tuple #[.int .i64 0, .int .i64 0]) (by simp [results, Tryd.results86, go_sem, c4, c5]) ⟨by rw [HN.out], hEd.trans (hE2.putObj (by omega) _)⟩
  case stop =>
    rintro D c' pre W hD hpre ⟨hE, ⟨p, x⟩, b4, b5, rfl, rfl, hN, hO⟩ hK
    rw [its_snoc] at hpre
    have HN := Lib.hid (num_here hN hO hpre)
    clear hN hpre hO
    go_wp2
    have c4 := (boxed_turned (o' := .deferred none) b4 hK rfl).cell
    have c5 := (boxed_turned (o' := .deferred none) b5 hK rfl).cell
    refine ret_mark hK (v := .tuple #[.int .i64 (x.1.first + d.d - 1), .int .i64 ((p.length : Int) + 1)]) (by simp [results, Tryd.results86, go_sem, c4, c5]) ⟨by rw [HN.out, its_length], hEd.trans (hE.putObj (by omega) _)⟩
end Go.Proofs.YthmjpbafbohelaaDoor

namespace Go.Proofs.YthmjpbafbohelaaDoor
open Go Go.RowKit Go.Shelf
attribute [local go_sem] Oper.semAt_some gv_yes

theorem held_set4 {W : World} {b : Nat} {t : TypeId} {v0 v1 v2 v3 : Value} (h : Held W b t #[v0, v1, v2, v3]) (u0 u1 u2 u3 : Value) :
    Held ((((W.setCell ⟨b, 0, none⟩ u0).setCell ⟨b, 1, none⟩ u1).setCell ⟨b, 2, none⟩ u2).setCell ⟨b, 3, none⟩ u3) b t #[u0, u1, u2, u3] := by
  unfold Held at h ⊢
  simp [World.setCell, Array.getElem?_modify, h]
theorem four_one {W : World} {b b' : Nat} {t t' : TypeId} {v0 v1 v2 v3 v' : Value} (h : Held W b t #[v0, v1, v2, v3]) (h' : Boxed W b' t' v') (hne : b ≠ b') (u0 u1 u2 u3 u' : Value) :
    Held (((((W.setCell ⟨b, 0, none⟩ u0).setCell ⟨b, 1, none⟩ u1).setCell ⟨b, 2, none⟩ u2).setCell ⟨b, 3, none⟩ u3).setCell ⟨b', 0, none⟩ u') b t #[u0, u1, u2, u3] ∧
    Boxed (((((W.setCell ⟨b, 0, none⟩ u0).setCell ⟨b, 1, none⟩ u1).setCell ⟨b, 2, none⟩ u2).setCell ⟨b, 3, none⟩ u3).setCell ⟨b', 0, none⟩ u') b' t' u' ∧
    KeepsOthers W (((((W.setCell ⟨b, 0, none⟩ u0).setCell ⟨b, 1, none⟩ u1).setCell ⟨b, 2, none⟩ u2).setCell ⟨b, 3, none⟩ u3).setCell ⟨b', 0, none⟩ u') ∧
    ∀ wd, Ext wd W → wd.heap.size ≤ b → wd.heap.size ≤ b' → Ext wd (((((W.setCell ⟨b, 0, none⟩ u0).setCell ⟨b, 1, none⟩ u1).setCell ⟨b, 2, none⟩ u2).setCell ⟨b, 3, none⟩ u3).setCell ⟨b', 0, none⟩ u') := by
  refine ⟨(held_set4 h u0 u1 u2 u3).other hne u', ?_, ((((KeepsOthers.setCell _ _ _).trans (KeepsOthers.setCell _ _ _)).trans (KeepsOthers.setCell _ _ _)).trans (KeepsOthers.setCell _ _ _)).trans (KeepsOthers.setCell _ _ _), fun wd e h1 h2 => ((((e.setCell h1 _).setCell h1 _).setCell h1 _).setCell h1 _).setCell h2 _⟩
  have h2 : Boxed ((((W.setCell ⟨b, 0, none⟩ u0).setCell ⟨b, 1, none⟩ u1).setCell ⟨b, 2, none⟩ u2).setCell ⟨b, 3, none⟩ u3) b' t' v' := by
    unfold Boxed at h' ⊢
    rw [← h']
    simp [World.setCell, Array.getElem?_modify, hne]
  exact h2.set u'
def NotDay (c : Cal) (n : Int) (l : List It) : Prop := ∀ x, x ∈ l → ¬ (x.first ≤ n ∧ n - x.first < x.len c)
theorem atFrom_none {c : Cal} {n : Int} : ∀ {l : List It}, NotDay c n l → c.atFrom n l = none
  | [], _ => rfl
  | x :: l, h => by rw [Cal.atFrom, if_neg (h x (List.mem_cons_self ..))]; exact atFrom_none (fun y hy => h y (List.mem_cons_of_mem _ hy))
theorem atFrom_here {c : Cal} {n : Int} {x : It} (hx : x.first ≤ n ∧ n - x.first < x.len c) : ∀ (pre l : List It), NotDay c n pre → c.atFrom n (pre ++ x :: l) = some ⟨x.y, x.n, x.s, n - x.first + 1⟩
  | [], l, _ => by simp [Cal.atFrom, hx]
  | y :: pre, l, h => by rw [List.cons_append, Cal.atFrom, if_neg (h y (List.mem_cons_self ..)), atFrom_here hx pre l (fun z hz => h z (List.mem_cons_of_mem _ hz))]
theorem at_none {c : Cal} {n : Int} (h : NotDay c n c.items) : c.at? n = none := atFrom_none h
theorem at_here {c : Cal} {n : Int} {pre : List It} {x : It} (hN : NotDay c n pre) (hx : x.first ≤ n ∧ n - x.first < x.len c) (hp : pre ++ [x] <+: c.items) : c.at? n = some ⟨x.y, x.n, x.s, n - x.first + 1⟩ := by
  obtain ⟨t, ht⟩ := hp
  rw [Cal.at?, ← ht, List.append_assoc, List.singleton_append, atFrom_here hx pre t hN]
theorem notDay_snoc {c : Cal} {n : Int} {l : List It} {x : It} (h : NotDay c n l) (hx : ¬ (x.first ≤ n ∧ n - x.first < x.len c)) : NotDay c n (l ++ [x]) := fun y hy => by
  rcases List.mem_append.1 hy with hy | hy
  · exact h y hy
  · rw [List.mem_singleton.1 hy]; exact hx
def Dt.val (d : Dt) : Value := .agg #[.int .i64 d.y, .int .i64 d.m, .bool d.s, .int .i64 d.d]
def atOk (o : Option Dt) : Int := if o.isSome then 0 else 8

def atW (A A' : Option Addr) (ca cb : Nat) (c : Cal) (n : Int) (w : World) : World := (w.alloc (.cells #[.slice A c.nk ca, .slice A' c.ny cb] 25)).alloc (.cells #[.int .i64 n] 3)
set_option maxRecDepth 100000 in
set_option maxHeartbeats 4000000 in
theorem at_any (A A' : Option Addr) (ca cb : Nat) (c : Cal) (n : Int) (w : World) (hC : CalAt w A ca A' cb c) (hlg : ∀ i, i < c.ny → 0 ≤ (c.yr i).lg ∧ (c.yr i).lg ≤ 8191) (hny : c.ny ≤ 400) (_hn1 : -9223372036854775808 ≤ n) (hn2 : n ≤ 9223372036854775807) :
    Calls Tryd.prog 49 #[.agg #[.slice A c.nk ca, .slice A' c.ny cb], .int .i64 n] w fun e w' => e = .returned (.tuple #[((c.at? n).getD zeroDt).val, .int .i64 (atOk (c.at? n))]) ∧ Ext w w' := by
  refine callsIn_wide.1 (callsIn_of_wp_marks (F := Fence.wide) (n := 9) Tryd.func49 rfl trivial (wpIn_wide.2 ?_) rfl)
  simp only [Tryd.ntmps49, List.size_toArray, List.length_cons, List.length_nil, Nat.reduceAdd, Nat.reduceSub, Array.replicate_succ, Array.replicate_zero, List.push_toArray, List.append_toArray, List.nil_append, List.cons_append]
  go_wp2_with (go_at_call 88; refine (months_any _ _ _ _ c _).mono ?_; rintro e w' ⟨rfl, rfl⟩)
  obtain ⟨wd, hwd⟩ : ∃ wd, wd = atW A A' ca cb c n w := ⟨_, rfl⟩
  have hEd : Ext w wd := by rw [hwd]; unfold atW; exact (by repeat (first | exact Ext.refl _ | (refine Ext.alloc ?_ _) | (refine Ext.trans ?_ (by assumption))))
  have hsd : wd.heap.size = w.heap.size + 1 + 1 := by rw [hwd]; simp [atW]
  have hdb : Held wd (w.heap.size + 1) 3 #[.int .i64 n] := by rw [hwd]; unfold atW; exact (by repeat (first | (refine Held.at _ _ _ _ ?_; (simp; done)) | refine Held.alloc ?_ _))
  have hcb : Held wd w.heap.size 25 #[.slice A c.nk ca, .slice A' c.ny cb] := by rw [hwd]; unfold atW; exact (by repeat (first | (refine Held.at _ _ _ _ ?_; (simp; done)) | refine Held.alloc ?_ _))
  generalize hW5 : World.alloc _ _ = W5
  have hE5 : Ext wd W5 := by rw [← hW5, hwd]; unfold atW; exact (by repeat (first | exact Ext.refl _ | (refine Ext.alloc ?_ _) | (refine Ext.trans ?_ (by assumption))))
  have hs5 : W5.heap.size = w.heap.size + 1 + 1 + 1 + 1 + 1 := by rw [← hW5]; simp
  have b4 : Held W5 (w.heap.size + 1 + 1) 29 #[.int .i64 0, .int .i64 0, .bool false, .int .i64 0] := by rw [← hW5]; exact (by repeat (first | (refine Held.at _ _ _ _ ?_; (simp; done)) | refine Held.alloc ?_ _))
  have b5 : Boxed W5 (w.heap.size + 1 + 1 + 1) 30 (.int .i64 0) := by rw [← hW5]; exact Held.boxed (by repeat (first | (refine Held.at _ _ _ _ ?_; (simp; done)) | refine Held.alloc ?_ _))
  have hB : W5.cell? ⟨w.heap.size + 1 + 1 + 1 + 1, 1, none⟩ = some (.slice A' c.ny cb) := by rw [← hW5]; exact (Held.cell (t := 25) (cs := #[.slice A c.nk ca, .slice A' c.ny cb]) (by repeat (first | (refine Held.at _ _ _ _ ?_; (simp; done)) | refine Held.alloc ?_ _)) 1)
  clear hW5 hwd
  generalize hs : w.heap.size = s at *
  refine loop_months (A := A) (A' := A') (ca := ca) (cb := cb) (c := c) (B := s + 1 + 1 + 1 + 1) wd W5 rfl rfl (hC.ext hEd) hlg hny hE5 hB (by omega)
    (fun pre W => Ext wd W ∧ Held W (s + 1 + 1) 29 #[.int .i64 0, .int .i64 0, .bool false, .int .i64 0] ∧ Boxed W (s + 1 + 1 + 1) 30 (.int .i64 0) ∧ NotDay c n (Mo.its pre))
    (fun c' pre W => Ext wd W ∧ ∃ p : List (Mo c) × Mo c, Held W (s + 1 + 1) 29 #[.int .i64 (p.2.1.y : Int), .int .i64 p.2.1.n, .bool p.2.1.s, .int .i64 (n - p.2.1.first + 1)] ∧ Boxed W (s + 1 + 1 + 1) 30 (.int .i64 0) ∧
      c' = .ret ∧ pre = p.1 ++ [p.2] ∧ NotDay c n (Mo.its p.1) ∧ p.2.1.first ≤ n ∧ n - p.2.1.first < p.2.1.len c)
    (OwnFrom.and (ownFrom_ext (by omega)) (OwnFrom.and (ownFrom_held _ _ _ _) (OwnFrom.and (ownFrom_box _ _ _ _) (ownFrom_pure _ _))))
    (fun c' => OwnFrom.and (ownFrom_ext (by omega)) (ownFrom_ex fun p => OwnFrom.and (ownFrom_held _ _ _ _) (OwnFrom.and (ownFrom_box _ _ _ _) (ownFrom_pure _ _))))
    ⟨hE5, b4, b5, fun _ h => (by cases h)⟩
    (AxM (s + 1 + 1 + 1 + 1) (fun y Bx => #[.agg #[.slice A c.nk ca, .slice A' c.ny cb], .int .i64 n, .pointer (some ⟨s, 0, none⟩), .pointer (some ⟨s + 1, 0, none⟩), .pointer (some ⟨s + 1 + 1, 0, none⟩), .pointer (some ⟨s + 1 + 1 + 1, 0, none⟩), .pointer (some ⟨Bx, 0, none⟩), .int .i64 y.first,
      .agg #[.slice A c.nk ca, .slice A' c.ny cb], .func (.func 118) #[] #[.pointer (some ⟨s + 1 + 1 + 1 + 1, 0, none⟩)], .agg #[.int .i64 (y.y : Int), .int .i64 y.n, .bool y.s], .int .i64 y.first, undef, undef, undef, undef, undef, undef, undef, undef, undef, undef, undef, undef, undef, undef, undef, undef, undef, undef, undef, undef, undef, undef, undef, undef])) axM_own ?assign ?body ?done ?stop
  case assign =>
    intro l pre x W K hi hK
    simp only [Mo.enc]
    gi_wp2
    exact hK _ _ (keepsFrom_ext ((Ext.refl W).alloc _)) (KpY.of_ext ((Ext.refl W).alloc _) hi.1.size) ⟨hi.1.alloc _, hi.2.1.alloc _, hi.2.2.1.alloc _, hi.2.2.2⟩ ⟨W.heap.size, hi.2.2.1.lt, Held.new _ _ _, rfl⟩
  case body =>
    rintro l pre x a' W hl ⟨hE, b4, b5, hN⟩ ⟨Bx, hBx, hm, rfl⟩ hlt
    have hxok := x.2
    have hx1 := hxok.f1
    have hx2 := hxok.f2
    have hxy := hxok.y
    have hxn := hxok.n1
    have hxn2 := hxok.n12
    have hCW := (hC.ext hEd).ext hE
    have hlx := hlg _ hxy
    clear hxok
    have hdW := hdb.ext hE
    have hcW := hcb.ext hE
    obtain ⟨m0, m1, m2⟩ := hm.c3
    have e0 := hdW.c1
    obtain ⟨k0, k1⟩ := hcW.c2
    have hl1 := hm.lt
    have hl2 := hdW.lt
    have hl3 := hcW.lt
    have HL : Hid (x.1.len c = (c.yr x.1.y).len x.1.n x.1.s) := rfl
    by_cases hg : x.1.first ≤ n
    · have hgd : decide (x.1.first ≤ n) = true := decide_eq_true hg
      have hsub : IntKind.i64.wrap (n - x.1.first) = n - x.1.first := by rw [IntKind.wrap_i64]; omega
      gi_upto_region 4 with (fail)
      refine wpIn_region_xw W mixed (by kernel_rfl) (by kernel_rfl) (by repeat (first | exact Ext.refl _ | (refine Ext.alloc ?_ _) | (refine Ext.trans ?_ (by assumption)))) ?_
      intro hne hrx hry
      try simp only []
      try simp only [List.append_eq, List.cons_append, List.nil_append]
      skip
      repeat (first
        | go_big_quiet_skip
        | (go_big_quiet_want; go_big_quiet_op; go_big_quiet_on)
        | (go_big_quiet_want; go_big_quiet_op; apply Exists.intro; refine ⟨fun u => ?_, ?_⟩
           · first
               | (go_at_call 89; refine (of_any _ _ _ _ c x.1.y _ _ _ (hCW.ext (Ext.trans (by repeat (first | exact Ext.refl _ | (refine Ext.alloc ?_ _) | (refine Ext.trans ?_ (by assumption)))) u.e)) hxy hxn hxn2 hlx.1 hlx.2).mono ?_; rintro e w' ⟨rfl, hb⟩; exact ⟨rfl, u.back hb⟩)
           go_big_quiet_on))
      clear hne hry hrx
      refine wpQuiet_nil ?_
      intro wq hq
      obtain ⟨hcwq, hfwq, hzwq⟩ := Ext.rules hq
      try simp only [World.size_alloc] at hzwq
      obtain ⟨hcbwq, hfbwq, hzbwq⟩ := Ext.rules (show Ext W wq from (by repeat (first | exact Ext.refl _ | (refine Ext.alloc ?_ _) | (refine Ext.trans ?_ (by assumption)))))
      clear hcwq hfwq
      by_cases hd : n - x.1.first < (c.yr x.1.y).len x.1.n x.1.s
      · rw [decide_eq_true hd]
        clear m0 m1 m2 e0 k0 k1
        obtain ⟨m0, m1, m2⟩ := (hm.ext hq).c3
        have e0 := (hdW.ext hq).c1
        have hl1 := (hm.ext hq).lt
        have hl2 := (hdW.ext hq).lt
        have b4q := b4.ext hq
        have b5q := boxed_ext b5 hq
        obtain ⟨w0, w1, w2, w3⟩ := b4q.c4
        have f0 := b4q.frozen 0
        have f1 := b4q.frozen 1
        have f2 := b4q.frozen 2
        have f3 := b4q.frozen 3
        have w5 := b5q.cell
        have f5 := b5q.frozen
        clear hcbwq hfbwq
        obtain ⟨g4, g5, gK, gE⟩ := four_one b4q b5q (by omega) (.int .i64 (x.1.y : Int)) (.int .i64 x.1.n) (.bool x.1.s) (.int .i64 (n - x.1.first + 1)) (.int .i64 0)
        gi_wp2
        exact ⟨(keepsFrom_ext hq).trans (gK.from _), gE _ (hE.trans hq) (by omega) (by omega), (pre, x), g4, g5, rfl, rfl, hN, hg, by rw [HL.out]; exact hd⟩
      · rw [decide_eq_false hd]
        have HD := Lib.hid hd
        clear hd
        gi_wp2
        exact ⟨keepsFrom_ext hq, KpY.of_ext hq (by have := hE.size; omega), hE.trans hq, b4.ext hq, boxed_ext b5 hq, by rw [its_snoc]; exact notDay_snoc hN (fun h => by have h2 := h.2; rw [HL.out] at h2; have := HD.out; omega)⟩
    · have hgd : decide (x.1.first ≤ n) = false := decide_eq_false hg
      have HG := Lib.hid hg
      clear hg
      gi_upto_region 4 with (fail)
      refine wpIn_region_xw W mixed (by kernel_rfl) (by kernel_rfl) (by repeat (first | exact Ext.refl _ | (refine Ext.alloc ?_ _) | (refine Ext.trans ?_ (by assumption)))) ?_
      intro hne hrx hry
      try simp only []
      try simp only [List.append_eq, List.cons_append, List.nil_append]
      skip
      repeat (first
        | go_big_quiet_skip
        | (go_big_quiet_want; go_big_quiet_op; go_big_quiet_on))
      clear hne hry hrx
      refine wpQuiet_nil ?_
      intro wq hq
      obtain ⟨hcwq, hfwq, hzwq⟩ := Ext.rules hq
      try simp only [World.size_alloc] at hzwq
      obtain ⟨hcbwq, hfbwq, hzbwq⟩ := Ext.rules (show Ext W wq from (by repeat (first | exact Ext.refl _ | (refine Ext.alloc ?_ _) | (refine Ext.trans ?_ (by assumption)))))
      clear hcwq hfwq
      gi_wp2
      exact ⟨keepsFrom_ext hq, KpY.of_ext hq (by have := hE.size; omega), hE.trans hq, b4.ext hq, boxed_ext b5 hq, by rw [its_snoc]; exact notDay_snoc hN (fun h => by have := HG.out; have := h.1; omega)⟩
  case done =>
    rintro D xs W hD hxs ⟨hE, b4, b5, hN⟩ hK
    obtain ⟨w0, w1, w2, w3⟩ := b4.c4
    have f0 := b4.frozen 0
    have f1 := b4.frozen 1
    have f2 := b4.frozen 2
    have f3 := b4.frozen 3
    have w5 := b5.cell
    have f5 := b5.frozen
    rw [hxs] at hN
    have HN := Lib.hid (at_none hN)
    clear hN hxs
    obtain ⟨g4, g5, gK, gE⟩ := four_one b4 b5 (by omega) (.int .i64 0) (.int .i64 0) (.bool false) (.int .i64 0) (.int .i64 8)
    have hE2 := gE _ hE (by omega) (by omega)
    have hK2 := gK.same D _ hK rfl
    go_wp2
    clear w0 w1 w2 w3 f0 f1 f2 f3 w5 f5 gK gE b4 b5
    generalize World.setCell _ _ _ = W6 at *
    obtain ⟨c0, c1, c2, c3⟩ := (show Held (W6.putObj D (.deferred none)) _ _ _ from (grownBy_putObj' W6 D (.deferred none)).block _ g4.lt (fun e => by cases e; rw [show W6.heap[s + 1 + 1]? = _ from g4] at hK2; cases hK2) |>.trans g4).c4
    have c5 := (boxed_turned (o' := .deferred none) (show Boxed W6 _ _ _ from g5) hK2 rfl).cell
    refine ret_mark hK2 (v := .tuple #[zeroDt.val, .int .i64 8]) (by simp [results, Tryd.results49, go_sem, c0, c1, c2, c3, c5, Dt.val, zeroDt]) ⟨by rw [HN.out]; rfl, hEd.trans (hE2.putObj (by omega) _)⟩
  case stop =>
    rintro D c' pre W hD hpre ⟨hE, ⟨p, x⟩, b4, b5, rfl, rfl, hN, hg, hd⟩ hK
    rw [its_snoc] at hpre
    have HN := Lib.hid (at_here hN ⟨hg, hd⟩ hpre)
    clear hN hpre hg hd
    go_wp2
    obtain ⟨c0, c1, c2, c3⟩ := (show Held (W.putObj D (.deferred none)) _ _ _ from (grownBy_putObj' W D (.deferred none)).block _ b4.lt (fun e => by cases e; rw [show W.heap[s + 1 + 1]? = _ from b4] at hK; cases hK) |>.trans b4).c4
    have c5 := (boxed_turned (o' := .deferred none) b5 hK rfl).cell
    refine ret_mark hK (v := .tuple #[(Dt.mk x.1.y x.1.n x.1.s (n - x.1.first + 1)).val, .int .i64 0]) (by simp [results, Tryd.results49, go_sem, c0, c1, c2, c3, c5, Dt.val]) ⟨by rw [HN.out]; rfl, hEd.trans (hE.putObj (by omega) _)⟩
end Go.Proofs.YthmjpbafbohelaaDoor

namespace Go.Proofs.YthmjpbafbohelaaDoor
open Go Go.RowKit
attribute [local go_sem] gv_yes

theorem checks_none {c : Cal} {f : Nat → Dt} : c.checks f 0 = c.chk := by simp [Cal.checks, Cal.chk]
theorem rows_none (w : World) (n : Nat) (g : Nat → List Value) : RowsAt w none 0 n g := fun h => absurd h (by omega)
end Go.Proofs.YthmjpbafbohelaaDoor

namespace Go.Proofs.YthmjpbafbohelaaDoor
open Go Go.RowKit
attribute [local go_sem] gv_yes

def Cal.noMonth (c : Cal) (y m : Int) (s : Bool) : Bool := decide (m < 1) || decide (12 < m) || (s && ((c.yrI y).db != m))
def Cal.lenR (c : Cal) (y m : Int) (s : Bool) : Int × Int :=
  if c.valid then (if 0 ≤ y ∧ y < c.ny then (if c.noMonth y m s then (0, 4) else ((c.yrI y).len m s, 0)) else (0, 8)) else (0, 70)
set_option maxRecDepth 100000 in
set_option maxHeartbeats 1000000 in
theorem lengthX_any (A A' : Option Addr) (ca cb : Nat) (c : Cal) (y m : Int) (s : Bool) (w : World) (hC : CalAt w A ca A' cb c) :
    Calls Tryd.prog 38 #[.agg #[.slice A c.nk ca, .slice A' c.ny cb], .int .i64 y, .int .i64 m, .bool s] w fun e w' => e = .returned (.tuple #[.int .i64 (c.lenR y m s).1, .int .i64 (c.lenR y m s).2]) ∧ Ext w w' := by
  have hny := hC.ny_le
  go_enter Tryd.func38, Tryd.ntmps38
  go_upto_region 1 with (fail)
  refine wp_region_xl w (by repeat (first | exact Ext.refl _ | (refine Ext.alloc ?_ _) | (refine Ext.trans ?_ (by assumption)))) ?_
  intro hne hrx hry
  try simp only []
  try simp only [List.append_eq, List.cons_append, List.nil_append]
  have hrx0 := fun u o => hrx u (w.heap.size) o (by first | omega | (simp; done) | (simp; omega))
  skip
  repeat (first
    | go_big_quiet_skip
    | ((with_reducible apply q_and)
       · exact rfl
       · exact rfl
       · exact rfl
       intro K hK
       unfold Then; go_big_quiet_op; (with_reducible refine hK _ ?_); clear hK K)
    | ((with_reducible apply q_or)
       · exact rfl
       · exact rfl
       · exact rfl
       intro K hK
       unfold Then; go_big_quiet_op; (with_reducible refine hK _ ?_); clear hK K)
    | (go_big_quiet_want; go_big_quiet_op; go_big_quiet_on)
    | (go_big_quiet_want; go_big_quiet_op; apply Exists.intro; refine ⟨fun u => ?_, ?_⟩
       · first
           | (go_at_call 48; refine (checks_any _ _ _ _ c none 0 0 (fun _ => ⟨0, 0, false, 0⟩) _ (hC.ext (Ext.trans (by repeat (first | exact Ext.refl _ | (refine Ext.alloc ?_ _) | (refine Ext.trans ?_ (by assumption)))) u.e)) (rows_none _ _ _) (by omega)).mono ?_; rintro e w' ⟨rfl, hb⟩; exact ⟨rfl, u.back hb⟩)
       go_big_quiet_on)
    | ((with_reducible apply q_and_g)
       · first | exact wanted_pt rfl rfl rfl | exact wanted_pf rfl rfl rfl | exact wanted_gt rfl rfl rfl | exact wanted_gf rfl rfl rfl
       · exact rfl
       · exact rfl
       · exact rfl
       intro K hK
       unfold Then; go_big_quiet_op; (with_reducible refine hK _ ?_); clear hK K)
    | ((with_reducible apply q_or_g)
       · first | exact wanted_pt rfl rfl rfl | exact wanted_pf rfl rfl rfl | exact wanted_gt rfl rfl rfl | exact wanted_gf rfl rfl rfl
       · exact rfl
       · exact rfl
       · exact rfl
       intro K hK
       unfold Then; go_big_quiet_op; (with_reducible refine hK _ ?_); clear hK K)
    | ((with_reducible apply q_sym)
       · first | exact wanted_pt rfl rfl rfl | exact wanted_pf rfl rfl rfl | exact wanted_gt rfl rfl rfl | exact wanted_gf rfl rfl rfl
       apply Exists.intro
       refine And.intro (fun hgb => ?_) ?_
       · intro u
         try simp at hgb
         go_simp
         try simp only [if_pos hsl]
         try simp only [if_pos (hin (by omega))]
         try (simp only [hd0 (by omega)]; go_simp)
         try (rw [hlook _ (Ext.trans (by repeat (first | exact Ext.refl _ | (refine Ext.alloc ?_ _) | (refine Ext.trans ?_ (by assumption)))) u.e) (hlk0 hgb)]; go_simp)
         first
           | (with_reducible exact rfl)
           | (go_at_call 48; refine (checks_any _ _ _ _ c none 0 0 (fun _ => ⟨0, 0, false, 0⟩) _ (hC.ext (Ext.trans (by repeat (first | exact Ext.refl _ | (refine Ext.alloc ?_ _) | (refine Ext.trans ?_ (by assumption)))) u.e)) (rows_none _ _ _) (by omega)).mono ?_; rintro e w' ⟨rfl, hb⟩; exact ⟨rfl, u.back hb⟩)
       intro K hK
       unfold Then; go_big_quiet_op; (with_reducible refine hK _ ?_); clear hK K))
  clear hne hry hrx hrx0
  refine wpQuiet_nil ?_
  intro wq hq
  obtain ⟨hcwq, hfwq, hzwq⟩ := Ext.rules hq
  try simp only [World.size_alloc] at hzwq
  have hk0wq := fun o => hcwq (w.heap.size) o (by first | omega | (simp; done) | (simp; omega))
  have hj0wq := fun o => hfwq (w.heap.size) o (by first | omega | (simp; done) | (simp; omega))
  have hl0wq : w.heap.size < wq.heap.size := (by first | omega | (simp; done) | (simp; omega))
  obtain ⟨hcbwq, hfbwq, hzbwq⟩ := Ext.rules (show Ext w wq from (by repeat (first | exact Ext.refl _ | (refine Ext.alloc ?_ _) | (refine Ext.trans ?_ (by assumption)))))
  clear hcwq hfwq
  simp only [checks_none]
  cases hv : c.valid
  · rw [chk_no hv]
    go_wp2
    go_ret2
    exact ⟨by simp [Cal.lenR, hv], (by repeat (first | exact Ext.refl _ | (refine Ext.alloc ?_ _) | (refine Ext.trans ?_ (by assumption))))⟩
  · rw [chk_yes hv]
    go_upto_region 4 with (fail)
    refine wp_region_xl w (by repeat (first | exact Ext.refl _ | (refine Ext.alloc ?_ _) | (refine Ext.trans ?_ (by assumption)))) ?_
    intro hne hrx hry
    try simp only []
    try simp only [List.append_eq, List.cons_append, List.nil_append]
    have hrx0 := fun u o => hrx u (w.heap.size) o (by first | omega | (simp; done) | (simp; omega))
    skip
    repeat (first
      | go_big_quiet_skip
      | ((with_reducible apply q_and)
         · exact rfl
         · exact rfl
         · exact rfl
         intro K hK
         unfold Then; go_big_quiet_op; (with_reducible refine hK _ ?_); clear hK K)
      | ((with_reducible apply q_or)
         · exact rfl
         · exact rfl
         · exact rfl
         intro K hK
         unfold Then; go_big_quiet_op; (with_reducible refine hK _ ?_); clear hK K)
      | (go_big_quiet_want; go_big_quiet_op; go_big_quiet_on)
      | (go_big_quiet_want; go_big_quiet_op; apply Exists.intro; refine ⟨fun u => ?_, ?_⟩
         · first
             | (go_at_call 87; refine (hasYear_any _ _ _ _ c y _ hny).mono ?_; rintro e w' ⟨rfl, hb⟩; exact ⟨rfl, u.back hb⟩)
         go_big_quiet_on)
      | ((with_reducible apply q_and_g)
         · first | exact wanted_pt rfl rfl rfl | exact wanted_pf rfl rfl rfl | exact wanted_gt rfl rfl rfl | exact wanted_gf rfl rfl rfl
         · exact rfl
         · exact rfl
         · exact rfl
         intro K hK
         unfold Then; go_big_quiet_op; (with_reducible refine hK _ ?_); clear hK K)
      | ((with_reducible apply q_or_g)
         · first | exact wanted_pt rfl rfl rfl | exact wanted_pf rfl rfl rfl | exact wanted_gt rfl rfl rfl | exact wanted_gf rfl rfl rfl
         · exact rfl
         · exact rfl
         · exact rfl
         intro K hK
         unfold Then; go_big_quiet_op; (with_reducible refine hK _ ?_); clear hK K)
      | ((with_reducible apply q_sym)
         · first | exact wanted_pt rfl rfl rfl | exact wanted_pf rfl rfl rfl | exact wanted_gt rfl rfl rfl | exact wanted_gf rfl rfl rfl
         apply Exists.intro
         refine And.intro (fun hgb => ?_) ?_
         · intro u
           try simp at hgb
           go_simp
           try simp only [if_pos hsl]
           try simp only [if_pos (hin (by omega))]
           try (simp only [hd0 (by omega)]; go_simp)
           try (rw [hlook _ (Ext.trans (by repeat (first | exact Ext.refl _ | (refine Ext.alloc ?_ _) | (refine Ext.trans ?_ (by assumption)))) u.e) (hlk0 hgb)]; go_simp)
           first
             | (with_reducible exact rfl)
             | (go_at_call 87; refine (hasYear_any _ _ _ _ c y _ hny).mono ?_; rintro e w' ⟨rfl, hb⟩; exact ⟨rfl, u.back hb⟩)
         intro K hK
         unfold Then; go_big_quiet_op; (with_reducible refine hK _ ?_); clear hK K))
    clear hne hry hrx hrx0
    refine wpQuiet_nil ?_
    intro wn hwn
    obtain ⟨hcwn, hfwn, hzwn⟩ := Ext.rules hwn
    try simp only [World.size_alloc] at hzwn
    have hk0wn := fun o => hcwn (w.heap.size) o (by first | omega | (simp; done) | (simp; omega))
    have hj0wn := fun o => hfwn (w.heap.size) o (by first | omega | (simp; done) | (simp; omega))
    have hl0wn : w.heap.size < wn.heap.size := (by first | omega | (simp; done) | (simp; omega))
    obtain ⟨hcbwn, hfbwn, hzbwn⟩ := Ext.rules (show Ext w wn from (by repeat (first | exact Ext.refl _ | (refine Ext.alloc ?_ _) | (refine Ext.trans ?_ (by assumption)))))
    clear hcwn hfwn
    by_cases hy : 0 ≤ y ∧ y < c.ny
    · obtain ⟨b, off, rfl, hb, c0, c1, c2, c3⟩ := hC.yearI hy.1 hy.2
      have hbo : b < wn.heap.size := by omega
      have hlg := valid_lg hv y.toNat (by omega)
      simp only [decide_eq_true hy.1, decide_eq_true hy.2, decide_eq_true hy, Bool.not_true, Bool.or_false]
      go_upto_region 7 with (fail)
      refine wp_region_xl wn (by repeat (first | exact Ext.refl _ | (refine Ext.alloc ?_ _) | (refine Ext.trans ?_ (by assumption)))) ?_
      intro hne hrx hry
      try simp only []
      try simp only [List.append_eq, List.cons_append, List.nil_append]
      have hrx0 := fun u o => hrx u (wn.heap.size) o (by first | omega | (simp; done) | (simp; omega))
      skip
      repeat (first
        | go_big_quiet_skip
        | ((with_reducible apply q_and)
           · exact rfl
           · exact rfl
           · exact rfl
           intro K hK
           unfold Then; go_big_quiet_op; (with_reducible refine hK _ ?_); clear hK K)
        | ((with_reducible apply q_or)
           · exact rfl
           · exact rfl
           · exact rfl
           intro K hK
           unfold Then; go_big_quiet_op; (with_reducible refine hK _ ?_); clear hK K)
        | (go_big_quiet_want; go_big_quiet_op; go_big_quiet_on)
        | ((with_reducible apply q_and_g)
           · first | exact wanted_pt rfl rfl rfl | exact wanted_pf rfl rfl rfl | exact wanted_gt rfl rfl rfl | exact wanted_gf rfl rfl rfl
           · exact rfl
           · exact rfl
           · exact rfl
           intro K hK
           unfold Then; go_big_quiet_op; (with_reducible refine hK _ ?_); clear hK K)
        | ((with_reducible apply q_or_g)
           · first | exact wanted_pt rfl rfl rfl | exact wanted_pf rfl rfl rfl | exact wanted_gt rfl rfl rfl | exact wanted_gf rfl rfl rfl
           · exact rfl
           · exact rfl
           · exact rfl
           intro K hK
           unfold Then; go_big_quiet_op; (with_reducible refine hK _ ?_); clear hK K)
        | ((with_reducible apply q_sym)
           · first | exact wanted_pt rfl rfl rfl | exact wanted_pf rfl rfl rfl | exact wanted_gt rfl rfl rfl | exact wanted_gf rfl rfl rfl
           apply Exists.intro
           refine And.intro (fun hgb => ?_) ?_
           · intro u
             try simp at hgb
             go_simp
             try simp only [if_pos hsl]
             try simp only [if_pos (hin (by omega))]
             try (simp only [hd0 (by omega)]; go_simp)
             try (rw [hlook _ (Ext.trans (by repeat (first | exact Ext.refl _ | (refine Ext.alloc ?_ _) | (refine Ext.trans ?_ (by assumption)))) u.e) (hlk0 hgb)]; go_simp)
             first
               | (with_reducible exact rfl)
           intro K hK
           unfold Then; go_big_quiet_op; (with_reducible refine hK _ ?_); clear hK K))
      clear hne hry hrx hrx0
      refine wpQuiet_nil ?_
      intro wm hwm
      obtain ⟨hcwm, hfwm, hzwm⟩ := Ext.rules hwm
      try simp only [World.size_alloc] at hzwm
      have hk0wm := fun o => hcwm (wn.heap.size) o (by first | omega | (simp; done) | (simp; omega))
      have hj0wm := fun o => hfwm (wn.heap.size) o (by first | omega | (simp; done) | (simp; omega))
      have hl0wm : wn.heap.size < wm.heap.size := (by first | omega | (simp; done) | (simp; omega))
      obtain ⟨hcbwm, hfbwm, hzbwm⟩ := Ext.rules (show Ext wn wm from (by repeat (first | exact Ext.refl _ | (refine Ext.alloc ?_ _) | (refine Ext.trans ?_ (by assumption)))))
      clear hcwm hfwm
      generalize hs : (decide (m < 1) || decide (12 < m) || (s && ((c.yrI y).db != m))) = x at *
      cases x
      · have hm : 1 ≤ m ∧ m ≤ 12 := by simp at hs; omega
        go_upto_region 9 with (fail)
        refine wp_region_xl wn (by repeat (first | exact Ext.refl _ | (refine Ext.alloc ?_ _) | (refine Ext.trans ?_ (by assumption)))) ?_
        intro hne hrx hry
        try simp only []
        try simp only [List.append_eq, List.cons_append, List.nil_append]
        have hrx0 := fun u o => hrx u (wn.heap.size) o (by first | omega | (simp; done) | (simp; omega))
        skip
        repeat (first
          | go_big_quiet_skip
          | ((with_reducible apply q_and)
             · exact rfl
             · exact rfl
             · exact rfl
             intro K hK
             unfold Then; go_big_quiet_op; (with_reducible refine hK _ ?_); clear hK K)
          | ((with_reducible apply q_or)
             · exact rfl
             · exact rfl
             · exact rfl
             intro K hK
             unfold Then; go_big_quiet_op; (with_reducible refine hK _ ?_); clear hK K)
          | (go_big_quiet_want; go_big_quiet_op; go_big_quiet_on)
          | (go_big_quiet_want; go_big_quiet_op; apply Exists.intro; refine ⟨fun u => ?_, ?_⟩
             · first
                 | (go_at_call 90; refine (length_any _ _ _ _ hm.1 hm.2 hlg.1 hlg.2).mono ?_; rintro e w' ⟨rfl, hb⟩; exact ⟨rfl, u.back hb⟩)
             go_big_quiet_on)
          | ((with_reducible apply q_and_g)
             · first | exact wanted_pt rfl rfl rfl | exact wanted_pf rfl rfl rfl | exact wanted_gt rfl rfl rfl | exact wanted_gf rfl rfl rfl
             · exact rfl
             · exact rfl
             · exact rfl
             intro K hK
             unfold Then; go_big_quiet_op; (with_reducible refine hK _ ?_); clear hK K)
          | ((with_reducible apply q_or_g)
             · first | exact wanted_pt rfl rfl rfl | exact wanted_pf rfl rfl rfl | exact wanted_gt rfl rfl rfl | exact wanted_gf rfl rfl rfl
             · exact rfl
             · exact rfl
             · exact rfl
             intro K hK
             unfold Then; go_big_quiet_op; (with_reducible refine hK _ ?_); clear hK K)
          | ((with_reducible apply q_sym)
             · first | exact wanted_pt rfl rfl rfl | exact wanted_pf rfl rfl rfl | exact wanted_gt rfl rfl rfl | exact wanted_gf rfl rfl rfl
             apply Exists.intro
             refine And.intro (fun hgb => ?_) ?_
             · intro u
               try simp at hgb
               go_simp
               try simp only [if_pos hsl]
               try simp only [if_pos (hin (by omega))]
               try (simp only [hd0 (by omega)]; go_simp)
               try (rw [hlook _ (Ext.trans (by repeat (first | exact Ext.refl _ | (refine Ext.alloc ?_ _) | (refine Ext.trans ?_ (by assumption)))) u.e) (hlk0 hgb)]; go_simp)
               first
                 | (with_reducible exact rfl)
                 | (go_at_call 90; refine (length_any _ _ _ _ hm.1 hm.2 hlg.1 hlg.2).mono ?_; rintro e w' ⟨rfl, hb⟩; exact ⟨rfl, u.back hb⟩)
             intro K hK
             unfold Then; go_big_quiet_op; (with_reducible refine hK _ ?_); clear hK K))
        clear hne hry hrx hrx0
        refine wpQuiet_nil ?_
        intro wz hwz
        obtain ⟨hcwz, hfwz, hzwz⟩ := Ext.rules hwz
        try simp only [World.size_alloc] at hzwz
        have hk0wz := fun o => hcwz (wn.heap.size) o (by first | omega | (simp; done) | (simp; omega))
        have hj0wz := fun o => hfwz (wn.heap.size) o (by first | omega | (simp; done) | (simp; omega))
        have hl0wz : wn.heap.size < wz.heap.size := (by first | omega | (simp; done) | (simp; omega))
        obtain ⟨hcbwz, hfbwz, hzbwz⟩ := Ext.rules (show Ext wn wz from (by repeat (first | exact Ext.refl _ | (refine Ext.alloc ?_ _) | (refine Ext.trans ?_ (by assumption)))))
        clear hcwz hfwz
        go_wp2
        go_ret2
        exact ⟨by simp [Cal.lenR, hv, hy, Cal.noMonth, hs]; rfl, (by repeat (first | exact Ext.refl _ | (refine Ext.alloc ?_ _) | (refine Ext.trans ?_ (by assumption))))⟩
      · go_wp2
        go_ret2
        exact ⟨by simp [Cal.lenR, hv, hy, Cal.noMonth, hs], (by repeat (first | exact Ext.refl _ | (refine Ext.alloc ?_ _) | (refine Ext.trans ?_ (by assumption))))⟩
    · have hy' : (!decide (0 ≤ y) || !decide (y < (c.ny : Int))) = true := by simp; omega
      try simp only [hy', decide_eq_false hy]
      go_wp2
      go_ret2
      exact ⟨by simp [Cal.lenR, hv, hy], (by repeat (first | exact Ext.refl _ | (refine Ext.alloc ?_ _) | (refine Ext.trans ?_ (by assumption))))⟩
end Go.Proofs.YthmjpbafbohelaaDoor

