/- Walks of the program's functions and plain facts, packed; proved: the lemmas below; no conditions but those that each states. -/
import Derived.Test.YthmjpbafbohelaaDoorK4
import Derived.Test.YthmjpbafbohelaaDoorK3
import Derived.Maps.AppendAt
import Derived.Laws.Append
import Derived.Test.YthmjpbafbohelaaDoorK2
import Derived.Test.YthmjpbafbohelaaDoorK1
namespace Go.Proofs.YthmjpbafbohelaaDoor
open Go Go.RowKit

/-- A post-condition that only the way on can meet. -/
def onQ (R : Act → World → Prop) : Exit → Act → World → Prop
  | .normal, a, w => R a w
  | _, _, _ => False
section
variable {P : Program} {ops : Array Oper} {md : Region.Mode} {C : World → Prop}
theorem onQ_other {R : Act → World → Prop} {Q : Exit → Act → World → Prop} {e : Exit} {a : Act} {w : World} (he : e ≠ .normal) (h : onQ R e a w) : Q e a w := by
  cases e <;> first | exact absurd rfl he | exact False.elim h
theorem onQ_lets {R : Act → World → Prop} (h : LetsOut (onQ R)) : False := by
  obtain ⟨_, _, h⟩ := h
  exact h
def wpSeqC (P : Program) (ops : Array Oper) (C : World → Prop) (R : Act → World → Prop) : List Oper → Act → World → Prop
  | [], a, w => R a w
  | o :: l, a, w => wpList P ops (onQ fun a' w' => C w' ∧ wpSeqC P ops C R l a' w') [o] a w
theorem wpSeqC_go {R : Act → World → Prop} {o : Oper} {l : List Oper} {a : Act} {w : World} (h : wpList P ops (onQ fun a' w' => C w' ∧ wpSeqC P ops C R l a' w') [o] a w) : wpSeqC P ops C R (o :: l) a w := h
theorem wpSeqC_nil {R : Act → World → Prop} {a : Act} {w : World} (h : R a w) : wpSeqC P ops C R [] a w := h
theorem onQ_in {S : Act → World → Prop} {a : Act} {w : World} (h1 : C w) (h2 : S a w) : onQ (fun a' w' => C w' ∧ S a' w') .normal a w := ⟨h1, h2⟩
def StillIn (P : Program) (ops : Array Oper) (C : World → Prop) (o : Oper) (v : Value) (a : Act) : Prop :=
  Region.wanted o (yielded ops a.tmps) = true ∧ ∀ w, C w → o.quietAt P a (fun w' => w' = w) w v
theorem StillIn.wpOp {i : Nat} {o : Oper} {v : Value} {a : Act} (hi : ops[i]? = some o) (hy : StillIn P ops C o v a) {Q : Exit → Act → World → Prop} {K : Act → World → Prop} {w : World} (hw : C w) (h : K (a.put o.dst v) w) : wpOp P ops Q i K a w := by
  unfold Go.wpOp
  simp only [hi, hy.1, if_true]
  refine .inl (Oper.wp_of_quiet (C := fun w' => w' = w) (K := fun a' => a' = a.put o.dst v) rfl (fun a' w' h1 h2 => by rw [h1, h2]; exact h) ⟨v, fun w' h1 => by rw [h1]; exact hy.2 w hw, rfl⟩)
theorem wpOp_of_list1 {i : Nat} {o : Oper} {R : Act → World → Prop} {a : Act} {w : World} (hi : ops[i]? = some o) (h : wpList P ops (onQ R) [o] a w) : wpOp P ops (onQ R) i R a w := by
  unfold Go.wpOp
  simp only [hi]
  unfold wpList at h
  by_cases hw : Region.wanted o (yielded ops a.tmps) = true
  · rw [if_pos hw] at h ⊢
    exact h.imp (Oper.wp_mono fun _ _ h => h) id
  · rw [if_neg hw] at h ⊢
    exact h
theorem wpOp_onQ {i : Nat} {R : Act → World → Prop} {Q : Exit → Act → World → Prop} {K : Act → World → Prop} {a : Act} {w : World} (h : wpOp P ops (onQ R) i K a w) : wpOp P ops Q i K a w := by
  unfold Go.wpOp at *
  split
  · rename_i ho; simp only [ho] at h; exact h
  · rename_i o ho
    simp only [ho] at h
    split
    · rename_i hw
      rw [if_pos hw] at h
      exact h.imp (wp_monoQ (fun _ _ _ he h => onQ_other he h) fun _ _ h => h) fun hl => (onQ_lets hl.2).elim
    · rename_i hw; rw [if_neg hw] at h; exact h
theorem wpOp_putS {j : Nat} {oi oj : Oper} {v : Value} (hj : ops[j]? = some oj) (hap : oi.apart ops oj = true)
    (hsi : ∀ cs b, oi.op ≠ .select cs b) (hsj : ∀ cs b, oj.op ≠ .select cs b) {K R : Act → World → Prop} {Q : Exit → Act → World → Prop} {a : Act} {w : World}
    (hy : StillIn P ops C oi v a) (h : wpOp P ops (onQ R) j K (a.put oi.dst v) w) :
    wpOp P ops Q j (fun a' w' => StillIn P ops C oi v a' ∧ K (a'.put oi.dst v) w') a w := by
  obtain ⟨h1, h2, h3⟩ := Oper.apart_spec hap
  have keep : ∀ (a : Act), StillIn P ops C oi v a → ∀ u, StillIn P ops C oi v (a.put oj.dst u) := fun a hy u => by
    refine ⟨by rw [wanted_put oi a oj.dst u h3]; exact hy.1, fun w hw => ?_⟩
    have := hy.2 w hw
    unfold Oper.quietAt at *
    rw [execOp_put oi hsi a oj.dst u h3]
    exact this
  have keepD : ∀ d, StillIn P ops C oi v { a with defers := d :: a.defers } := fun d => ⟨hy.1, fun w hw => hy.2 w hw⟩
  unfold Go.wpOp at *
  simp only [hj] at *
  rw [wanted_put oj a oi.dst v h1] at h
  split
  · rename_i hw
    rw [if_pos hw] at h
    rcases h with h | hl
    case inr => exact (onQ_lets hl.2).elim
    refine .inl ?_
    unfold Oper.wp at *
    rw [execOp_put oj hsj a oi.dst v h1] at h
    generalize (execOp a.eval oj).run P w = r at *
    cases r with
    | ok n w' =>
      cases n <;> simp only [Oper.upon] at h ⊢
      case value u => exact ⟨keep a hy u, by rw [← Act.put_comm a v u h2]; exact h⟩
      case skip => exact ⟨keep a hy _, by rw [← Act.put_comm a v undef h2]; exact h⟩
      case defer d =>
        refine ⟨keep _ (keepD d) _, ?_⟩
        rw [← Act.put_comm _ v undef h2, ← Act.put_defers]
        exact h
      case enter f args =>
        refine Calls.mono h fun e w'' he => ?_
        cases e with
        | returned u => exact ⟨keep a hy u, by rw [← Act.put_comm a v u h2]; exact he⟩
        | panicked c => exact False.elim he
        | outgrown => exact (onQ_lets he).elim
      case row row args => exact Rows.mono h fun u w'' he => ⟨keep a hy u, by rw [← Act.put_comm a v u h2]; exact he⟩
    | halt x w' =>
      cases x <;> simp only [Oper.upon] at h ⊢
      case panic u => exact False.elim h
  · rename_i hw
    rw [if_neg hw] at h
    exact ⟨keep a hy _, by rw [← Act.put_comm a v undef h2]; exact h⟩

/-! ### The orders -/
def floB (md : Region.Mode) (ops : Array Oper) (r i : Nat) : Nat → Nat → Array Bool → Bool
  | 0, k, L => decide (Region.ready md ops L = [i]) && Region.lexFrom md ops r k (L.setIfInBounds i true)
  | m + 1, k, L => (Region.ready md ops L).contains i && (Region.ready md ops L).all (fun j => j == i || (j == k && (match ops[i]?, ops[k]? with | some oi, some ok => oi.apart ops ok | _, _ => false))) &&
      seqLex md ops r (m + 1) k (L.setIfInBounds i true) && (!(Region.ready md ops L).contains k || floB md ops r i m (k + 1) (L.setIfInBounds k true))
theorem wpAny_of_seqC {R : Act → World → Prop} (hs : Region.noSelect ops = true) (l2 : List Oper) : ∀ (l : List Oper) (k : Nat) (listed : Array Bool) (a : Act) (w : World), (∀ j, j < l.length → l[j]? = ops[k + j]?) → (∀ j, l2[j]? = ops[k + l.length + j]?) →
    seqLex md ops l2.length l.length k listed = true → wpSeqC P ops C (fun a2 w2 => wpQuiet P ops (fun w' => w' = w2) (fun a3 => R a3 w2) l2 a2) l a w → wpAny P md ops (onQ R) (l.length + l2.length) listed a w
  | [], k, listed, a, w, _, hl2, hB, h => by
    have hB' : Region.lexFrom md ops l2.length k listed = true := hB
    have h' : wpQuiet P ops (fun w' => w' = w) (fun a3 => R a3 w) l2 a := h
    have := wpAnyQ_lex (C := fun w' => w' = w) hs l2 k listed a (fun j => by simpa using hl2 j) hB' h'
    rw [List.length_nil, Nat.zero_add]
    exact wpAny_of_quiet (C := fun w' => w' = w) (fun a' w' hw' h => by rw [hw']; exact h) _ _ _ _ rfl this
  | o :: l, k, listed, a, w, hl, hl2, hB, h => by
    have h0 : ops[k]? = some o := by simpa using (hl 0 (by simp)).symm
    simp only [List.length_cons, seqLex, Bool.and_eq_true, decide_eq_true_eq] at hB
    rw [show (o :: l).length + l2.length = (l.length + l2.length) + 1 by simp only [List.length_cons]; omega]
    refine ⟨fun h1 => (by rw [hB.1] at h1; cases h1), fun i hi => ?_⟩
    rw [hB.1] at hi
    have hik : i = k := by simpa using hi
    subst hik
    unfold wpSeqC at h
    exact wpOp_mono (fun a' w' h' => wpAny_of_seqC hs l2 l (i + 1) _ a' w' (fun j hj => by have := hl (j + 1) (by simp; omega); simpa [Nat.add_assoc, Nat.add_comm 1 j] using this) (fun j => by have := hl2 j; simpa [Nat.add_assoc, Nat.add_comm, Nat.add_left_comm] using this) hB.2 h'.2) (wpOp_onQ (wpOp_of_list1 h0 h))
theorem wpAny_fl {i : Nat} {oi : Oper} {v : Value} (hi : ops[i]? = some oi) {R : Act → World → Prop} (hs : Region.noSelect ops = true) (l2 : List Oper) : ∀ (l : List Oper) (k : Nat) (listed : Array Bool) (a : Act) (w : World), C w → (∀ j, j < l.length → l[j]? = ops[k + j]?) → (∀ j, l2[j]? = ops[k + l.length + j]?) →
    floB md ops l2.length i l.length k listed = true → StillIn P ops C oi v a → wpSeqC P ops C (fun a2 w2 => wpQuiet P ops (fun w' => w' = w2) (fun a3 => R a3 w2) l2 a2) l (a.put oi.dst v) w → wpAny P md ops (onQ R) (l.length + l2.length + 1) listed a w
  | [], k, listed, a, w, hw, _, hl2, hB, hy, h => by
    simp only [List.length_nil, floB, Bool.and_eq_true, decide_eq_true_eq] at hB
    rw [List.length_nil, Nat.zero_add]
    refine ⟨fun h1 => (by rw [hB.1] at h1; cases h1), fun j hj => ?_⟩
    rw [hB.1] at hj
    have hji : j = i := by simpa using hj
    subst hji
    have h' : wpQuiet P ops (fun w' => w' = w) (fun a3 => R a3 w) l2 (a.put oi.dst v) := h
    have := wpAnyQ_lex (md := md) (C := fun w' => w' = w) hs l2 k _ _ (fun j => by simpa using hl2 j) hB.2 h'
    exact hy.wpOp hi hw (wpAny_of_quiet (C := fun w' => w' = w) (fun a' w' hw' h => by rw [hw']; exact h) _ _ _ _ rfl this)
  | o :: l, k, listed, a, w, hw, hl, hl2, hB, hy, h => by
    have h0 : ops[k]? = some o := by simpa using (hl 0 (by simp)).symm
    simp only [List.length_cons, floB, Bool.and_eq_true, List.all_eq_true, Bool.or_eq_true, beq_iff_eq, hi, h0, Bool.not_eq_true', List.contains_iff_mem] at hB
    obtain ⟨⟨⟨hc, hall⟩, hseq⟩, hrest⟩ := hB
    rw [show (o :: l).length + l2.length + 1 = (l.length + l2.length + 1) + 1 by simp only [List.length_cons]; omega]
    refine ⟨fun h1 => (by rw [h1] at hc; cases hc), fun j hj => ?_⟩
    rcases hall j hj with hji | ⟨hjk, hap⟩
    · subst hji
      have := wpAny_of_seqC (md := md) hs l2 (o :: l) k _ _ _ hl hl2 hseq h
      rw [show (o :: l).length + l2.length = l.length + l2.length + 1 by simp only [List.length_cons]; omega] at this
      exact hy.wpOp hi hw this
    · subst hjk
      have hB' : floB md ops l2.length i l.length (j + 1) (listed.setIfInBounds j true) = true := by
        rcases hrest with h1 | h1
        · exact absurd hj (by simpa using h1)
        · exact h1
      unfold wpSeqC at h
      exact wpOp_mono (fun a' w' h' => wpAny_fl hi hs l2 l (j + 1) _ a' w' h'.2.1 (fun j hj => by have := hl (j + 1) (by simp; omega); simpa [Nat.add_assoc, Nat.add_comm 1 j] using this) (fun j => by have := hl2 j; simpa [Nat.add_assoc, Nat.add_comm, Nat.add_left_comm] using this) hB' h'.1 h'.2.2)
        (wpOp_putS (Q := onQ R) h0 hap (fun cs b => Region.noSelect_spec hs i oi cs b hi) (fun cs b => Region.noSelect_spec hs j o cs b h0) hy (wpOp_of_list1 h0 h))
end
theorem wp_region_fl {P : Program} {id : Nat} {Q : Exit → Act → World → Prop} {a : Act} {w : World} {op : Op} {ty : TypeId} {pos : String} {after : Array Edge} {d : Tmp} {l : List Oper} (m : Nat) (v : Value) (w₀ : World) (hm : P.follows .mixedOrders = true)
    (hB : (Region.noSelect (⟨some d, op, ty, pos, after, none⟩ :: l).toArray && decide (m ≤ l.length) && floB .any (⟨some d, op, ty, pos, after, none⟩ :: l).toArray (l.length - m) 0 m 1 (Array.replicate (l.length + 1) false)) = true) (he : Ext w₀ w)
    (h : Nonempty (XW w) → (∀ (u : XW w) b o, b < w.heap.size → u.w.cell? ⟨b, o, none⟩ = w.cell? ⟨b, o, none⟩) → (∀ (u : XW w) b o, b < w₀.heap.size → u.w.cell? ⟨b, o, none⟩ = w₀.cell? ⟨b, o, none⟩) →
      (∀ (u : XW w) (K : Act → Prop), (∀ a', a'.tmps[d]? = some v → K a') → Oper.quiet P ⟨some d, op, ty, pos, after, none⟩ a (fun w' => w' = u.w) K) ∧
      Then P w (some d) v a (fun a' => ∀ w', Ext w w' → wpSeqC P (⟨some d, op, ty, pos, after, none⟩ :: l).toArray (Ext w) (fun a2 w2 => wpQuiet P (⟨some d, op, ty, pos, after, none⟩ :: l).toArray (fun w' => w' = w2) (fun a3 => Q .normal a3 w2) (l.drop m) a2) (l.take m) a' w')) :
    (Code.region id (⟨some d, op, ty, pos, after, none⟩ :: l).toArray true).wp P Q a w := by
  obtain ⟨hq, hT⟩ := h (XW.some w) (fun u => u.cell) (fun u => u.from he)
  simp only [Bool.and_eq_true, decide_eq_true_eq] at hB
  obtain ⟨⟨hsel, hml⟩, hflo⟩ := hB
  have hS := hT.out
  have htl : (l.take m).length = m := by rw [List.length_take]; omega
  have hdl : (l.drop m).length = l.length - m := by rw [List.length_drop]
  refine Code.wp_mono (Q := onQ fun a w => Q .normal a w) (fun e a' w' h' => by cases e <;> first | exact h' | exact False.elim h') (wp_region_any hm ?_)
  have hy : StillIn P (⟨some d, op, ty, pos, after, none⟩ :: l).toArray (Ext w) ⟨some d, op, ty, pos, after, none⟩ v a := by
    refine ⟨by simp [Region.wanted], fun w' e => ?_⟩
    obtain ⟨v', h1, h2⟩ := hq ⟨w', e⟩ (fun a' => a'.tmps[d]? = some v) (fun _ h => h)
    have hv : v' = v := by
      simp only [Act.put] at h2
      rw [Array.getElem?_setIfInBounds, if_pos rfl] at h2
      split at h2
      · exact Option.some.inj h2
      · cases h2
    rw [← hv]
    exact h1 w' rfl
  have hd0 : Ext w { w with drawn := w.drawn + 1 } := ⟨rfl, rfl, rfl, Nat.le_refl _, fun _ _ => rfl⟩
  have := wpAny_fl (md := .any) (P := P) (C := Ext w) (R := fun a w => Q .normal a w) (ops := (⟨some d, op, ty, pos, after, none⟩ :: l).toArray) (i := 0) (v := v) (by simp) hsel (l.drop m) (l.take m) 1 (Array.replicate (l.length + 1) false) a { w with drawn := w.drawn + 1 } hd0
    (fun j hj => by
      rw [htl] at hj
      simp [Nat.add_comm 1 j, hj])
    (fun j => by
      rw [htl]
      simp [List.getElem?_drop, show 1 + m + j = (m + j) + 1 by omega])
    (by rw [hdl, htl]; exact hflo) hy (hS _ hd0)
  rw [htl, hdl, show m + (l.length - m) + 1 = l.length + 1 by omega] at this
  simpa using this
end Go.Proofs.YthmjpbafbohelaaDoor

namespace Go.Proofs.YthmjpbafbohelaaDoor
open Go Go.RowKit
attribute [local go_sem] gv_yes
attribute [local go_sem high] neq_date neq_trace

theorem ex_at2 : exCal.atV 1098 = ⟨0, 0, false, 0⟩ := by kernel_rfl
section
variable {A A' : Option Addr} {ca cb : Nat} {w : World} (hC : CalAt w A ca A' cb exCal)
include hC
theorem w_num : Calls Tryd.prog 91 #[.agg #[.slice A 2 ca, .slice A' 3 cb], .agg #[.int .i64 1, .int .i64 6, .bool true, .int .i64 1]] w fun e w' => e = .returned (.tuple #[.int .i64 535, .int .i64 0]) ∧ Ext w w' := by
  have := numberX_any A A' ca cb exCal ⟨1, 6, true, 1⟩ w hC
  rw [ex_num, ex_numE] at this
  exact this
theorem w_at : Calls Tryd.prog 11 #[.agg #[.slice A 2 ca, .slice A' 3 cb], .int .i64 1097] w fun e w' => e = .returned (.tuple #[.agg #[.int .i64 2, .int .i64 12, .bool false, .int .i64 30], .int .i64 0]) ∧ Ext w w' := by
  have := atX_any A A' ca cb exCal 1097 w hC (by decide) (by decide)
  rw [ex_at, ex_atE] at this
  exact this
theorem w_at2 : Calls Tryd.prog 11 #[.agg #[.slice A 2 ca, .slice A' 3 cb], .int .i64 1098] w fun e w' => e = .returned (.tuple #[.agg #[.int .i64 0, .int .i64 0, .bool false, .int .i64 0], .int .i64 8]) ∧ Ext w w' := by
  have := atX_any A A' ca cb exCal 1098 w hC (by decide) (by decide)
  rw [ex_at2, ex_atE2] at this
  exact this
theorem w_chk : Calls Tryd.prog 17 #[.agg #[.slice A 2 ca, .slice A' 3 cb]] w fun e w' => e = .returned (.int .i64 0) ∧ Ext w w' := by
  have := check_any A A' ca cb exCal w hC
  rw [ex_chk] at this
  exact this
theorem w_sch : Calls Tryd.prog 56 #[.agg #[.slice A 2 ca, .slice A' 3 cb], .agg #[.int .i64 0, .int .i64 12, .bool false, .int .i64 30], .agg #[.int .i64 1, .int .i64 2, .bool false, .int .i64 1]] w fun e w' => e = .returned (.tuple #[.int .i64 31, .int .i64 0]) ∧ Ext w w' := by
  have := schemeX_any A A' ca cb exCal ⟨0, 12, false, 30⟩ ⟨1, 2, false, 1⟩ w hC
  rw [ex_sch, ex_in2] at this
  exact this
theorem w_bet : Calls Tryd.prog 34 #[.agg #[.slice A 2 ca, .slice A' 3 cb], .agg #[.int .i64 0, .int .i64 12, .bool false, .int .i64 30], .agg #[.int .i64 1, .int .i64 2, .bool false, .int .i64 1]] w fun e w' => e = .returned (.tuple #[.int .i64 30, .int .i64 0]) ∧ Ext w w' := by
  have := betweenX_any A A' ca cb exCal ⟨0, 12, false, 30⟩ ⟨1, 2, false, 1⟩ w hC
  rw [ex_bet, ex_in2] at this
  exact this
end
theorem w_p1 (w : World) : Calls Tryd.prog 15 #[.string ⟨#[49, 50, 43, 47, 45, 47, 43, 119, 97, 108, 108, 64, 117, 114]⟩] w fun e w' => e = .returned (.tuple #[.agg #[.int .i64 12, .bool true, .int .i64 0, .bool false, .string ⟨#[119, 97, 108, 108]⟩, .int .i64 1, .string ⟨#[117, 114]⟩], .int .i64 0]) ∧ Ext w w' := by
  have := parseX_any t1 w (by decide)
  unfold parseV parseE at this
  rw [ex_p1] at this
  exact this
theorem w_p2 (w : World) : Calls Tryd.prog 15 #[.string ⟨#[48, 49, 47, 49, 47, 45]⟩] w fun e w' => e = .returned (.tuple #[.agg #[.int .i64 0, .bool false, .int .i64 0, .bool false, .string ⟨#[]⟩, .int .i64 0, .string ⟨#[]⟩], .int .i64 5]) ∧ Ext w w' := by
  have := parseX_any t2 w (by decide)
  unfold parseV parseE at this
  rw [ex_p2] at this
  exact this
theorem w_r3 (w : World) : Calls Tryd.prog 45 #[.string ⟨#[50, 57, 43, 47, 49, 47, 45]⟩] w fun e w' => e = .returned (.agg #[.int .i64 29, .bool true, .int .i64 1, .bool false, .string ⟨#[]⟩, .int .i64 0, .string ⟨#[]⟩]) ∧ Ext w w' :=
  lread_any t3 ⟨29, true, 1, false, noS, 0, noS⟩ w (by decide) (by unfold parseV; rw [ex_p3]; rfl)
theorem w_r4 (w : World) : Calls Tryd.prog 45 #[.string ⟨#[45, 47, 49, 50, 47, 119, 97, 108, 108]⟩] w fun e w' => e = .returned (.agg #[.int .i64 0, .bool false, .int .i64 12, .bool false, .string ⟨#[119, 97, 108, 108]⟩, .int .i64 0, .string ⟨#[]⟩]) ∧ Ext w w' :=
  lread_any t4 ⟨0, false, 12, false, sWall, 0, noS⟩ w (by decide) (by unfold parseV; rw [ex_p4]; rfl)
theorem w_r5 (w : World) : Calls Tryd.prog 45 #[.string ⟨#[45, 47, 45, 47, 99, 97, 110, 97, 108]⟩] w fun e w' => e = .returned (.agg #[.int .i64 0, .bool false, .int .i64 0, .bool false, .string ⟨#[99, 97, 110, 97, 108]⟩, .int .i64 0, .string ⟨#[]⟩]) ∧ Ext w w' :=
  lread_any t5 ⟨0, false, 0, false, sCanal, 0, noS⟩ w (by decide) (by unfold parseV; rw [ex_p5]; rfl)
theorem w_r6 (w : World) : Calls Tryd.prog 45 #[.string ⟨#[49, 47, 49, 47, 45]⟩] w fun e w' => e = .returned (.agg #[.int .i64 1, .bool false, .int .i64 1, .bool false, .string ⟨#[]⟩, .int .i64 0, .string ⟨#[]⟩]) ∧ Ext w w' :=
  lread_any t6 ⟨1, false, 1, false, noS, 0, noS⟩ w (by decide) (by unfold parseV; rw [ex_p6]; rfl)
theorem w_r7 (w : World) : Calls Tryd.prog 45 #[.string ⟨#[45, 47, 45, 47, 119, 97, 108, 108, 64, 117, 114]⟩] w fun e w' => e = .returned (.agg #[.int .i64 0, .bool false, .int .i64 0, .bool false, .string ⟨#[119, 97, 108, 108]⟩, .int .i64 0, .string ⟨#[117, 114]⟩]) ∧ Ext w w' :=
  lread_any t7 ⟨0, false, 0, false, sWall, 0, sUr⟩ w (by decide) (by unfold parseV; rw [ex_p7]; rfl)
theorem w_sp {A A' : Option Addr} {ca cb : Nat} {w : World} (hC : CalAt w A ca A' cb exCal) : Calls Tryd.prog 44 #[.agg #[.slice A 2 ca, .slice A' 3 cb], .agg #[.int .i64 29, .bool true, .int .i64 1, .bool false, .string ⟨#[]⟩, .int .i64 0, .string ⟨#[]⟩]] w fun e w' => ∃ v, e = .returned (.tuple #[v, .int .i64 0]) ∧ Ext w w' ∧ SpansAt w' v [⟨29, 30⟩, ⟨389, 389⟩, ⟨766, 767⟩] := by
  have := spansX_any A A' ca cb exCal ⟨29, true, 1, false, noS, 0, noS⟩ w hC
  rw [ex_sp, ex_spE] at this
  exact this
theorem w_ser {A A' B : Option Addr} {ca cb : Nat} {w : World} (hC : CalAt w A ca A' cb exCal) (hT : RowsAt w B 3 7 (fun i => (serA i).cells)) : Calls Tryd.prog 16 #[.agg #[.slice A 2 ca, .slice A' 3 cb], .slice B 3 3] w fun e w' => ∃ v, e = .returned (.tuple #[v, .int .i64 0]) ∧ Ext w w' ∧ SpansAt w' v [⟨331, 360⟩, ⟨361, 737⟩, ⟨361, 738⟩] := by
  have := seriesX_any A A' ca cb exCal B 3 3 serA w hC hT (by decide)
  rw [ex_ser, ex_serE] at this
  exact this
theorem w_serB {A A' B : Option Addr} {ca cb : Nat} {w : World} (hC : CalAt w A ca A' cb exCal) (hT : RowsAt w B 2 7 (fun i => (serB i).cells)) : Calls Tryd.prog 16 #[.agg #[.slice A 2 ca, .slice A' 3 cb], .slice B 2 2] w fun e w' => ∃ v, e = .returned (.tuple #[v, .int .i64 73]) ∧ Ext w w' := by
  have := seriesX_any A A' ca cb exCal B 2 2 serB w hC hT (by decide)
  rw [ex_serB] at this
  refine Calls.mono this ?_
  rintro e w' ⟨v, h1, h2, _⟩
  exact ⟨v, h1, h2⟩
theorem serA_rows {w : World} {b : Nat} {t : TypeId} (h : Held w b t #[.int .i64 0, .bool false, .int .i64 12, .bool false, .string ⟨#[119, 97, 108, 108]⟩, .int .i64 0, .string ⟨#[]⟩, .int .i64 0, .bool false, .int .i64 0, .bool false, .string ⟨#[99, 97, 110, 97, 108]⟩, .int .i64 0, .string ⟨#[]⟩, .int .i64 1, .bool false, .int .i64 1, .bool false, .string ⟨#[]⟩, .int .i64 0, .string ⟨#[]⟩]) : RowsAt w (some ⟨b, 0, none⟩) 3 7 (fun i => (serA i).cells) := by
  refine rows_held h ?_
  intro i j v hi hv
  have hj : j < 7 := (List.getElem?_eq_some_iff.1 hv).1
  rw [← hv]
  have h1 : i = 0 ∨ i = 1 ∨ i = 2 := by omega
  have h2 : j = 0 ∨ j = 1 ∨ j = 2 ∨ j = 3 ∨ j = 4 ∨ j = 5 ∨ j = 6 := by omega
  rcases h1 with rfl | rfl | rfl <;> rcases h2 with rfl | rfl | rfl | rfl | rfl | rfl | rfl <;> rfl
theorem spans3_at {w : World} {b : Nat} {t : TypeId} {a0 b0 a1 b1 a2 b2 : Int} (h : Held w b t #[.int .i64 a0, .int .i64 b0, .int .i64 a1, .int .i64 b1, .int .i64 a2, .int .i64 b2]) : SpansAt w (.slice (some ⟨b, 0, none⟩) 3 3) [⟨a0, b0⟩, ⟨a1, b1⟩, ⟨a2, b2⟩] := by
  refine ⟨_, 3, rfl, rows_held h ?_, Nat.le_refl _, by decide⟩
  intro i j v hi hv
  have hj : j < 2 := (List.getElem?_eq_some_iff.1 hv).1
  rw [← hv]
  have h1 : i = 0 ∨ i = 1 ∨ i = 2 := by have hi : i < 3 := hi; omega
  have h2 : j = 0 ∨ j = 1 := by omega
  rcases h1 with rfl | rfl | rfl <;> rcases h2 with rfl | rfl <;> rfl
theorem w_same {v v' : Value} {l : List Sp} {w : World} (h1 : SpansAt w v l) (h2 : SpansAt w v' l) : Calls Tryd.prog 47 #[v, v'] w fun e w' => e = .returned (.bool true) ∧ Ext w w' := by
  have := same_any v v' l l w h1 h2
  rw [decide_eq_true rfl] at this
  exact this
theorem serB_rows {w : World} {b : Nat} {t : TypeId} (h : Held w b t #[.int .i64 0, .bool false, .int .i64 0, .bool false, .string ⟨#[99, 97, 110, 97, 108]⟩, .int .i64 0, .string ⟨#[]⟩, .int .i64 0, .bool false, .int .i64 0, .bool false, .string ⟨#[119, 97, 108, 108]⟩, .int .i64 0, .string ⟨#[117, 114]⟩]) : RowsAt w (some ⟨b, 0, none⟩) 2 7 (fun i => (serB i).cells) := by
  refine rows_held h ?_
  intro i j v hi hv
  have hj : j < 7 := (List.getElem?_eq_some_iff.1 hv).1
  rw [← hv]
  have h1 : i = 0 ∨ i = 1 := by omega
  have h2 : j = 0 ∨ j = 1 ∨ j = 2 ∨ j = 3 ∨ j = 4 ∨ j = 5 ∨ j = 6 := by omega
  rcases h1 with rfl | rfl <;> rcases h2 with rfl | rfl | rfl | rfl | rfl | rfl | rfl <;> rfl
set_option maxRecDepth 100000 in
set_option maxHeartbeats 4000000 in
theorem works_any (w : World) : Calls Tryd.prog 39 #[] w fun e w' => e = .returned (.bool true) ∧ Ext w w' := by
  go_enter Tryd.func39, Tryd.ntmps39
  go_upto_region 2 with (go_at_call 36; (with_reducible refine Calls.mono (example_any _) ?_); rintro e w1 ⟨A, A', ca, cb, rfl, h1, hC⟩)
  obtain ⟨v, hv⟩ : ∃ v, v = w1.alloc (.cells #[.slice A 2 ca, .slice A' 3 cb] 25) := ⟨_, rfl⟩
  rw [← hv]
  have h2 : Ext w1 v := by rw [hv]; exact (Ext.refl _).alloc _
  have B1 : Held v w1.heap.size 25 #[.slice A 2 ca, .slice A' 3 cb] := by rw [hv]; exact Held.new _ _ _
  have E := Ext.trans h1 h2
  have C := hC.ext h2
  clear hv h1 h2 hC
  generalize w1.heap.size = b1 at *
  clear w1
  obtain ⟨k0, k1⟩ := B1.c2
  have l1 := B1.lt
  go_upto_region 3 with (go_at_call 91; (with_reducible refine Calls.mono (w_num C) ?_); rintro e v2 ⟨rfl, h⟩)
  replace E := Ext.trans E h
  replace C := C.ext h
  replace B1 := B1.ext h
  clear h
  obtain ⟨k0, k1⟩ := B1.c2; have l1 := B1.lt
  go_upto_region 4 with (go_at_call 11; (with_reducible refine Calls.mono (w_at C) ?_); rintro e v3 ⟨rfl, h⟩)
  replace E := Ext.trans E h
  replace C := C.ext h
  replace B1 := B1.ext h
  clear h
  obtain ⟨k0, k1⟩ := B1.c2; have l1 := B1.lt
  obtain ⟨v4, hv⟩ : ∃ v, v = v3.alloc (.cells #[.int .i64 2, .int .i64 12, .bool false, .int .i64 30] 29) := ⟨_, rfl⟩
  rw [← hv]
  have h : Ext v3 v4 := by rw [hv]; exact (Ext.refl _).alloc _
  have B4 : Held v4 v3.heap.size 29 #[.int .i64 2, .int .i64 12, .bool false, .int .i64 30] := by rw [hv]; exact Held.new _ _ _
  clear hv
  generalize v3.heap.size = b4 at *
  replace E := Ext.trans E h
  replace C := C.ext h
  replace B1 := B1.ext h
  clear h
  obtain ⟨k0, k1⟩ := B1.c2; have l1 := B1.lt
  obtain ⟨p0, p1, p2, p3⟩ := B4.c4; have l4 := B4.lt
  go_upto_region 5 with (go_at_call 11; (with_reducible refine Calls.mono (w_at2 C) ?_); rintro e v5 ⟨rfl, h⟩)
  replace E := Ext.trans E h
  replace C := C.ext h
  replace B1 := B1.ext h
  replace B4 := B4.ext h
  clear h
  obtain ⟨k0, k1⟩ := B1.c2; have l1 := B1.lt
  obtain ⟨p0, p1, p2, p3⟩ := B4.c4; have l4 := B4.lt
  obtain ⟨v6, hv⟩ : ∃ v, v = v5.alloc (.cells #[.int .i64 0, .int .i64 0, .bool false, .int .i64 0] 29) := ⟨_, rfl⟩
  rw [← hv]
  have h : Ext v5 v6 := by rw [hv]; exact (Ext.refl _).alloc _
  have B6 : Held v6 v5.heap.size 29 #[.int .i64 0, .int .i64 0, .bool false, .int .i64 0] := by rw [hv]; exact Held.new _ _ _
  clear hv
  generalize v5.heap.size = b6 at *
  replace E := Ext.trans E h
  replace C := C.ext h
  replace B1 := B1.ext h
  replace B4 := B4.ext h
  clear h
  obtain ⟨k0, k1⟩ := B1.c2; have l1 := B1.lt
  obtain ⟨p0, p1, p2, p3⟩ := B4.c4; have l4 := B4.lt
  clear B6
  go_upto_region 7 with (go_at_call 17; (with_reducible refine Calls.mono (w_chk C) ?_); rintro e v7 ⟨rfl, h⟩; obtain ⟨p0, p1, p2, p3⟩ := (B4.ext h).c4; have l4 := (B4.ext h).lt)
  replace E := Ext.trans E h
  replace C := C.ext h
  replace B1 := B1.ext h
  clear h
  obtain ⟨k0, k1⟩ := B1.c2; have l1 := B1.lt
  clear p0 p1 p2 p3 l4 B4
  go_upto_region 8 with (fail)
  obtain ⟨v9, hv⟩ : ∃ v, v = (v7.alloc (.cells #[.int .i64 0, .int .i64 12, .bool false, .int .i64 30] 29)).alloc (.cells #[.int .i64 1, .int .i64 2, .bool false, .int .i64 1] 29) := ⟨_, rfl⟩
  rw [← hv]
  have h : Ext v7 v9 := by rw [hv]; exact ((Ext.refl _).alloc _).alloc _
  have B8 : Held v9 v7.heap.size 29 #[.int .i64 0, .int .i64 12, .bool false, .int .i64 30] := by rw [hv]; exact (Held.new _ _ _).alloc _
  have B9 : Held v9 (v7.heap.size + 1) 29 #[.int .i64 1, .int .i64 2, .bool false, .int .i64 1] := by rw [hv]; exact Held.at _ _ _ _ (by simp)
  clear hv
  generalize v7.heap.size = b8 at *
  replace E := Ext.trans E h
  replace C := C.ext h
  replace B1 := B1.ext h
  clear h
  obtain ⟨k0, k1⟩ := B1.c2; have l1 := B1.lt
  obtain ⟨p0, p1, p2, p3⟩ := B8.c4; have l8 := B8.lt
  obtain ⟨q0, q1, q2, q3⟩ := B9.c4; have l9 := B9.lt
  go_upto_region 9 with (go_at_call 56; (with_reducible refine Calls.mono (w_sch C) ?_); rintro e v10 ⟨rfl, h⟩)
  replace B8 := B8.ext h
  replace B9 := B9.ext h
  replace E := Ext.trans E h
  replace C := C.ext h
  replace B1 := B1.ext h
  clear h
  obtain ⟨k0, k1⟩ := B1.c2; have l1 := B1.lt
  obtain ⟨p0, p1, p2, p3⟩ := B8.c4; have l8 := B8.lt
  obtain ⟨q0, q1, q2, q3⟩ := B9.c4; have l9 := B9.lt
  go_upto_region 10 with (go_at_call 34; (with_reducible refine Calls.mono (w_bet C) ?_); rintro e v11 ⟨rfl, h⟩)
  replace E := Ext.trans E h
  replace C := C.ext h
  replace B1 := B1.ext h
  clear h
  obtain ⟨k0, k1⟩ := B1.c2; have l1 := B1.lt
  clear p0 p1 p2 p3 l8 q0 q1 q2 q3 l9 B8 B9
  go_upto_region 11 with (go_at_call 15; (with_reducible refine Calls.mono (w_p1 _) ?_); rintro e v12 ⟨rfl, h⟩)
  replace E := Ext.trans E h
  replace C := C.ext h
  replace B1 := B1.ext h
  clear h
  obtain ⟨k0, k1⟩ := B1.c2; have l1 := B1.lt
  obtain ⟨v13, hv⟩ : ∃ v, v = v12.alloc (.cells #[.int .i64 12, .bool true, .int .i64 0, .bool false, .string ⟨#[119, 97, 108, 108]⟩, .int .i64 1, .string ⟨#[117, 114]⟩] 34) := ⟨_, rfl⟩
  rw [← hv]
  have h : Ext v12 v13 := by rw [hv]; exact (Ext.refl _).alloc _
  have B12 : Held v13 v12.heap.size 34 #[.int .i64 12, .bool true, .int .i64 0, .bool false, .string ⟨#[119, 97, 108, 108]⟩, .int .i64 1, .string ⟨#[117, 114]⟩] := by rw [hv]; exact Held.new _ _ _
  clear hv
  generalize v12.heap.size = b12 at *
  replace E := Ext.trans E h
  replace C := C.ext h
  replace B1 := B1.ext h
  clear h
  obtain ⟨k0, k1⟩ := B1.c2; have l1 := B1.lt
  clear l1 k0 k1
  go_upto_region 12 with (go_at_call 15; (with_reducible refine Calls.mono (w_p2 _) ?_); rintro e v14 ⟨rfl, h⟩)
  replace B12 := B12.ext h
  replace E := Ext.trans E h
  replace C := C.ext h
  replace B1 := B1.ext h
  clear h
  obtain ⟨k0, k1⟩ := B1.c2; have l1 := B1.lt
  obtain ⟨v15, hv⟩ : ∃ v, v = v14.alloc (.cells #[.int .i64 0, .bool false, .int .i64 0, .bool false, .string ⟨#[]⟩, .int .i64 0, .string ⟨#[]⟩] 34) := ⟨_, rfl⟩
  rw [← hv]
  have h : Ext v14 v15 := by rw [hv]; exact (Ext.refl _).alloc _
  have B13 : Held v15 v14.heap.size 34 #[.int .i64 0, .bool false, .int .i64 0, .bool false, .string ⟨#[]⟩, .int .i64 0, .string ⟨#[]⟩] := by rw [hv]; exact Held.new _ _ _
  clear hv
  generalize v14.heap.size = b13 at *
  replace E := Ext.trans E h
  replace C := C.ext h
  replace B1 := B1.ext h
  replace B12 := B12.ext h
  clear h
  obtain ⟨k0, k1⟩ := B1.c2; have l1 := B1.lt
  clear B13
  obtain ⟨p0, p1, p2, p3, p4, p5, p6⟩ := B12.c7; have l12 := B12.lt
  go_upto_region 14 with (fail)
  clear p0 p1 p2 p3 p4 p5 p6 l12 B12
  refine wp_region_xm 2 0 v15 mixed (by kernel_rfl) (by repeat (first | exact Ext.refl _ | (refine Ext.alloc ?_ _) | (refine Ext.trans ?_ (by assumption)))) ?_
  intro hne hrx hry
  try simp only []
  try simp only [List.append_eq, List.cons_append, List.nil_append]
  simp only [List.take_succ_cons, List.take_zero, List.drop_succ_cons, List.drop_zero]
  repeat (first
    | go_big_quiet_skip
    | (go_big_quiet_want; go_big_quiet_op; go_big_quiet_on)
    | (go_big_quiet_want; go_big_quiet_op; apply Exists.intro; refine ⟨fun u => ?_, ?_⟩
       · first
           | (go_at_call 45; (with_reducible refine Calls.mono (w_r3 _) ?_); rintro e w' ⟨rfl, hb⟩; exact ⟨rfl, u.back hb⟩)
       go_big_quiet_on))
  clear hne hry hrx
  refine wpQuiet_nil ?_
  intro va ha
  have Ca := C.ext ha
  go_wp2_with (go_at_call 44; (with_reducible refine Calls.mono (w_sp Ca) ?_); rintro e vb ⟨s1, rfl, hb, S1⟩)
  show wpQuiet _ _ _ _ _ _
  repeat (first | go_big_quiet_skip | (go_big_quiet_want; go_big_quiet_op; go_big_quiet_on))
  refine wpQuiet_nil ?_
  have h := Ext.trans ha hb
  clear ha hb Ca
  replace E := Ext.trans E h
  replace C := C.ext h
  replace B1 := B1.ext h
  clear h
  obtain ⟨k0, k1⟩ := B1.c2; have l1 := B1.lt
  go_upto_region 15 with (fail)
  refine wp_region_fl 5 (.agg #[.slice A 2 ca, .slice A' 3 cb]) vb mixed (by kernel_rfl) (by repeat (first | exact Ext.refl _ | (refine Ext.alloc ?_ _) | (refine Ext.trans ?_ (by assumption)))) ?_
  intro hne hrx hry
  try simp only []
  simp only [List.take_succ_cons, List.take_zero, List.drop_succ_cons, List.drop_zero]
  refine ⟨fun u K hK => ?_, ?_⟩
  · go_big_quiet_op
    exact hK _ rfl
  unfold Then
  go_big_quiet_op
  intro v0 h0
  clear hne hrx hry
  refine wpSeqC_go ?_
  go_wp2_with (go_at_call 45; (with_reducible refine Calls.mono (w_r4 _) ?_); rintro e w4 ⟨rfl, h4⟩)
  refine onQ_in (Ext.trans h0 h4) ?_
  refine wpSeqC_go ?_
  go_wp2_with (go_at_call 45; (with_reducible refine Calls.mono (w_r5 _) ?_); rintro e w5 ⟨rfl, h5⟩)
  refine onQ_in (Ext.trans h0 (Ext.trans h4 h5)) ?_
  refine wpSeqC_go ?_
  go_wp2_with (go_at_call 45; (with_reducible refine Calls.mono (w_r6 _) ?_); rintro e w6 ⟨rfl, h6⟩)
  refine onQ_in (Ext.trans h0 (Ext.trans h4 (Ext.trans h5 h6))) ?_
  refine wpSeqC_go ?_
  go_wp2
  have ha : Ext vb w6 := Ext.trans h0 (Ext.trans h4 (Ext.trans h5 h6))
  refine onQ_in (ha.alloc _) ?_
  have Ca := C.ext (ha.alloc (.cells #[.int .i64 0, .bool false, .int .i64 12, .bool false, .string ⟨#[119, 97, 108, 108]⟩, .int .i64 0, .string ⟨#[]⟩, .int .i64 0, .bool false, .int .i64 0, .bool false, .string ⟨#[99, 97, 110, 97, 108]⟩, .int .i64 0, .string ⟨#[]⟩, .int .i64 1, .bool false, .int .i64 1, .bool false, .string ⟨#[]⟩, .int .i64 0, .string ⟨#[]⟩] 34))
  have Ta := serA_rows (Held.new w6 34 #[.int .i64 0, .bool false, .int .i64 12, .bool false, .string ⟨#[119, 97, 108, 108]⟩, .int .i64 0, .string ⟨#[]⟩, .int .i64 0, .bool false, .int .i64 0, .bool false, .string ⟨#[99, 97, 110, 97, 108]⟩, .int .i64 0, .string ⟨#[]⟩, .int .i64 1, .bool false, .int .i64 1, .bool false, .string ⟨#[]⟩, .int .i64 0, .string ⟨#[]⟩])
  have hal := ha.alloc (.cells #[.int .i64 0, .bool false, .int .i64 12, .bool false, .string ⟨#[119, 97, 108, 108]⟩, .int .i64 0, .string ⟨#[]⟩, .int .i64 0, .bool false, .int .i64 0, .bool false, .string ⟨#[99, 97, 110, 97, 108]⟩, .int .i64 0, .string ⟨#[]⟩, .int .i64 1, .bool false, .int .i64 1, .bool false, .string ⟨#[]⟩, .int .i64 0, .string ⟨#[]⟩] 34)
  clear ha h0 h4 h5 h6
  refine wpSeqC_go ?_
  go_wp2_with (go_at_call 16; (with_reducible refine Calls.mono (w_ser Ca Ta) ?_); rintro e v16 ⟨s2, rfl, h7, S2⟩)
  have h := Ext.trans hal h7
  refine onQ_in h ?_
  refine wpSeqC_nil ?_
  show wpQuiet _ _ _ _ _ _
  repeat (first | go_big_quiet_skip | (go_big_quiet_want; go_big_quiet_op; go_big_quiet_on))
  refine wpQuiet_nil ?_
  clear Ca Ta hal h7
  replace S1 := S1.ext h
  replace E := Ext.trans E h
  replace C := C.ext h
  replace B1 := B1.ext h
  clear h
  obtain ⟨k0, k1⟩ := B1.c2; have l1 := B1.lt
  go_upto_region 16 with (fail)
  refine wp_region_fl 4 (.agg #[.slice A 2 ca, .slice A' 3 cb]) v16 mixed (by kernel_rfl) (by repeat (first | exact Ext.refl _ | (refine Ext.alloc ?_ _) | (refine Ext.trans ?_ (by assumption)))) ?_
  intro hne hrx hry
  try simp only []
  simp only [List.take_succ_cons, List.take_zero, List.drop_succ_cons, List.drop_zero]
  refine ⟨fun u K hK => ?_, ?_⟩
  · go_big_quiet_op
    exact hK _ rfl
  unfold Then
  go_big_quiet_op
  intro v0 h0
  clear hne hrx hry
  refine wpSeqC_go ?_
  go_wp2_with (go_at_call 45; (with_reducible refine Calls.mono (w_r5 _) ?_); rintro e w4 ⟨rfl, h4⟩)
  refine onQ_in (Ext.trans h0 h4) ?_
  refine wpSeqC_go ?_
  go_wp2_with (go_at_call 45; (with_reducible refine Calls.mono (w_r7 _) ?_); rintro e w5 ⟨rfl, h5⟩)
  refine onQ_in (Ext.trans h0 (Ext.trans h4 h5)) ?_
  refine wpSeqC_go ?_
  go_wp2
  have ha : Ext v16 w5 := Ext.trans h0 (Ext.trans h4 h5)
  refine onQ_in (ha.alloc _) ?_
  have Ca := C.ext (ha.alloc (.cells #[.int .i64 0, .bool false, .int .i64 0, .bool false, .string ⟨#[99, 97, 110, 97, 108]⟩, .int .i64 0, .string ⟨#[]⟩, .int .i64 0, .bool false, .int .i64 0, .bool false, .string ⟨#[119, 97, 108, 108]⟩, .int .i64 0, .string ⟨#[117, 114]⟩] 34))
  have Ta := serB_rows (Held.new w5 34 #[.int .i64 0, .bool false, .int .i64 0, .bool false, .string ⟨#[99, 97, 110, 97, 108]⟩, .int .i64 0, .string ⟨#[]⟩, .int .i64 0, .bool false, .int .i64 0, .bool false, .string ⟨#[119, 97, 108, 108]⟩, .int .i64 0, .string ⟨#[117, 114]⟩])
  have hal := ha.alloc (.cells #[.int .i64 0, .bool false, .int .i64 0, .bool false, .string ⟨#[99, 97, 110, 97, 108]⟩, .int .i64 0, .string ⟨#[]⟩, .int .i64 0, .bool false, .int .i64 0, .bool false, .string ⟨#[119, 97, 108, 108]⟩, .int .i64 0, .string ⟨#[117, 114]⟩] 34)
  clear ha h0 h4 h5
  refine wpSeqC_go ?_
  go_wp2_with (go_at_call 16; (with_reducible refine Calls.mono (w_serB Ca Ta) ?_); rintro e v17 ⟨s3, rfl, h7⟩)
  have h := Ext.trans hal h7
  refine onQ_in h ?_
  refine wpSeqC_nil ?_
  show wpQuiet _ _ _ _ _ _
  repeat (first | go_big_quiet_skip | (go_big_quiet_want; go_big_quiet_op; go_big_quiet_on))
  refine wpQuiet_nil ?_
  clear Ca Ta hal h7
  replace S1 := S1.ext h
  replace S2 := S2.ext h
  replace E := Ext.trans E h
  clear h C B1 k0 k1 l1
  go_wp2_with (first
    | (go_at_call 47; (with_reducible refine Calls.mono (w_same (S1.ext ((Ext.refl _).alloc _)) (spans3_at (Held.new v17 _ _))) ?_); rintro e v18 ⟨rfl, h8⟩)
    | (go_at_call 47; (with_reducible refine Calls.mono (w_same (S2.ext (Ext.trans ((Ext.refl _).alloc _) (h8.alloc _))) (spans3_at (Held.new v18 _ _))) ?_); rintro e v19 ⟨rfl, h9⟩))
  go_ret
  exact ⟨rfl, Ext.trans E (Ext.trans ((Ext.refl _).alloc _) (Ext.trans (h8.alloc _) h9))⟩
end Go.Proofs.YthmjpbafbohelaaDoor

namespace Go.Proofs.YthmjpbafbohelaaDoor

def It.before (x y : It) : Prop := x.y < y.y ∨ (x.y = y.y ∧ (x.n < y.n ∨ (x.n = y.n ∧ x.s = false ∧ y.s = true)))
/-! ### The date of a number -/
end Go.Proofs.YthmjpbafbohelaaDoor

namespace Go.Proofs.YthmjpbafbohelaaDoor
open Go Go.RowKit

section
variable {P : Program} {ops : Array Oper} {md : Region.Mode} {C : World → Prop}
def wpAnyC (P : Program) (md : Region.Mode) (ops : Array Oper) (C : World → Prop) (R : Act → World → Prop) : Nat → Array Bool → Act → World → Prop
  | 0, L, a, w => Region.ready md ops L = [] ∧ R a w
  | f + 1, L, a, w => (Region.ready md ops L = [] → R a w) ∧ ∀ i ∈ Region.ready md ops L, wpOp P ops (onQ fun _ _ => False) i (fun a' w' => C w' ∧ wpAnyC P md ops C R f (L.setIfInBounds i true) a' w') a w
theorem wpOp_anyQ {i : Nat} {Q : Exit → Act → World → Prop} {K : Act → World → Prop} {a : Act} {w : World} (h : wpOp P ops (onQ fun _ _ => False) i K a w) : wpOp P ops Q i K a w := wpOp_onQ h
theorem wpAny_of_C {R : Act → World → Prop} : ∀ (f : Nat) (L : Array Bool) (a : Act) (w : World), wpAnyC P md ops C R f L a w → wpAny P md ops (onQ R) f L a w
  | 0, _, _, _, h => h
  | f + 1, _, _, _, h => ⟨h.1, fun i hi => wpOp_mono (fun a' w' h' => wpAny_of_C f _ a' w' h'.2) (wpOp_anyQ (h.2 i hi))⟩
/-- An operation that leaves the world may be taken first. -/
theorem wpAnyC_first {R : Act → World → Prop} {i : Nat} {oi : Oper} {v : Value} (hi : ops[i]? = some oi) (hsel : ∀ (j : Nat) (o : Oper) cs b, ops[j]? = some o → o.op ≠ .select cs b) :
    ∀ (f : Nat) (L : Array Bool) (a : Act) (w : World),
      (∀ j oj, ops[j]? = some oj → j ≠ i → L.getD j true = false → (∀ e ∈ oj.after, Region.binds md e = true → e.on ≠ i) → oi.apart ops oj = true) →
      i ∈ Region.ready md ops L → C w → StillIn P ops C oi v a →
      wpAnyC P md ops C R f (L.setIfInBounds i true) (a.put oi.dst v) w → wpAnyC P md ops C R (f + 1) L a w := by
  intro f
  induction f with
  | zero =>
    intro L a w _ hr hw hy H
    refine ⟨fun h => (by rw [h] at hr; cases hr), fun j hj => ?_⟩
    by_cases hji : j = i
    · subst hji; exact hy.wpOp hi hw ⟨hw, H⟩
    · have := ready_mono hj hji
      rw [H.1] at this
      cases this
  | succ f ih =>
    intro L a w hfree hr hw hy H
    refine ⟨fun h => (by rw [h] at hr; cases hr), fun j hj => ?_⟩
    by_cases hji : j = i
    · subst hji; exact hy.wpOp hi hw ⟨hw, H⟩
    · have h1 := H.2 j (ready_mono hj hji)
      obtain ⟨hjun, oj, hoj, hall⟩ := mem_ready.1 hj
      have hnot : ∀ e ∈ oj.after, Region.binds md e = true → e.on ≠ i := fun e he hb heq => by
        have h1 := hall e he hb
        rw [heq, getD_both (mem_ready.1 hr).1] at h1
        cases h1
      have h2 := wpOp_putS (Q := onQ fun _ _ => False) hoj (hfree j oj hoj hji hjun hnot) (fun cs b => hsel i oi cs b hi) (fun cs b => hsel j oj cs b hoj) hy h1
      have hfree' : ∀ k ok, ops[k]? = some ok → k ≠ i → (L.setIfInBounds j true).getD k true = false → (∀ e ∈ ok.after, Region.binds md e = true → e.on ≠ i) → oi.apart ops ok = true := fun k ok hk hki hun hno => by
        refine hfree k ok hk hki ?_ hno
        by_cases hjk : j = k
        · subst hjk; exact hjun
        · rw [getD_set_ne true hjk] at hun; exact hun
      refine wpOp_mono (fun a' w' h3 => ⟨h3.2.1, ih (L.setIfInBounds j true) a' w' hfree' (ready_mono hr (Ne.symm hji)) h3.2.1 h3.1 ?_⟩) h2
      rw [Array.setIfInBounds_comm _ _ hji]
      exact h3.2.2

/-! ### The values of the operations that leave the world -/
def dstsB : List Oper → Bool
  | [] => true
  | o :: l => o.guard.isNone && (match o.dst with | some d => l.all fun q => q.dst != some d | none => false) && dstsB l
theorem quiet_keeps {A : Act} {w : World} {d : Tmp} : ∀ (l : List Oper) (a : Act), (l.all fun q => q.dst != some d) = true → wpQuiet P ops (fun w' => w' = w) (fun a' => a' = A) l a → A.tmps[d]? = a.tmps[d]?
  | [], a, _, h => by
    have h : a = A := h
    rw [h]
  | o :: l, a, hd, h => by
    simp only [List.all_cons, Bool.and_eq_true, bne_iff_ne, ne_eq] at hd
    have keep : ∀ v, (a.put o.dst v).tmps[d]? = a.tmps[d]? := fun v => by
      cases ho : o.dst with
      | none => rfl
      | some e =>
        have hne : e ≠ d := fun he => hd.1 (by rw [ho, he])
        simp [Act.put, Array.getElem?_setIfInBounds_ne hne]
    unfold wpQuiet at h
    split at h
    · obtain ⟨v, _, h2⟩ := h
      rw [quiet_keeps l _ hd.2 h2, keep]
    · rw [quiet_keeps l _ hd.2 h, keep]
theorem still_vals {W : World} {A : Act} {o : Oper} {l : List Oper} {a : Act} (hb : dstsB (o :: l) = true) (hz : ∀ d, o.dst = some d → d < a.tmps.size) (h : ∀ u : XW W, wpQuiet P ops (fun w' => w' = u.w) (fun a' => a' = A) (o :: l) a) :
    ∃ v, StillIn P ops (Ext W) o v a ∧ ∀ u : XW W, wpQuiet P ops (fun w' => w' = u.w) (fun a' => a' = A) l (a.put o.dst v) := by
  simp only [dstsB, Bool.and_eq_true] at hb
  obtain ⟨⟨hg, hd⟩, _⟩ := hb
  cases ho : o.dst with
  | none => rw [ho] at hd; cases hd
  | some d =>
    rw [ho] at hd
    have hw : Region.wanted o (yielded ops a.tmps) = true := by
      unfold Region.wanted
      cases hgo : o.guard with
      | none => rfl
      | some g => rw [hgo] at hg; cases hg
    have each : ∀ u : XW W, ∃ v, o.quietAt P a (fun w' => w' = u.w) u.w v ∧ A.tmps[d]? = some v ∧ wpQuiet P ops (fun w' => w' = u.w) (fun a' => a' = A) l (a.put (some d) v) := fun u => by
      have h1 := h u
      unfold wpQuiet at h1
      rw [if_pos hw] at h1
      obtain ⟨v, h2, h3⟩ := h1
      rw [ho] at h3
      refine ⟨v, h2 _ rfl, ?_, h3⟩
      rw [quiet_keeps l _ hd h3]
      simp [Act.put, hz d ho]
    obtain ⟨v, _, hv, _⟩ := each ⟨W, Ext.refl W⟩
    refine ⟨v, ⟨hw, fun w' e => ?_⟩, fun u => ?_⟩
    · obtain ⟨v', h1, h2, _⟩ := each ⟨w', e⟩
      rw [hv] at h2
      rw [Option.some.inj h2]
      exact h1
    · obtain ⟨v', _, h2, h3⟩ := each u
      rw [hv] at h2
      rw [Option.some.inj h2]
      exact h3
end
end Go.Proofs.YthmjpbafbohelaaDoor

namespace Go.Proofs.YthmjpbafbohelaaDoor
open Go Go.RowKit

section
variable {P : Program} {ops : Array Oper} {md : Region.Mode} {C : World → Prop} {R : Act → World → Prop}
def stillKs (md : Region.Mode) (ops : Array Oper) : List Nat → Array Bool → Bool
  | [], _ => true
  | k :: ks, L => (Region.ready md ops L).contains k && Region.free md ops L k && stillKs md ops ks (L.setIfInBounds k true)
def setAll : List Nat → Array Bool → Array Bool
  | [], L => L
  | k :: ks, L => setAll ks (L.setIfInBounds k true)
def sizesB (a : Act) (l : List Oper) : Bool := l.all fun o => match o.dst with | some d => decide (d < a.tmps.size) | none => true
theorem any_stills_go {W : World} {A : Act} {g : Nat} (hs : Region.noSelect ops = true) : ∀ (ks : List Nat) (l : List Oper) (L : Array Bool) (a : Act) (w : World), l.map some = ks.map (fun k => ops[k]?) → dstsB l = true → sizesB a l = true →
    stillKs md ops ks L = true → Ext W w → (∀ u : XW W, wpQuiet P ops (fun w' => w' = u.w) (fun a' => a' = A) l a) → wpAnyC P md ops (Ext W) R g (setAll ks L) A w → wpAnyC P md ops (Ext W) R (l.length + g) L a w
  | [], [], L, a, w, _, _, _, _, _, h, H => by
    have e : a = A := h ⟨W, Ext.refl W⟩
    subst e
    rw [List.length_nil, Nat.zero_add]
    exact H
  | k :: ks, o :: l, L, a, w, hl, hd, hz, hB, hw, h, H => by
    simp only [List.map_cons, List.cons.injEq] at hl
    have h0 : ops[k]? = some o := hl.1.symm
    simp only [stillKs, Bool.and_eq_true] at hB
    obtain ⟨⟨hr, hf⟩, hB'⟩ := hB
    have hzo := hz
    simp only [sizesB, List.all_cons, Bool.and_eq_true] at hzo
    obtain ⟨v, hy, hn⟩ := still_vals hd (fun d he => by have := hzo.1; rw [he] at this; simpa using this) h
    have hd' : dstsB l = true := by simp only [dstsB, Bool.and_eq_true] at hd; exact hd.2
    have hsz : (a.put o.dst v).tmps.size = a.tmps.size := by cases o.dst <;> simp [Act.put]
    rw [show (o :: l).length + g = (l.length + g) + 1 by simp only [List.length_cons]; omega]
    exact wpAnyC_first h0 (Region.noSelect_spec hs) _ L a w (Region.free_spec h0 hf) (by simpa using hr) hw hy
      (any_stills_go hs ks l _ _ w hl.2 hd' (by unfold sizesB; rw [hsz]; exact hzo.2) hB' hw hn H)
  | [], _ :: _, _, _, _, hl, _, _, _, _, _, _ => by simp at hl
  | _ :: _, [], _, _, _, hl, _, _, _, _, _, _ => by simp at hl
def Picks (ops : Array Oper) : List Nat → List Oper → Prop
  | [], [] => True
  | k :: ks, o :: l => ops[k]? = some o ∧ Picks ops ks l
  | _, _ => False
theorem picks_map : ∀ {ks : List Nat} {l : List Oper}, Picks ops ks l → l.map some = ks.map (fun k => ops[k]?)
  | [], [], _ => rfl
  | k :: ks, o :: l, h => by rw [List.map_cons, List.map_cons, h.1, picks_map h.2]
  | [], _ :: _, h => h.elim
  | _ :: _, [], h => h.elim
theorem any_stills {W : World} {g f : Nat} {L : Array Bool} {a : Act} {w : World} (ks : List Nat) (l : List Oper) (hl : Picks ops ks l) (hB : (Region.noSelect ops && dstsB l && stillKs md ops ks L && decide (f = l.length + g)) = true) (hz : sizesB a l = true) (hw : Ext W w)
    (h : ∃ A, (∀ u : XW W, wpQuiet P ops (fun w' => w' = u.w) (fun a' => a' = A) l a) ∧ wpAnyC P md ops (Ext W) R g (setAll ks L) A w) : wpAnyC P md ops (Ext W) R f L a w := by
  obtain ⟨A, h1, h2⟩ := h
  simp only [Bool.and_eq_true, decide_eq_true_eq] at hB
  obtain ⟨⟨⟨hs, hd⟩, hk⟩, rfl⟩ := hB
  exact any_stills_go hs ks l L a w (picks_map hl) hd hz hk hw h1 h2
theorem any_one {f : Nat} {L : Array Bool} {a : Act} {w : World} {o : Oper} (k : Nat) (ho : ops[k]? = some o) (hB : decide (Region.ready md ops L = [k]) = true)
    (h : wpList P ops (onQ fun a' w' => C w' ∧ wpAnyC P md ops C R f (L.setIfInBounds k true) a' w') [o] a w) : wpAnyC P md ops C R (f + 1) L a w := by
  have hB := of_decide_eq_true hB
  refine ⟨fun h => (by rw [hB] at h; cases h), fun j hj => ?_⟩
  rw [hB, List.mem_singleton] at hj
  subst hj
  exact wpOp_onQ (wpOp_of_list1 ho h)
theorem any_fork {f : Nat} {L : Array Bool} {a : Act} {w : World} {o1 o2 : Oper} (k1 k2 : Nat) (h1 : ops[k1]? = some o1) (h2 : ops[k2]? = some o2) (hB : decide (Region.ready md ops L = [k1, k2]) = true)
    (ha : wpList P ops (onQ fun a' w' => C w' ∧ wpAnyC P md ops C R f (L.setIfInBounds k1 true) a' w') [o1] a w)
    (hb : wpList P ops (onQ fun a' w' => C w' ∧ wpAnyC P md ops C R f (L.setIfInBounds k2 true) a' w') [o2] a w) : wpAnyC P md ops C R (f + 1) L a w := by
  have hB := of_decide_eq_true hB
  refine ⟨fun h => (by rw [hB] at h; cases h), fun j hj => ?_⟩
  rw [hB] at hj
  rcases List.mem_cons.1 hj with rfl | hj
  · exact wpOp_onQ (wpOp_of_list1 h1 ha)
  · rw [List.mem_singleton] at hj
    subst hj
    exact wpOp_onQ (wpOp_of_list1 h2 hb)
theorem any_done {L : Array Bool} {a : Act} {w : World} (hB : decide (Region.ready md ops L = []) = true) (h : R a w) : wpAnyC P md ops C R 0 L a w := ⟨of_decide_eq_true hB, h⟩
end
end Go.Proofs.YthmjpbafbohelaaDoor

namespace Go.Proofs.YthmjpbafbohelaaDoor
open Go Go.RowKit
attribute [local go_sem] gv_yes

theorem cells_newL (w : World) (l : List Value) (t : TypeId) : ∀ j u, l[j]? = some u → (w.alloc (.cells l.toArray t)).cell? ((⟨w.heap.size, 0, none⟩ : Addr).add j) = some u := fun j u hj => by
  have h := (Held.new w t l.toArray).cell j
  have e : ((⟨w.heap.size, 0, none⟩ : Addr).add j) = ⟨w.heap.size, j, none⟩ := by unfold Addr.add; split <;> simp_all
  rw [e, h]
  simpa using hj
def mrow (y : Yr) (i : Nat) : List Value := [.int .i64 (y.mos.getD i (0, false)).1, .bool (y.mos.getD i (0, false)).2, .int .i64 (y.len (y.mos.getD i (0, false)).1 (y.mos.getD i (0, false)).2)]
/-- The value v reads as the months of y. -/
def MonAt (w : World) (v : Value) (y : Yr) : Prop := ∃ A cap, v = .slice A y.mos.length cap ∧ RowsAt w A y.mos.length 3 (mrow y)
theorem MonAt.ext {w w' : World} {v : Value} {y : Yr} (h : MonAt w v y) (e : Ext w w') : MonAt w' v y := by
  obtain ⟨A, cap, hv, hr⟩ := h
  exact ⟨A, cap, hv, hr.ext e⟩
end Go.Proofs.YthmjpbafbohelaaDoor

namespace Go.Proofs.YthmjpbafbohelaaDoor
open Go Go.RowKit
attribute [local go_sem] gv_yes

def pre (y : Yr) (k : Nat) : Int := y.lens (y.mos.take k)
end Go.Proofs.YthmjpbafbohelaaDoor

namespace Go.Proofs.YthmjpbafbohelaaDoor
open Go Go.RowKit
attribute [local go_sem] gv_yes

end Go.Proofs.YthmjpbafbohelaaDoor

namespace Go.Proofs.YthmjpbafbohelaaDoor
open Go Go.RowKit
attribute [local go_sem] gv_yes
end Go.Proofs.YthmjpbafbohelaaDoor

namespace Go.Proofs.YthmjpbafbohelaaDoor
open Go Go.RowKit
attribute [local go_sem] gv_yes Dt.val

end Go.Proofs.YthmjpbafbohelaaDoor

namespace Go.Proofs.YthmjpbafbohelaaDoor
open Go Go.RowKit
attribute [local go_sem] gv_yes

/-- The cells of n elements, one after the other. -/
def flatL (f : Nat → List Value) (n : Nat) : List Value := (List.range n).flatMap f
theorem flatL_succ (f : Nat → List Value) (k : Nat) : flatL f (k + 1) = flatL f k ++ f k := by simp [flatL, List.range_succ]
theorem flatL_len {f : Nat → List Value} {sz : Nat} (hf : ∀ i, (f i).length = sz) : ∀ k, (flatL f k).length = k * sz
  | 0 => by simp [flatL]
  | k + 1 => by rw [flatL_succ, List.length_append, flatL_len hf k, hf, Nat.succ_mul]
theorem flatL_get {f : Nat → List Value} {sz : Nat} (hf : ∀ i, (f i).length = sz) : ∀ {k i j : Nat}, i < k → j < sz → (flatL f k)[i * sz + j]? = (f i)[j]?
  | k + 1, i, j, hi, hj => by
    rw [flatL_succ]
    by_cases h : i = k
    · subst h
      rw [List.getElem?_append_right (by rw [flatL_len hf]; omega), flatL_len hf, Nat.add_sub_cancel_left]
    · have hik : i < k := by omega
      have hlt : i * sz + j < k * sz := Nat.lt_of_lt_of_le (show i * sz + j < (i + 1) * sz by rw [Nat.succ_mul]; omega) (Nat.mul_le_mul_right sz hik)
      rw [List.getElem?_append_left (by rw [flatL_len hf]; exact hlt)]
      exact flatL_get hf hik hj
theorem plain_add (b o j : Nat) : (⟨b, o, none⟩ : Addr).add j = ⟨b, o + j, none⟩ := by unfold Addr.add; split <;> simp_all
theorem flat_news {w : World} {A : Option Addr} {n sz : Nat} {f : Nat → List Value} (hf : ∀ i, (f i).length = sz) (hs : 0 < sz) (h : RowsAt w A n sz f) : ∀ ad, A = some ad → ∀ j u, (flatL f n)[j]? = some u → w.cell? (ad.add j) = some u := fun ad hA j u hj => by
  have hjl : j < n * sz := by have := (List.getElem?_eq_some_iff.1 hj).1; rwa [flatL_len hf] at this
  have hn : 0 < n := Nat.pos_of_ne_zero (fun e => by subst e; omega)
  obtain ⟨b, o, e, _, hc⟩ := h hn
  obtain rfl : ad = ⟨b, o, none⟩ := Option.some.inj (hA.symm.trans e)
  have hi : j / sz < n := (Nat.div_lt_iff_lt_mul hs).2 hjl
  have hm := Nat.mod_lt j hs
  have hd := Nat.div_add_mod j sz
  have he : j / sz * sz + j % sz = j := by rw [Nat.mul_comm]; exact hd
  have := flatL_get hf hi hm
  rw [he, hj] at this
  rw [plain_add]
  have := hc (j / sz) (j % sz) u hi this.symm
  rw [show o + j / sz * sz + j % sz = o + j by omega] at this
  exact this
theorem flat_rows {w : World} {base k sz : Nat} {e : TypeId} {v : Value} {f : Nat → List Value} (hf : ∀ i, (f i).length = sz) (h : w.ownsRow base e sz v k (flatL f k)) : ∃ F c, v = .slice F k c ∧ RowsAt w F k sz f ∧ k ≤ c ∧ c ≤ maxLen ∧ (F = none → k = 0 ∧ c = 0) ∧ ∀ a, F = some a → base ≤ a.block := by
  rcases h.2 with ⟨rfl, h0⟩ | ⟨q, cap, cur, rfl, hb, hq, hn, hm, _⟩
  · exact ⟨none, 0, by rw [h0], fun hp => by omega, by omega, by omega, fun _ => ⟨h0, rfl⟩, fun a h => by cases h⟩
  · refine ⟨_, _, rfl, fun _ => ⟨q, 0, rfl, (Array.getElem?_eq_some_iff.1 hq).1, fun i j v hi hv => ?_⟩, hn, hm, (fun h => by cases h), fun a h => by cases h; exact hb⟩
    have hj : j < sz := by have := (List.getElem?_eq_some_iff.1 hv).1; rwa [hf] at this
    have hlt : i * sz + j < k * sz := Nat.lt_of_lt_of_le (show i * sz + j < (i + 1) * sz by rw [Nat.succ_mul]; omega) (Nat.mul_le_mul_right sz hi)
    rw [Nat.zero_add, World.ownsRow.cellAt h (i * sz + j) hlt, flatL_get hf hi hj]
    exact hv
theorem info_str : (Tryd.prog.info? 9).map (fun i => (i.zero, i.size, i.bytes)) = some (some (.string ⟨#[]⟩), 1, 16) := by kernel_rfl
theorem info_year : (Tryd.prog.info? 110).map (fun i => (i.zero, i.size, i.bytes)) = some (some (.agg #[.int .i64 0, .string ⟨#[]⟩, .int .i64 0, .int .i64 0]), 4, 40) := by kernel_rfl
def strRow (g : Nat → ByteArray) (i : Nat) : List Value := [.string (g i)]
theorem flat_one {f : Nat → List Value} {n : Nat} (h : ∀ i, ∀ u ∈ f i, u.oneCell' = true) : ∀ u ∈ flatL f n, u.oneCell' = true := fun u hu => by
  obtain ⟨i, _, hi⟩ := List.mem_flatMap.1 hu
  exact h i u hi
theorem wp_region_stepsW {P : Program} {id : Nat} {Q : Exit → Act → World → Prop} {a : Act} {w : World} {l : List Oper} (n : Nat) (W : World) (hm : P.follows .mixedOrders = true) (hn : n = l.length) (he : Ext W w)
    (h : Nonempty (XW W) → (∀ (u : XW W) b o, b < W.heap.size → u.w.cell? ⟨b, o, none⟩ = W.cell? ⟨b, o, none⟩) →
      ∀ w', Ext w w' → wpAnyC P .any l.toArray (Ext W) (fun a w => Q .normal a w) n (Array.replicate n false) a w') : (Code.region id l.toArray true).wp P Q a w := by
  have H := h (XW.some W) (fun u => u.cell) { w with drawn := w.drawn + 1 } ⟨rfl, rfl, rfl, Nat.le_refl _, fun _ _ => rfl⟩
  have _ := he
  refine Code.wp_mono (Q := onQ fun a w => Q .normal a w) (fun e a' w' h' => by cases e <;> first | exact h' | exact False.elim h') (wp_region_any hm (wpAny_of_C (C := Ext W) _ _ _ _ ?_))
  subst hn
  simpa using H
theorem rows_set {w : World} {A : Option Addr} {n sz : Nat} {f : Nat → List Value} (h : RowsAt w A n sz f) {p : Addr} (u : Value) (hne : ∀ a, A = some a → a.block ≠ p.block) : RowsAt (w.setCell p u) A n sz f := fun h0 => by
  obtain ⟨b, off, hA, hb, hc⟩ := h h0
  refine ⟨b, off, hA, by simpa [World.setCell] using hb, fun i j v hi hv => ?_⟩
  have hb2 : p.block ≠ b := fun e => hne _ hA e.symm
  rw [World.cell?_setCell_other _ _ _ _ (fun e => hb2 (by rw [e]))]
  exact hc i j v hi hv
theorem rows_set2 {w : World} {A : Option Addr} {n sz : Nat} {f : Nat → List Value} {b : Nat} (h : RowsAt w A n sz f) (hne : ∀ a, A = some a → a.block ≠ b) (i j : Nat) (u x : Value) : RowsAt ((w.setCell ⟨b, i, none⟩ u).setCell ⟨b, j, none⟩ x) A n sz f := rows_set (rows_set h u hne) x hne
theorem held_two {W : World} {b : Nat} {t : TypeId} {v0 v1 : Value} (h : Held W b t #[v0, v1]) (u0 u1 : Value) : Held ((W.setCell ⟨b, 0, none⟩ u0).setCell ⟨b, 1, none⟩ u1) b t #[u0, u1] := by unfold Held at h ⊢; simp [World.setCell, Array.getElem?_modify, h]
end Go.Proofs.YthmjpbafbohelaaDoor

namespace Go.Proofs.YthmjpbafbohelaaDoor
open Go Go.RowKit
attribute [local go_sem] gv_yes
attribute [local go_sem high] neq_year

set_option maxHeartbeats 1000000 in
theorem eqInts_any (A B : Option Addr) (n ca cb : Nat) (g : Nat → Int) (w : World) (hA : RowsAt w A n 1 (fun i => [.int .i64 (g i)])) (hB : RowsAt w B n 1 (fun i => [.int .i64 (g i)])) (hn : n ≤ 9223372036854775807) :
    Calls Tryd.prog 43 #[.slice A n ca, .slice B n cb] w fun e w' => e = .returned (.bool true) ∧ Ext w w' := by
  go_enter Tryd.func43, Tryd.ntmps43
  go_wp2
  go_loopw [5] (fun i wr => ∃ k : Nat, k ≤ n ∧ i = .int .i64 k ∧ Ext w wr) (fun i _ => n - (intOf i).toNat)
  case atStart => exact ⟨0, Nat.zero_le _, rfl, Ext.refl _⟩
  case round =>
    obtain ⟨k, hk, rfl, hE⟩ := hrel
    obtain ⟨wo, rfl⟩ : ∃ wo : World, wo = wr := ⟨_, rfl⟩
    obtain ⟨hcwo, hfwo, hzwo⟩ := Ext.rules hE
    try simp only [World.size_alloc] at hzwo
    obtain ⟨hcbwo, hfbwo, hzbwo⟩ := Ext.rules (show Ext w wo from (by repeat (first | exact Ext.refl _ | (refine Ext.alloc ?_ _) | (refine Ext.trans ?_ (by assumption)))))
    clear hcwo hfwo
    by_cases hlt : k < n
    · obtain ⟨b, off, rfl, hb, hc⟩ := hA (by omega)
      obtain ⟨b', off', rfl, hb', hc'⟩ := hB (by omega)
      have c0 : w.cell? ⟨b, off + k, none⟩ = some (.int .i64 (g k)) := by simpa using hc k 0 _ hlt rfl
      have c1 : w.cell? ⟨b', off' + k, none⟩ = some (.int .i64 (g k)) := by simpa using hc' k 0 _ hlt rfl
      clear hc hA hc' hB
      go_upto_region 6 with (fail)
      refine wp_region_xw w mixed (by kernel_rfl) (by repeat (first | exact Ext.refl _ | (refine Ext.alloc ?_ _) | (refine Ext.trans ?_ (by assumption)))) ?_
      intro hne hrx hry
      try simp only []
      try simp only [List.append_eq, List.cons_append, List.nil_append]
      skip
      repeat (first
        | go_big_quiet_skip
        | (go_big_quiet_want; go_big_quiet_op; go_big_quiet_on))
      clear hne hry hrx
      refine wpQuiet_nil ?_
      intro wn hwn
      obtain ⟨hcwn, hfwn, hzwn⟩ := Ext.rules hwn
      try simp only [World.size_alloc] at hzwn
      obtain ⟨hcbwn, hfbwn, hzbwn⟩ := Ext.rules (show Ext w wn from (by repeat (first | exact Ext.refl _ | (refine Ext.alloc ?_ _) | (refine Ext.trans ?_ (by assumption)))))
      clear hcwn hfwn
      go_wp2
      exact ⟨⟨k + 1, by omega, by go_num, (by repeat (first | exact Ext.refl _ | (refine Ext.alloc ?_ _) | (refine Ext.trans ?_ (by assumption))))⟩, by simp [intOf]; omega⟩
    · go_wp2
      go_ret
      exact ⟨rfl, (by repeat (first | exact Ext.refl _ | (refine Ext.alloc ?_ _) | (refine Ext.trans ?_ (by assumption))))⟩
end Go.Proofs.YthmjpbafbohelaaDoor

namespace Go.Proofs.YthmjpbafbohelaaDoor

/-- The day n is in the calendar and fits. -/
def Cal.Fit (c : Cal) (t : Tr) (n : Int) : Prop := ∃ d, c.at? n = some d ∧ c.fits t d = true
/-- l is what fits of the days before e. -/
structure Good (F : Int → Prop) (l : List Sp) (e : Int) : Prop where
  ok : ∀ s, s ∈ l → 1 ≤ s.a ∧ s.a ≤ s.b ∧ s.b < e
  pw : l.Pairwise (fun s s' => s.b + 2 ≤ s'.a)
  cover : ∀ n, 1 ≤ n → n < e → (F n ↔ ∃ s, s ∈ l ∧ s.a ≤ n ∧ n ≤ s.b)
namespace Good
variable {F : Int → Prop} {l : List Sp} {e : Int}
theorem nil (F : Int → Prop) : Good F [] 1 := ⟨fun _ h => (by cases h), List.Pairwise.nil, fun n h1 h2 => by omega⟩
theorem skip (h : Good F l e) (hF : ¬ F e) : Good F l (e + 1) := by
  refine ⟨fun s hs => ?_, h.pw, fun n h1 h2 => ?_⟩
  · have := h.ok s hs; omega
  · by_cases hn : n = e
    · subst hn
      refine ⟨fun hf => absurd hf hF, fun ⟨s, hs, h3, h4⟩ => ?_⟩
      have := h.ok s hs; omega
    · exact h.cover n h1 (by omega)
theorem add (h : Good F l e) (h1 : 1 ≤ e) (hF : F e) : Good F (addDay l e) (e + 1) := by
  unfold addDay
  cases hl : l.getLast? with
  | none =>
    have : l = [] := List.getLast?_eq_none_iff.1 hl
    subst this
    refine ⟨fun s hs => ?_, List.pairwise_singleton _ _, fun n h2 h3 => ?_⟩
    · rw [List.mem_singleton] at hs; subst hs; simp only; omega
    · by_cases hn : n = e
      · subst hn; exact ⟨fun _ => ⟨_, List.mem_singleton.2 rfl, Int.le_refl _, Int.le_refl _⟩, fun _ => hF⟩
      · rw [h.cover n h2 (by omega)]
        refine ⟨fun ⟨s, hs, _⟩ => (by cases hs), fun ⟨s, hs, h4, h5⟩ => ?_⟩
        rw [List.mem_singleton] at hs; subst hs; simp only at h4 h5; omega
  | some z =>
    have hz : l = l.dropLast ++ [z] := by
      have hne : l ≠ [] := fun h0 => by subst h0; cases hl
      rw [List.getLast?_eq_some_getLast hne] at hl
      rw [← Option.some.inj hl]; exact (List.dropLast_concat_getLast hne).symm
    have hzl : z ∈ l := by rw [hz]; simp
    have hok := h.ok z hzl
    have hpw := h.pw
    simp only
    split
    · rename_i hb
      rw [hz, List.pairwise_append] at hpw
      refine ⟨fun s hs => ?_, ?_, fun n h2 h3 => ?_⟩
      · rcases List.mem_append.1 hs with hs | hs
        · have := h.ok s (List.dropLast_subset _ hs); omega
        · rw [List.mem_singleton] at hs; subst hs; simp only; omega
      · rw [List.pairwise_append]
        exact ⟨hpw.1, List.pairwise_singleton _ _, fun s hs s' hs' => by
          rw [List.mem_singleton] at hs'; subst hs'
          exact hpw.2.2 s hs z (by simp)⟩
      · by_cases hn : n = e
        · subst hn; exact ⟨fun _ => ⟨⟨z.a, n⟩, by simp, by simp only; omega, Int.le_refl _⟩, fun _ => hF⟩
        · rw [h.cover n h2 (by omega)]
          constructor
          · rintro ⟨s, hs, h4, h5⟩
            rw [hz] at hs
            rcases List.mem_append.1 hs with hs | hs
            · exact ⟨s, List.mem_append_left _ hs, h4, h5⟩
            · rw [List.mem_singleton] at hs; subst hs
              exact ⟨⟨s.a, e⟩, by simp, h4, by simp only; omega⟩
          · rintro ⟨s, hs, h4, h5⟩
            rcases List.mem_append.1 hs with hs | hs
            · exact ⟨s, List.dropLast_subset _ hs, h4, h5⟩
            · rw [List.mem_singleton] at hs; subst hs
              simp only at h4 h5
              exact ⟨z, hzl, h4, by omega⟩
    · rename_i hb
      refine ⟨fun s hs => ?_, ?_, fun n h2 h3 => ?_⟩
      · rcases List.mem_append.1 hs with hs | hs
        · have := h.ok s hs; omega
        · rw [List.mem_singleton] at hs; subst hs; simp only; omega
      · rw [List.pairwise_append]
        refine ⟨hpw, List.pairwise_singleton _ _, fun s hs s' hs' => ?_⟩
        rw [List.mem_singleton] at hs'; subst hs'
        simp only
        rw [hz] at hs
        rcases List.mem_append.1 hs with hs | hs
        · rw [hz, List.pairwise_append] at hpw
          have := hpw.2.2 s hs z (by simp)
          omega
        · rw [List.mem_singleton] at hs; subst hs; omega
      · by_cases hn : n = e
        · subst hn; exact ⟨fun _ => ⟨⟨n, n⟩, by simp, Int.le_refl _, Int.le_refl _⟩, fun _ => hF⟩
        · rw [h.cover n h2 (by omega)]
          constructor
          · rintro ⟨s, hs, h4, h5⟩; exact ⟨s, List.mem_append_left _ hs, h4, h5⟩
          · rintro ⟨s, hs, h4, h5⟩
            rcases List.mem_append.1 hs with hs | hs
            · exact ⟨s, hs, h4, h5⟩
            · rw [List.mem_singleton] at hs; subst hs
              simp only at h4 h5; omega
end Good
theorem Cal.Fit.in {c : Cal} {t : Tr} {n : Int} (h : c.Fit t n) : 1 ≤ n ∧ n < c.dayAt c.ny := by
  obtain ⟨d, hd, _⟩ := h
  rcases Decidable.em (n < 1 ∨ c.dayAt c.ny ≤ n) with h2 | h2
  · rw [at_out h2] at hd; cases hd
  · omega
end Go.Proofs.YthmjpbafbohelaaDoor

namespace Go.Proofs.YthmjpbafbohelaaDoor

structure SpOk (l : List Sp) : Prop where
  ok : ∀ s, s ∈ l → 1 ≤ s.a ∧ s.a ≤ s.b ∧ s.b ≤ 156000
  pw : l.Pairwise (fun s s' => s.b + 2 ≤ s'.a)
def inS (l : List Sp) (n : Int) : Prop := ∃ s, s ∈ l ∧ s.a ≤ n ∧ n ≤ s.b
theorem SpOk.tail {s : Sp} {l : List Sp} (h : SpOk (s :: l)) : SpOk l := ⟨fun x hx => h.ok x (List.mem_cons_of_mem _ hx), (List.pairwise_cons.1 h.pw).2⟩
theorem SpOk.two {l : List Sp} (h : SpOk l) {s s' : Sp} (hs : s ∈ l) (hs' : s' ∈ l) : s = s' ∨ s.b + 2 ≤ s'.a ∨ s'.b + 2 ≤ s.a := by
  obtain ⟨i, hi, rfl⟩ := List.mem_iff_getElem.1 hs
  obtain ⟨j, hj, rfl⟩ := List.mem_iff_getElem.1 hs'
  have hp := List.pairwise_iff_getElem.1 h.pw
  rcases Nat.lt_trichotomy i j with h1 | h1 | h1
  · exact .inr (.inl (hp i j hi hj h1))
  · subst h1; exact .inl rfl
  · exact .inr (.inr (hp j i hj hi h1))
theorem SpOk.in {l : List Sp} (h : SpOk l) {n : Int} (hn : inS l n) : 1 ≤ n ∧ n ≤ 156000 := by
  obtain ⟨s, hs, h1, h2⟩ := hn
  have := h.ok s hs
  omega
section
variable {sp : Nat → List Sp} {n : Nat} {D : Nat → Int}
end
end Go.Proofs.YthmjpbafbohelaaDoor

namespace Go.Proofs.YthmjpbafbohelaaDoor

end Go.Proofs.YthmjpbafbohelaaDoor

namespace Go.Proofs.YthmjpbafbohelaaDoor

/-! ### Reign, YearOf, Named, Whole -/
/-- How many of the first j years have the king k. -/
def Cal.ofKing (c : Cal) (k : Int) : Nat → Nat
  | 0 => 0
  | j + 1 => c.ofKing k j + (if (c.yr j).k = k then 1 else 0)
def Cal.kingOf (c : Cal) (i : Nat) : ByteArray := c.kg (c.yr i).k.toNat
/-- How many of the first j years have a king of that name. -/
def Cal.ofName (c : Cal) (s : ByteArray) : Nat → Nat
  | 0 => 0
  | j + 1 => c.ofName s j + (if c.kingOf j = s then 1 else 0)
def Cal.yearE (c : Cal) (y : Int) : Int := if c.valid then (if 0 ≤ y ∧ y < c.ny then 0 else 8) else 70
def Cal.reignS (c : Cal) (y : Int) : ByteArray := if c.yearE y = 0 then c.kingOf y.toNat else ⟨#[]⟩
def Cal.reignN (c : Cal) (y : Int) : Int := if c.yearE y = 0 then c.ofKing (c.yrI y).k (y.toNat + 1) else 0
/-- The n-th year of a king, out of the years from i on of which there are m more. -/
def Cal.nthFrom (c : Cal) (s : ByteArray) (n : Int) (i : Nat) : Nat → Option Nat
  | 0 => none
  | m + 1 => if c.kingOf i = s ∧ (c.ofName s (i + 1) : Int) = n then some i else c.nthFrom s n (i + 1) m
def Cal.nth? (c : Cal) (s : ByteArray) (n : Int) : Option Nat := c.nthFrom s n 0 c.ny
def Cal.yofE (c : Cal) (s : ByteArray) (n : Int) : Int := if c.valid then (if (c.nth? s n).isSome then 0 else 4) else 70
def Cal.yofV (c : Cal) (s : ByteArray) (n : Int) : Int := if c.valid then ((c.nth? s n).getD 0 : Nat) else 0
theorem nthFrom_miss {c : Cal} {s : ByteArray} {n : Int} : ∀ {m i : Nat}, (∀ j, i ≤ j → j < i + m → ¬ (c.kingOf j = s ∧ (c.ofName s (j + 1) : Int) = n)) → c.nthFrom s n i m = none
  | 0, _, _ => rfl
  | m + 1, i, h => by
    rw [Cal.nthFrom, if_neg (h i (Nat.le_refl _) (by omega))]
    exact nthFrom_miss fun j h1 h2 => h j (by omega) (by omega)
theorem nthFrom_hit {c : Cal} {s : ByteArray} {n : Int} : ∀ {m i k : Nat}, i ≤ k → k < i + m → (∀ j, i ≤ j → j < k → ¬ (c.kingOf j = s ∧ (c.ofName s (j + 1) : Int) = n)) → c.kingOf k = s → (c.ofName s (k + 1) : Int) = n → c.nthFrom s n i m = some k
  | 0, i, k, h1, h2, _, _, _ => by omega
  | m + 1, i, k, h1, h2, h3, h4, h5 => by
    rw [Cal.nthFrom]
    by_cases e : i = k
    · subst e; rw [if_pos ⟨h4, h5⟩]
    · rw [if_neg (h3 i (Nat.le_refl _) (by omega))]
      exact nthFrom_hit (by omega) (by omega) (fun j h6 h7 => h3 j (by omega) h7) h4 h5
theorem nth_miss {c : Cal} {s : ByteArray} {n : Int} (h : ∀ j, j < c.ny → ¬ (c.kingOf j = s ∧ (c.ofName s (j + 1) : Int) = n)) : c.nth? s n = none := nthFrom_miss fun j _ h2 => h j (by omega)
theorem nth_hit {c : Cal} {s : ByteArray} {n : Int} {k : Nat} (hk : k < c.ny) (h : ∀ j, j < k → ¬ (c.kingOf j = s ∧ (c.ofName s (j + 1) : Int) = n)) (h1 : c.kingOf k = s) (h2 : (c.ofName s (k + 1) : Int) = n) : c.nth? s n = some k :=
  nthFrom_hit (Nat.zero_le _) (by omega) (fun j _ h4 => h j h4) h1 h2
theorem ofName_le (c : Cal) (s : ByteArray) : ∀ j, c.ofName s j ≤ j
  | 0 => Nat.le_refl _
  | j + 1 => by have := ofName_le c s j; rw [Cal.ofName]; split <;> omega
theorem ofKing_le (c : Cal) (k : Int) : ∀ j, c.ofKing k j ≤ j
  | 0 => Nat.le_refl _
  | j + 1 => by have := ofKing_le c k j; rw [Cal.ofKing]; split <;> omega
def Cal.isNamed (c : Cal) (name king : ByteArray) (i : Nat) : Bool := decide ((c.yr i).nm = name) && (emptyB king || decide (c.kingOf i = king))
/-- The years with a name, of one king or of all, among the first k. -/
def Cal.namedTo (c : Cal) (name king : ByteArray) (k : Nat) : List Nat := (List.range k).filter (c.isNamed name king)
theorem namedTo_succ (c : Cal) (name king : ByteArray) (k : Nat) : c.namedTo name king (k + 1) = if c.isNamed name king k then c.namedTo name king k ++ [k] else c.namedTo name king k := by
  unfold Cal.namedTo
  rw [List.range_succ, List.filter_append]
  cases h : c.isNamed name king k <;> simp [h]
def Cal.namedV (c : Cal) (name king : ByteArray) : List Nat := if c.valid then c.namedTo name king c.ny else []
/-! ### What a valid calendar is -/
structure CalOk (c : Cal) : Prop where
  nk : 1 ≤ c.nk ∧ c.nk ≤ 40
  ny : 1 ≤ c.ny ∧ c.ny ≤ 400
  kname : ∀ i, i < c.nk → isName (c.kg i) = true
  kne : ∀ i j, j < i → i < c.nk → c.kg j ≠ c.kg i
  yk : ∀ i, i < c.ny → c.prevK i ≤ (c.yr i).k ∧ (c.yr i).k < c.nk
  yname : ∀ i, i < c.ny → isName (c.yr i).nm = true
  yne : ∀ i j, j < i → i < c.ny → ¬ ((c.yr j).k = (c.yr i).k ∧ (c.yr j).nm = (c.yr i).nm)
  shape : ∀ i, i < c.ny → (c.yr i).shapeOk = true
theorem valid_iff {c : Cal} : c.valid = true ↔ CalOk c := by
  unfold Cal.valid Cal.kingsOk
  simp only [Bool.and_eq_true, decide_eq_true_eq, List.all_eq_true, List.mem_range, Cal.kingOk, Cal.yearOk, Bool.not_eq_true', Cal.hadTo, List.any_eq_false, Yr.alike]
  constructor
  · rintro ⟨⟨⟨⟨⟨h1, h2⟩, h3⟩, h4⟩, h5⟩, h6⟩
    exact ⟨⟨h1, h2⟩, ⟨h4, h5⟩, fun i hi => (h3 i hi).1, fun i j hj hi => (h3 i hi).2 j hj, fun i hi => ⟨(h6 i hi).1.1.1.1, (h6 i hi).1.1.1.2⟩, fun i hi => (h6 i hi).1.1.2, fun i j hj hi => (h6 i hi).1.2 j hj, fun i hi => (h6 i hi).2⟩
  · intro h
    exact ⟨⟨⟨⟨h.nk, fun i hi => ⟨h.kname i hi, fun j hj => h.kne i j hj hi⟩⟩, h.ny.1⟩, h.ny.2⟩, fun i hi => ⟨⟨⟨⟨(h.yk i hi).1, (h.yk i hi).2⟩, h.yname i hi⟩, fun j hj => h.yne i j hj hi⟩, h.shape i hi⟩⟩
theorem CalOk.k0 {c : Cal} (h : CalOk c) : ∀ {i : Nat}, i < c.ny → 0 ≤ (c.yr i).k
  | 0, hi => (h.yk 0 hi).1
  | i + 1, hi => Int.le_trans (h.k0 (show i < c.ny by omega)) (h.yk (i + 1) hi).1
theorem CalOk.mono {c : Cal} (h : CalOk c) {i : Nat} : ∀ {j : Nat}, i ≤ j → j < c.ny → (c.yr i).k ≤ (c.yr j).k
  | 0, hij, _ => by obtain rfl : i = 0 := by omega
                    exact Int.le_refl _
  | j + 1, hij, hj => by
    rcases Nat.lt_or_ge j i with h' | h'
    · obtain rfl : i = j + 1 := by omega
      exact Int.le_refl _
    · exact Int.le_trans (h.mono h' (by omega)) (h.yk (j + 1) hj).1
end Go.Proofs.YthmjpbafbohelaaDoor

namespace Go.Proofs.YthmjpbafbohelaaDoor

/-- The month that is doubled at a place of the cycle. -/
def dbl (p : Nat) : Int := if p = 17 then 6 else if p = 3 ∨ p = 6 ∨ p = 8 ∨ p = 11 ∨ p = 14 ∨ p = 19 then 12 else 0
/-- The place of the i-th added year. -/
def placeAt (p i : Nat) : Nat := (p - 1 + i) % 19 + 1
theorem placeAt_zero {p : Nat} (h1 : 1 ≤ p) (h2 : p ≤ 19) : placeAt p 0 = p := by unfold placeAt; omega
theorem placeAt_succ (p i : Nat) : placeAt p (i + 1) = placeAt p i % 19 + 1 := by unfold placeAt; omega
theorem placeAt_bd (p i : Nat) : 1 ≤ placeAt p i ∧ placeAt p i ≤ 19 := by unfold placeAt; omega
theorem dbl_cases (p : Nat) : dbl p = 0 ∨ dbl p = 6 ∨ dbl p = 12 := by unfold dbl; split; exact .inr (.inl rfl); split; exact .inr (.inr rfl); exact .inl rfl
def lgOf (d : Int) : Int := if 0 < d then 5461 else 1365
def newYr (k : Int) (p : Nat) (s : ByteArray) : Yr := ⟨k, s, lgOf (dbl p), dbl p⟩
def Cal.lastK (c : Cal) : Int := (c.yr (c.ny - 1)).k
def Cal.extY (c : Cal) (p : Nat) (g : Nat → ByteArray) (i : Nat) : Yr := if i < c.ny then c.yr i else newYr c.lastK (placeAt p (i - c.ny)) (g (i - c.ny))
def Cal.ext (c : Cal) (p : Nat) (g : Nat → ByteArray) (m : Nat) : Cal := ⟨c.nk, c.kg, c.ny + m, c.extY p g⟩
theorem extY_old {c : Cal} {p : Nat} {g : Nat → ByteArray} {i : Nat} (h : i < c.ny) : c.extY p g i = c.yr i := by unfold Cal.extY; rw [if_pos h]
theorem extY_new (c : Cal) (p : Nat) (g : Nat → ByteArray) (i : Nat) : c.extY p g (c.ny + i) = newYr c.lastK (placeAt p i) (g i) := by
  unfold Cal.extY; rw [if_neg (by omega), Nat.add_sub_cancel_left]
/-- May the i-th name be added? -/
def Cal.extGood (c : Cal) (p : Nat) (g : Nat → ByteArray) (i : Nat) : Bool := isName (g i) && !((List.range (c.ny + i)).any fun j => decide ((c.extY p g j).k = c.lastK) && decide ((c.extY p g j).nm = g i))
def Cal.extAll (c : Cal) (p : Nat) (g : Nat → ByteArray) (n : Nat) : Bool := (List.range n).all (c.extGood p g)
def Cal.extE (c : Cal) (g : Nat → ByteArray) (n : Nat) (p : Int) : Int :=
  if c.valid then (if 1 ≤ p ∧ p ≤ 19 then (if n ≤ 38 ∧ c.ny + n ≤ 400 then (if c.extAll p.toNat g n then 0 else 5) else 3) else 8) else 70
def zCal : Cal := ⟨0, fun _ => ⟨#[]⟩, 0, fun _ => ⟨0, ⟨#[]⟩, 0, 0⟩⟩
def Cal.extV (c : Cal) (g : Nat → ByteArray) (n : Nat) (p : Int) : Cal := if c.extE g n p = 0 then c.ext p.toNat g n else zCal
theorem extAll_no {c : Cal} {p : Nat} {g : Nat → ByteArray} {n k : Nat} (hk : k < n) (h : c.extGood p g k = false) : c.extAll p g n = false := by
  rw [Cal.extAll, List.all_eq_false]; exact ⟨k, by simpa using hk, by simp [h]⟩
theorem extAll_yes {c : Cal} {p : Nat} {g : Nat → ByteArray} {n : Nat} (h : ∀ k, k < n → c.extGood p g k = true) : c.extAll p g n = true := by
  rw [Cal.extAll, List.all_eq_true]; intro k hk; exact h k (by simpa using hk)
/-! ### The earlier days keep their numbers -/
end Go.Proofs.YthmjpbafbohelaaDoor

namespace Go.Proofs.YthmjpbafbohelaaDoor
open Go Go.RowKit
attribute [local go_sem] gv_yes

theorem places {p : Nat} (h1 : 1 ≤ p) (h2 : p ≤ 19) : p = 1 ∨ p = 2 ∨ p = 3 ∨ p = 4 ∨ p = 5 ∨ p = 6 ∨ p = 7 ∨ p = 8 ∨ p = 9 ∨ p = 10 ∨ p = 11 ∨ p = 12 ∨ p = 13 ∨ p = 14 ∨ p = 15 ∨ p = 16 ∨ p = 17 ∨ p = 18 ∨ p = 19 := by omega
theorem double_any (p : Nat) (h1 : 1 ≤ p) (h2 : p ≤ 19) (w : World) : Calls Tryd.prog 97 #[.int .i64 (p : Int)] w fun e w' => e = .returned (.int .i64 (dbl p)) ∧ Ext w w' := by
  rcases places h1 h2 with rfl | rfl | rfl | rfl | rfl | rfl | rfl | rfl | rfl | rfl | rfl | rfl | rfl | rfl | rfl | rfl | rfl | rfl | rfl
  all_goals
    go_enter Tryd.func97, Tryd.ntmps97
    go_wp2
    go_ret
    exact ⟨rfl, (by repeat (first | exact Ext.refl _ | (refine Ext.alloc ?_ _) | (refine Ext.trans ?_ (by assumption))))⟩
/-- The closure: has a year the king and the name? -/
def isYr (K : Int) (s : ByteArray) (y : Yr) : Bool := decide (y.k = K) && decide (y.nm = s)
set_option maxRecDepth 100000 in
set_option maxHeartbeats 4000000 in
theorem same_king_any (y : Yr) (K : Int) (s : ByteArray) (bk bs : Nat) (w : World) (hk : w.cell? ⟨bk, 0, none⟩ = some (.int .i64 K)) (hs : w.cell? ⟨bs, 0, none⟩ = some (.string s)) (hk' : bk < w.heap.size) (hs' : bs < w.heap.size) :
    Calls Tryd.prog 96 #[.agg #[.int .i64 y.k, .string y.nm, .int .i64 y.lg, .int .i64 y.db], .pointer (some ⟨bk, 0, none⟩), .pointer (some ⟨bs, 0, none⟩)] w fun e w' => e = .returned (.bool (isYr K s y)) ∧ Ext w w' := by
  have hR : Hid (isYr K s y = ((y.k == K) && (y.nm.toList == s.toList))) := by
    unfold Hid isYr
    rw [same_eq]; rfl
  generalize isYr K s y = r at *
  generalize h1 : (y.k == K) = e1 at *
  generalize h2 : (y.nm.toList == s.toList) = e2 at *
  cases e1 <;> cases e2
  all_goals
    go_enter Tryd.func96, Tryd.ntmps96
    go_upto_region 1 with (fail)
    obtain ⟨v, hv⟩ : ∃ x, x = w.alloc (.cells #[.int .i64 y.k, .string y.nm, .int .i64 y.lg, .int .i64 y.db] 110) := ⟨_, rfl⟩
    rw [← hv]
    have E : Ext w v := by rw [hv]; exact (Ext.refl _).alloc _
    have B1 : Held v w.heap.size 110 #[.int .i64 y.k, .string y.nm, .int .i64 y.lg, .int .i64 y.db] := by rw [hv]; exact Held.new _ _ _
    have hk2 : v.cell? ⟨bk, 0, none⟩ = some (.int .i64 K) := (E.cell (p := ⟨bk, 0, none⟩) hk').trans hk
    have hs2 : v.cell? ⟨bs, 0, none⟩ = some (.string s) := (E.cell (p := ⟨bs, 0, none⟩) hs').trans hs
    clear hv
    obtain ⟨k0, k1, k2, k3⟩ := B1.c4
    go_wp2
    go_ret
    exact ⟨by rw [hR.out]; rfl, E⟩
set_option maxRecDepth 100000 in
set_option maxHeartbeats 4000000 in
theorem index_any (A : Option Addr) (n cap : Nat) (f : Nat → Yr) (K : Int) (s : ByteArray) (bk bs : Nat) (w : World) (hA : RowsAt w A n 4 (fun i => (f i).cells)) (hn : n ≤ 9223372036854775807) (hk : w.cell? ⟨bk, 0, none⟩ = some (.int .i64 K)) (hs : w.cell? ⟨bs, 0, none⟩ = some (.string s)) (hk' : bk < w.heap.size) (hs' : bs < w.heap.size) :
    Calls Tryd.prog 119 #[.slice A n cap, .func (.func 96) #[] #[.pointer (some ⟨bk, 0, none⟩), .pointer (some ⟨bs, 0, none⟩)]] w fun e w' => ∃ r : Int, e = .returned (.int .i64 r) ∧ decide (0 ≤ r) = ((List.range n).any fun j => isYr K s (f j)) ∧ Ext w w' := by
  go_enter Tryd.func119, Tryd.ntmps119
  go_wp2
  go_loopw [8] (fun iv wr => ∃ k : Nat, k ≤ n ∧ iv = .int .i64 (k : Int) ∧ Hid (∀ j, j < k → isYr K s (f j) = false) ∧ Ext w wr) (fun iv _ => n - (intOf iv).toNat)
  case atStart => exact ⟨0, Nat.zero_le _, rfl, fun j h => absurd h (by omega), Ext.refl _⟩
  case round =>
    obtain ⟨k, hk0, rfl, hno, hE⟩ := hrel
    obtain ⟨wo, rfl⟩ : ∃ wo : World, wo = wr := ⟨_, rfl⟩
    by_cases hlt : k < n
    · obtain ⟨b, off, hAA, hb, hc⟩ := (hA.ext hE) (by omega)
      subst hAA
      have c0 : wo.cell? ⟨b, off + k * 4, none⟩ = some (.int .i64 (f k).k) := by simpa using hc k 0 _ hlt rfl
      have c1 : wo.cell? ⟨b, off + k * 4 + 1, none⟩ = some (.string (f k).nm) := hc k 1 _ hlt rfl
      have c2 : wo.cell? ⟨b, off + k * 4 + 2, none⟩ = some (.int .i64 (f k).lg) := hc k 2 _ hlt rfl
      have c3 : wo.cell? ⟨b, off + k * 4 + 3, none⟩ = some (.int .i64 (f k).db) := hc k 3 _ hlt rfl
      have NP := same_king_any (f k) K s bk bs wo ((hE.cell (p := ⟨bk, 0, none⟩) hk').trans hk) ((hE.cell (p := ⟨bs, 0, none⟩) hs').trans hs) (Nat.lt_of_lt_of_le hk' hE.size) (Nat.lt_of_lt_of_le hs' hE.size)
      clear hc hA
      generalize hq : isYr K s (f k) = q at *
      have HQ := Lib.hid hq
      clear hq
      cases q
      · go_wp2_with (first | (go_at_call 96; (with_reducible refine Calls.mono (NP) ?_); rintro e w4 ⟨rfl, h⟩) | (go_at_fn 96; (with_reducible refine Calls.mono (NP) ?_); rintro e w4 ⟨rfl, h⟩))
        exact ⟨⟨k + 1, by omega, by go_num, fun j hj => by
          by_cases e : j = k
          · subst e; exact HQ.out
          · exact hno.out j (by omega), hE.trans h⟩, by simp [intOf]; omega⟩
      · go_wp2_with (first | (go_at_call 96; (with_reducible refine Calls.mono (NP) ?_); rintro e w4 ⟨rfl, h⟩) | (go_at_fn 96; (with_reducible refine Calls.mono (NP) ?_); rintro e w4 ⟨rfl, h⟩))
        go_ret
        exact ⟨_, rfl, by rw [decide_eq_true (by omega)]; exact (List.any_eq_true.2 ⟨k, by simpa using hlt, HQ.out⟩).symm, hE.trans h⟩
    · obtain rfl : k = n := by omega
      go_wp2
      go_ret
      exact ⟨_, rfl, by rw [decide_eq_false (by omega)]; exact (List.any_eq_false.2 (fun j hj => by have := hno.out j (by simpa using hj); simp [this])).symm, hE⟩
theorem contains_any (A : Option Addr) (n cap : Nat) (f : Nat → Yr) (K : Int) (s : ByteArray) (bk bs : Nat) (w : World) (hA : RowsAt w A n 4 (fun i => (f i).cells)) (hn : n ≤ 9223372036854775807) (hk : w.cell? ⟨bk, 0, none⟩ = some (.int .i64 K)) (hs : w.cell? ⟨bs, 0, none⟩ = some (.string s)) (hk' : bk < w.heap.size) (hs' : bs < w.heap.size) :
    Calls Tryd.prog 95 #[.slice A n cap, .func (.func 96) #[] #[.pointer (some ⟨bk, 0, none⟩), .pointer (some ⟨bs, 0, none⟩)]] w fun e w' => e = .returned (.bool ((List.range n).any fun j => isYr K s (f j))) ∧ Ext w w' := by
  have NI := index_any A n cap f K s bk bs w hA hn hk hs hk' hs'
  go_enter Tryd.func95, Tryd.ntmps95
  go_wp2_with (go_at_call 119; (with_reducible refine Calls.mono (NI) ?_); rintro e w4 ⟨r, rfl, hr, h⟩)
  go_ret
  exact ⟨by rw [← hr]; rfl, h⟩
set_option maxRecDepth 100000 in
set_option maxHeartbeats 4000000 in
theorem cloneYears_any (A : Option Addr) (n cap : Nat) (f : Nat → Yr) (w : World) (hA : RowsAt w A n 4 (fun i => (f i).cells)) (hnil : A = none → n = 0 ∧ cap = 0) (hn : n * 40 ≤ 140737488351232) :
    Calls Tryd.prog 93 #[.slice A n cap] w fun e w' => ∃ v, e = .returned v ∧ Ext w w' ∧ w'.ownsRow w.heap.size 110 4 v n (flatL (fun i => (f i).cells) n) := by
  have q23 : ∀ (w : World) (a : Option Addr) (n c n' c' : Nat), (binOp .eql 23 (.slice a n c) (.slice none n' c')).run Tryd.prog w = .ok (.bool a.isNone) w := fun w a n c n' c' => Lib.run_eql_slice_nil w _ _ a n c n' c' Tryd.underlying23
  cases A with
  | none =>
    obtain ⟨rfl, rfl⟩ := hnil rfl
    go_enter Tryd.func93, Tryd.ntmps93
    go_wp2
    go_ret
    exact ⟨_, rfl, Ext.refl _, World.ownsRow_nil _ _ _ _⟩
  | some a =>
    obtain ⟨i0, hi, hz0, hz1, hz2⟩ := info_parts info_year
    have hlen := flatL_len (f := fun i => (f i).cells) (sz := 4) (fun _ => rfl) n
    have hone : ∀ u ∈ flatL (fun i => (f i).cells) n, u.oneCell' = true := flat_one (f := fun i => (f i).cells) (n := n) (fun i u hu => by simp [Yr.cells] at hu; rcases hu with rfl | rfl | rfl | rfl <;> simp [Value.oneCell'])
    have HN := fun v (h : RowsAt v (some a) n 4 (fun i => (f i).cells)) => flat_news (f := fun i => (f i).cells) (sz := 4) (fun _ => rfl) (by decide) h
    go_enter Tryd.func93, Tryd.ntmps93
    go_wp2_with (at_builtin; refine wpList_append_own _ rfl _ _ 23 rfl w.heap.size 110 i0 (.agg #[.int .i64 0, .string ⟨#[]⟩, .int .i64 0, .int .i64 0]) 4 40 Tryd.underlying23 hi hz0 hz1 hz2 rfl (by decide) _ _ _ rfl (World.ownsRow_made w #[] 0 (Nat.le_refl _) (Nat.zero_le _) rfl) a n cap (flatL (fun i => (f i).cells) n) rfl hlen (HN _ (hA.ext ((Ext.refl _).alloc _)) a rfl) hone (by unfold maxLen; omega) (by omega) (by simp) ?_; intro v' w1 hown hgrow hnil2)
    go_ret
    refine ⟨v', rfl, ((Ext.refl w).alloc _).grown hgrow (fun q hq => by have h : some w.heap.size = some q := hq; cases h; exact Nat.le_refl _), by simpa using hown⟩
theorem cloneTexts_any (A : Option Addr) (n cap : Nat) (g : Nat → ByteArray) (w : World) (hA : RowsAt w A n 1 (strRow g)) (hnil : A = none → n = 0 ∧ cap = 0) (hn : n * 16 ≤ 140737488351232) :
    Calls Tryd.prog 92 #[.slice A n cap] w fun e w' => ∃ v, e = .returned v ∧ Ext w w' ∧ w'.ownsRow w.heap.size 9 1 v n (flatL (strRow g) n) := by
  have q22 : ∀ (w : World) (a : Option Addr) (n c n' c' : Nat), (binOp .eql 22 (.slice a n c) (.slice none n' c')).run Tryd.prog w = .ok (.bool a.isNone) w := fun w a n c n' c' => Lib.run_eql_slice_nil w _ _ a n c n' c' Tryd.underlying22
  cases A with
  | none =>
    obtain ⟨rfl, rfl⟩ := hnil rfl
    go_enter Tryd.func92, Tryd.ntmps92
    go_wp2
    go_ret
    exact ⟨_, rfl, Ext.refl _, World.ownsRow_nil _ _ _ _⟩
  | some a =>
    obtain ⟨i0, hi, hz0, hz1, hz2⟩ := info_parts info_str
    have hlen := flatL_len (f := strRow g) (sz := 1) (fun _ => rfl) n
    have hone : ∀ u ∈ flatL (strRow g) n, u.oneCell' = true := flat_one (f := strRow g) (n := n) (fun i u hu => by simp [strRow] at hu; subst hu; simp [Value.oneCell'])
    have HN := fun v (h : RowsAt v (some a) n 1 (strRow g)) => flat_news (f := strRow g) (sz := 1) (fun _ => rfl) (by decide) h
    go_enter Tryd.func92, Tryd.ntmps92
    go_wp2_with (at_builtin; refine wpList_append_own _ rfl _ _ 22 rfl w.heap.size 9 i0 (.string ⟨#[]⟩) 1 16 Tryd.underlying22 hi hz0 hz1 hz2 rfl (by decide) _ _ _ rfl (World.ownsRow_made w #[] 0 (Nat.le_refl _) (Nat.zero_le _) rfl) a n cap (flatL (strRow g) n) rfl hlen (HN _ (hA.ext ((Ext.refl _).alloc _)) a rfl) hone (by unfold maxLen; omega) (by omega) (by simp) ?_; intro v' w1 hown hgrow hnil2)
    go_ret
    refine ⟨v', rfl, ((Ext.refl w).alloc _).grown hgrow (fun q hq => by have h : some w.heap.size = some q := hq; cases h; exact Nat.le_refl _), by simpa using hown⟩
end Go.Proofs.YthmjpbafbohelaaDoor

