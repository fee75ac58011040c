/- Walks of the program's functions and plain facts, packed; proved: the lemmas below; no conditions but those that each states. -/
import Derived.Test.YtlnjeklmkjgidaaDoorT2
import Derived.Test.YtlnjeklmkjgidaaDoorT1
import Derived.RangeFuncBox
import Derived.Laws.OwnMore
import Derived.Deep.Onto
import Derived.Maps.AppendAt
import Derived.Laws.Append
namespace Go.Proofs.YtlnjeklmkjgidaaDoor
open Go Go.RowKit

section
variable {P : Program} {ops : Array Oper} {md : Region.Mode} {C : World → Prop}
def wpAnyC (P : Program) (md : Region.Mode) (ops : Array Oper) (C : World → Prop) (R : Act → World → Prop) : Nat → Array Bool → Act → World → Prop
  | 0, L, a, w => Region.ready md ops L = [] ∧ R a w
  | f + 1, L, a, w => (Region.ready md ops L = [] → R a w) ∧ ∀ i ∈ Region.ready md ops L, wpOp P ops (onQ fun _ _ => False) i (fun a' w' => C w' ∧ wpAnyC P md ops C R f (L.setIfInBounds i true) a' w') a w
theorem wpOp_anyQ {i : Nat} {Q : Exit → Act → World → Prop} {K : Act → World → Prop} {a : Act} {w : World} (h : wpOp P ops (onQ fun _ _ => False) i K a w) : wpOp P ops Q i K a w := wpOp_onQ h
theorem wpAny_of_C {R : Act → World → Prop} : ∀ (f : Nat) (L : Array Bool) (a : Act) (w : World), wpAnyC P md ops C R f L a w → wpAny P md ops (onQ R) f L a w
  | 0, _, _, _, h => h
  | f + 1, _, _, _, h => ⟨h.1, fun i hi => wpOp_mono (fun a' w' h' => wpAny_of_C f _ a' w' h'.2) (wpOp_anyQ (h.2 i hi))⟩
/-- An operation that leaves the world may be taken first. -/
theorem wpAnyC_first {R : Act → World → Prop} {i : Nat} {oi : Oper} {v : Value} (hi : ops[i]? = some oi) (hsel : ∀ (j : Nat) (o : Oper) cs b, ops[j]? = some o → o.op ≠ .select cs b) :
    ∀ (f : Nat) (L : Array Bool) (a : Act) (w : World),
      (∀ j oj, ops[j]? = some oj → j ≠ i → L.getD j true = false → (∀ e ∈ oj.after, Region.binds md e = true → e.on ≠ i) → oi.apart ops oj = true) →
      i ∈ Region.ready md ops L → C w → StillIn P ops C oi v a →
      wpAnyC P md ops C R f (L.setIfInBounds i true) (a.put oi.dst v) w → wpAnyC P md ops C R (f + 1) L a w := by
  intro f
  induction f with
  | zero =>
    intro L a w _ hr hw hy H
    refine ⟨fun h => (by rw [h] at hr; cases hr), fun j hj => ?_⟩
    by_cases hji : j = i
    · subst hji; exact hy.wpOp hi hw ⟨hw, H⟩
    · have := ready_mono hj hji
      rw [H.1] at this
      cases this
  | succ f ih =>
    intro L a w hfree hr hw hy H
    refine ⟨fun h => (by rw [h] at hr; cases hr), fun j hj => ?_⟩
    by_cases hji : j = i
    · subst hji; exact hy.wpOp hi hw ⟨hw, H⟩
    · have h1 := H.2 j (ready_mono hj hji)
      obtain ⟨hjun, oj, hoj, hall⟩ := mem_ready.1 hj
      have hnot : ∀ e ∈ oj.after, Region.binds md e = true → e.on ≠ i := fun e he hb heq => by
        have h1 := hall e he hb
        rw [heq, getD_both (mem_ready.1 hr).1] at h1
        cases h1
      have h2 := wpOp_putS (Q := onQ fun _ _ => False) hoj (hfree j oj hoj hji hjun hnot) (fun cs b => hsel i oi cs b hi) (fun cs b => hsel j oj cs b hoj) hy h1
      have hfree' : ∀ k ok, ops[k]? = some ok → k ≠ i → (L.setIfInBounds j true).getD k true = false → (∀ e ∈ ok.after, Region.binds md e = true → e.on ≠ i) → oi.apart ops ok = true := fun k ok hk hki hun hno => by
        refine hfree k ok hk hki ?_ hno
        by_cases hjk : j = k
        · subst hjk; exact hjun
        · rw [getD_set_ne true hjk] at hun; exact hun
      refine wpOp_mono (fun a' w' h3 => ⟨h3.2.1, ih (L.setIfInBounds j true) a' w' hfree' (ready_mono hr (Ne.symm hji)) h3.2.1 h3.1 ?_⟩) h2
      rw [Array.setIfInBounds_comm _ _ hji]
      exact h3.2.2

/-! ### The values of the operations that leave the world -/
def dstsB : List Oper → Bool
  | [] => true
  | o :: l => o.guard.isNone && (match o.dst with | some d => l.all fun q => q.dst != some d | none => false) && dstsB l
theorem quiet_keeps {A : Act} {w : World} {d : Tmp} : ∀ (l : List Oper) (a : Act), (l.all fun q => q.dst != some d) = true → wpQuiet P ops (fun w' => w' = w) (fun a' => a' = A) l a → A.tmps[d]? = a.tmps[d]?
  | [], a, _, h => by
    have h : a = A := h
    rw [h]
  | o :: l, a, hd, h => by
    simp only [List.all_cons, Bool.and_eq_true, bne_iff_ne, ne_eq] at hd
    have keep : ∀ v, (a.put o.dst v).tmps[d]? = a.tmps[d]? := fun v => by
      cases ho : o.dst with
      | none => rfl
      | some e =>
        have hne : e ≠ d := fun he => hd.1 (by rw [ho, he])
        simp [Act.put, Array.getElem?_setIfInBounds_ne hne]
    unfold wpQuiet at h
    split at h
    · obtain ⟨v, _, h2⟩ := h
      rw [quiet_keeps l _ hd.2 h2, keep]
    · rw [quiet_keeps l _ hd.2 h, keep]
theorem still_vals {W : World} {A : Act} {o : Oper} {l : List Oper} {a : Act} (hb : dstsB (o :: l) = true) (hz : ∀ d, o.dst = some d → d < a.tmps.size) (h : ∀ u : XW W, wpQuiet P ops (fun w' => w' = u.w) (fun a' => a' = A) (o :: l) a) :
    ∃ v, StillIn P ops (Ext W) o v a ∧ ∀ u : XW W, wpQuiet P ops (fun w' => w' = u.w) (fun a' => a' = A) l (a.put o.dst v) := by
  simp only [dstsB, Bool.and_eq_true] at hb
  obtain ⟨⟨hg, hd⟩, _⟩ := hb
  cases ho : o.dst with
  | none => rw [ho] at hd; cases hd
  | some d =>
    rw [ho] at hd
    have hw : Region.wanted o (yielded ops a.tmps) = true := by
      unfold Region.wanted
      cases hgo : o.guard with
      | none => rfl
      | some g => rw [hgo] at hg; cases hg
    have each : ∀ u : XW W, ∃ v, o.quietAt P a (fun w' => w' = u.w) u.w v ∧ A.tmps[d]? = some v ∧ wpQuiet P ops (fun w' => w' = u.w) (fun a' => a' = A) l (a.put (some d) v) := fun u => by
      have h1 := h u
      unfold wpQuiet at h1
      rw [if_pos hw] at h1
      obtain ⟨v, h2, h3⟩ := h1
      rw [ho] at h3
      refine ⟨v, h2 _ rfl, ?_, h3⟩
      rw [quiet_keeps l _ hd h3]
      simp [Act.put, hz d ho]
    obtain ⟨v, _, hv, _⟩ := each ⟨W, Ext.refl W⟩
    refine ⟨v, ⟨hw, fun w' e => ?_⟩, fun u => ?_⟩
    · obtain ⟨v', h1, h2, _⟩ := each ⟨w', e⟩
      rw [hv] at h2
      rw [Option.some.inj h2]
      exact h1
    · obtain ⟨v', _, h2, h3⟩ := each u
      rw [hv] at h2
      rw [Option.some.inj h2]
      exact h3
end
end Go.Proofs.YtlnjeklmkjgidaaDoor

namespace Go.Proofs.YtlnjeklmkjgidaaDoor
open Go Go.RowKit

section
variable {P : Program} {ops : Array Oper} {md : Region.Mode} {C : World → Prop} {R : Act → World → Prop}
def stillKs (md : Region.Mode) (ops : Array Oper) : List Nat → Array Bool → Bool
  | [], _ => true
  | k :: ks, L => (Region.ready md ops L).contains k && Region.free md ops L k && stillKs md ops ks (L.setIfInBounds k true)
def setAll : List Nat → Array Bool → Array Bool
  | [], L => L
  | k :: ks, L => setAll ks (L.setIfInBounds k true)
def sizesB (a : Act) (l : List Oper) : Bool := l.all fun o => match o.dst with | some d => decide (d < a.tmps.size) | none => true
theorem any_stills_go {W : World} {A : Act} {g : Nat} (hs : Region.noSelect ops = true) : ∀ (ks : List Nat) (l : List Oper) (L : Array Bool) (a : Act) (w : World), l.map some = ks.map (fun k => ops[k]?) → dstsB l = true → sizesB a l = true →
    stillKs md ops ks L = true → Ext W w → (∀ u : XW W, wpQuiet P ops (fun w' => w' = u.w) (fun a' => a' = A) l a) → wpAnyC P md ops (Ext W) R g (setAll ks L) A w → wpAnyC P md ops (Ext W) R (l.length + g) L a w
  | [], [], L, a, w, _, _, _, _, _, h, H => by
    have e : a = A := h ⟨W, Ext.refl W⟩
    subst e
    rw [List.length_nil, Nat.zero_add]
    exact H
  | k :: ks, o :: l, L, a, w, hl, hd, hz, hB, hw, h, H => by
    simp only [List.map_cons, List.cons.injEq] at hl
    have h0 : ops[k]? = some o := hl.1.symm
    simp only [stillKs, Bool.and_eq_true] at hB
    obtain ⟨⟨hr, hf⟩, hB'⟩ := hB
    have hzo := hz
    simp only [sizesB, List.all_cons, Bool.and_eq_true] at hzo
    obtain ⟨v, hy, hn⟩ := still_vals hd (fun d he => by have := hzo.1; rw [he] at this; simpa using this) h
    have hd' : dstsB l = true := by simp only [dstsB, Bool.and_eq_true] at hd; exact hd.2
    have hsz : (a.put o.dst v).tmps.size = a.tmps.size := by cases o.dst <;> simp [Act.put]
    rw [show (o :: l).length + g = (l.length + g) + 1 by simp only [List.length_cons]; omega]
    exact wpAnyC_first h0 (Region.noSelect_spec hs) _ L a w (Region.free_spec h0 hf) (by simpa using hr) hw hy
      (any_stills_go hs ks l _ _ w hl.2 hd' (by unfold sizesB; rw [hsz]; exact hzo.2) hB' hw hn H)
  | [], _ :: _, _, _, _, hl, _, _, _, _, _, _ => by simp at hl
  | _ :: _, [], _, _, _, hl, _, _, _, _, _, _ => by simp at hl
def Picks (ops : Array Oper) : List Nat → List Oper → Prop
  | [], [] => True
  | k :: ks, o :: l => ops[k]? = some o ∧ Picks ops ks l
  | _, _ => False
theorem picks_map : ∀ {ks : List Nat} {l : List Oper}, Picks ops ks l → l.map some = ks.map (fun k => ops[k]?)
  | [], [], _ => rfl
  | k :: ks, o :: l, h => by rw [List.map_cons, List.map_cons, h.1, picks_map h.2]
  | [], _ :: _, h => h.elim
  | _ :: _, [], h => h.elim
theorem any_stills {W : World} {g f : Nat} {L : Array Bool} {a : Act} {w : World} (ks : List Nat) (l : List Oper) (hl : Picks ops ks l) (hB : (Region.noSelect ops && dstsB l && stillKs md ops ks L && decide (f = l.length + g)) = true) (hz : sizesB a l = true) (hw : Ext W w)
    (h : ∃ A, (∀ u : XW W, wpQuiet P ops (fun w' => w' = u.w) (fun a' => a' = A) l a) ∧ wpAnyC P md ops (Ext W) R g (setAll ks L) A w) : wpAnyC P md ops (Ext W) R f L a w := by
  obtain ⟨A, h1, h2⟩ := h
  simp only [Bool.and_eq_true, decide_eq_true_eq] at hB
  obtain ⟨⟨⟨hs, hd⟩, hk⟩, rfl⟩ := hB
  exact any_stills_go hs ks l L a w (picks_map hl) hd hz hk hw h1 h2
theorem any_one {f : Nat} {L : Array Bool} {a : Act} {w : World} {o : Oper} (k : Nat) (ho : ops[k]? = some o) (hB : decide (Region.ready md ops L = [k]) = true)
    (h : wpList P ops (onQ fun a' w' => C w' ∧ wpAnyC P md ops C R f (L.setIfInBounds k true) a' w') [o] a w) : wpAnyC P md ops C R (f + 1) L a w := by
  have hB := of_decide_eq_true hB
  refine ⟨fun h => (by rw [hB] at h; cases h), fun j hj => ?_⟩
  rw [hB, List.mem_singleton] at hj
  subst hj
  exact wpOp_onQ (wpOp_of_list1 ho h)
theorem any_done {L : Array Bool} {a : Act} {w : World} (hB : decide (Region.ready md ops L = []) = true) (h : R a w) : wpAnyC P md ops C R 0 L a w := ⟨of_decide_eq_true hB, h⟩
end
end Go.Proofs.YtlnjeklmkjgidaaDoor

namespace Go.Proofs.YtlnjeklmkjgidaaDoor
open Go Go.RowKit
attribute [local go_sem] gv_yes

theorem checks_none {c : Cal} {f : Nat → Dt} : c.checks f 0 = c.chk := by simp [Cal.checks, Cal.chk]
theorem rows_none (w : World) (n : Nat) (g : Nat → List Value) : RowsAt w none 0 n g := fun h => absurd h (by omega)
end Go.Proofs.YtlnjeklmkjgidaaDoor

namespace Go.Proofs.YtlnjeklmkjgidaaDoor
open Go Go.RowKit
attribute [local go_sem] gv_yes

end Go.Proofs.YtlnjeklmkjgidaaDoor

namespace Go.Proofs.YtlnjeklmkjgidaaDoor

theorem dayAt_mono (c : Cal) {i j : Nat} (h : i ≤ j) : c.dayAt i ≤ c.dayAt j := by
  induction j with
  | zero => obtain rfl : i = 0 := by omega
            exact Int.le_refl _
  | succ j ih =>
    rcases Nat.lt_or_ge j i with h' | h'
    · obtain rfl : i = j + 1 := by omega
      exact Int.le_refl _
    · have := ih h'
      have := days_bd (c.yr j)
      rw [Cal.dayAt]; omega
theorem runs_end (c : Cal) (i : Nat) : ∀ (l : List (Int × Bool)) (d : Int) (x : It), x ∈ runs i (c.yr i) d l → x.y = i ∧ d ≤ x.first ∧ x.first + x.len c ≤ d + (c.yr i).lens l
  | [], d, x, hx => by cases hx
  | p :: l, d, x, hx => by
    have h0 := lens_29 (c.yr i) l
    have h1 := len_29 (c.yr i) p.1 p.2
    rw [runs] at hx
    rw [Yr.lens]
    rcases List.mem_cons.1 hx with rfl | hx
    · refine ⟨rfl, Int.le_refl _, ?_⟩
      show d + (c.yr i).len p.1 p.2 ≤ _
      omega
    · have := runs_end c i l _ x hx
      omega
theorem itemsTo_end (c : Cal) : ∀ (k : Nat) (x : It), x ∈ c.itemsTo k → x.y < k ∧ c.dayAt x.y ≤ x.first ∧ x.first + x.len c ≤ c.dayAt (x.y + 1)
  | 0, x, hx => by cases hx
  | k + 1, x, hx => by
    rw [Cal.itemsTo, List.mem_append] at hx
    rcases hx with hx | hx
    · have := itemsTo_end c k x hx; omega
    · have h := runs_end c k _ _ x hx
      refine ⟨by omega, by rw [h.1]; exact h.2.1, by rw [h.1]; exact h.2.2⟩
theorem items_end {c : Cal} {x : It} (hx : x ∈ c.items) : 1 ≤ x.first ∧ x.first + x.len c ≤ c.dayAt c.ny := by
  have h := itemsTo_end c c.ny x hx
  have h1 := dayAt_mono c (i := 0) (j := x.y) (by omega)
  have h2 := dayAt_mono c (i := x.y + 1) (j := c.ny) (by omega)
  have h3 : c.dayAt 0 = 1 := rfl
  omega
theorem atFrom_some {c : Cal} {n : Int} {o : Dt} : ∀ {l : List It}, c.atFrom n l = some o → ∃ x, x ∈ l ∧ x.first ≤ n ∧ n - x.first < x.len c ∧ o = ⟨x.y, x.n, x.s, n - x.first + 1⟩
  | x :: l, h => by
    rw [Cal.atFrom] at h
    split at h
    · rename_i hx
      exact ⟨x, List.mem_cons_self .., hx.1, hx.2, by simpa using h.symm⟩
    · obtain ⟨y, hy, h1⟩ := atFrom_some h
      exact ⟨y, List.mem_cons_of_mem _ hy, h1⟩
theorem at_out {c : Cal} {n : Int} (h : n < 1 ∨ c.dayAt c.ny ≤ n) : c.at? n = none := by
  cases ho : c.at? n with
  | none => rfl
  | some o =>
    obtain ⟨x, hx, h1, h2, _⟩ := atFrom_some ho
    have := items_end hx
    omega
end Go.Proofs.YtlnjeklmkjgidaaDoor

namespace Go.Proofs.YtlnjeklmkjgidaaDoor

def It.before (x y : It) : Prop := x.y < y.y ∨ (x.y = y.y ∧ (x.n < y.n ∨ (x.n = y.n ∧ x.s = false ∧ y.s = true)))
def Cal.ord (c : Cal) (x y : It) : Prop := x.first + x.len c ≤ y.first ∧ x.before y
def pb (p q : Int × Bool) : Prop := p.1 < q.1 ∨ (p.1 = q.1 ∧ p.2 = false ∧ q.2 = true)
theorem moTo_mem (y : Yr) : ∀ (k : Nat) (p : Int × Bool), p ∈ y.moTo k → 1 ≤ p.1 ∧ p.1 ≤ (k : Int) ∧ (p.2 = true → y.db = p.1)
  | 0, _, h => by cases h
  | k + 1, p, h => by
    rw [moTo_succ, List.mem_append, List.mem_cons] at h
    rcases h with h | rfl | h
    · have := moTo_mem y k p h
      exact ⟨this.1, by omega, this.2.2⟩
    · exact ⟨by simp only; omega, by simp only; omega, fun h => by cases h⟩
    · by_cases hd : y.db = (k : Int) + 1
      · rw [if_pos hd, List.mem_singleton] at h
        subst h
        exact ⟨by simp only; omega, by simp only; omega, fun _ => hd⟩
      · rw [if_neg hd] at h; cases h
theorem moTo_has (y : Yr) : ∀ (k : Nat) (n : Int), 1 ≤ n → n ≤ (k : Int) → (n, false) ∈ y.moTo k ∧ (y.db = n → (n, true) ∈ y.moTo k)
  | 0, n, h1, h2 => by omega
  | k + 1, n, h1, h2 => by
    rw [moTo_succ]
    by_cases hn : n = (k : Int) + 1
    · subst hn
      refine ⟨by simp, fun hd => ?_⟩
      rw [if_pos hd]; simp
    · have := moTo_has y k n h1 (by omega)
      exact ⟨List.mem_append_left _ this.1, fun hd => List.mem_append_left _ (this.2 hd)⟩
theorem moTo_pw (y : Yr) : ∀ k : Nat, (y.moTo k).Pairwise pb
  | 0 => by simp [Yr.moTo]
  | k + 1 => by
    rw [moTo_succ, List.pairwise_append]
    refine ⟨moTo_pw y k, ?_, fun p hp q hq => ?_⟩
    · by_cases hd : y.db = (k : Int) + 1
      · rw [if_pos hd]; simp [pb]
      · rw [if_neg hd]; simp
    · have h1 := (moTo_mem y k p hp).2.1
      rw [List.mem_cons] at hq
      rcases hq with rfl | hq
      · exact .inl (by simp only; omega)
      · by_cases hd : y.db = (k : Int) + 1
        · rw [if_pos hd, List.mem_singleton] at hq
          subst hq
          exact .inl (by simp only; omega)
        · rw [if_neg hd] at hq; cases hq
theorem runs_mem (i : Nat) (y : Yr) : ∀ (l : List (Int × Bool)) (d : Int) (x : It), x ∈ runs i y d l → (x.n, x.s) ∈ l
  | [], _, _, h => by cases h
  | p :: l, d, x, h => by
    rw [runs] at h
    rcases List.mem_cons.1 h with rfl | h
    · exact List.mem_cons_self ..
    · exact List.mem_cons_of_mem _ (runs_mem i y l _ x h)
theorem runs_has (i : Nat) (y : Yr) : ∀ (l : List (Int × Bool)) (d : Int) (p : Int × Bool), p ∈ l → ∃ x, x ∈ runs i y d l ∧ x.y = i ∧ x.n = p.1 ∧ x.s = p.2
  | q :: l, d, p, h => by
    rw [runs]
    rcases List.mem_cons.1 h with rfl | h
    · exact ⟨_, List.mem_cons_self .., rfl, rfl, rfl⟩
    · obtain ⟨x, hx, h1⟩ := runs_has i y l (d + y.len q.1 q.2) p h
      exact ⟨x, List.mem_cons_of_mem _ hx, h1⟩
theorem runs_pw (c : Cal) (i : Nat) : ∀ (l : List (Int × Bool)) (d : Int), l.Pairwise pb → (runs i (c.yr i) d l).Pairwise c.ord
  | [], _, _ => by simp [runs]
  | p :: l, d, h => by
    rw [List.pairwise_cons] at h
    rw [runs, List.pairwise_cons]
    refine ⟨fun x hx => ?_, runs_pw c i l _ h.2⟩
    have h1 := runs_end c i l _ x hx
    have h2 := h.1 _ (runs_mem i _ l _ x hx)
    refine ⟨h1.2.1, .inr ⟨h1.1.symm, ?_⟩⟩
    rcases h2 with h2 | h2
    · exact .inl h2
    · exact .inr h2
theorem itemsTo_pw (c : Cal) : ∀ k : Nat, (c.itemsTo k).Pairwise c.ord
  | 0 => by simp [Cal.itemsTo]
  | k + 1 => by
    rw [Cal.itemsTo, List.pairwise_append]
    refine ⟨itemsTo_pw c k, runs_pw c k _ _ (moTo_pw _ 12), fun x hx y hy => ?_⟩
    have h1 := itemsTo_end c k x hx
    have h2 := runs_end c k _ _ y hy
    have h3 := dayAt_mono c (i := x.y + 1) (j := k) (by omega)
    exact ⟨by omega, .inl (by omega)⟩
theorem items_lt {c : Cal} {i j : Nat} {x y : It} (hx : c.items[i]? = some x) (hy : c.items[j]? = some y) (h : i < j) : c.ord x y := by
  obtain ⟨h1, rfl⟩ := List.getElem?_eq_some_iff.1 hx
  obtain ⟨h2, rfl⟩ := List.getElem?_eq_some_iff.1 hy
  exact List.pairwise_iff_getElem.1 (itemsTo_pw c c.ny) i j h1 h2 h
theorem before_irr {x y : It} (h : x.before y) (h1 : x.y = y.y) (h2 : x.n = y.n) (h3 : x.s = y.s) : False := by
  rcases h with h | ⟨_, h | ⟨_, h4, h5⟩⟩
  · omega
  · omega
  · rw [h4, h5] at h3; cases h3
theorem items_key {c : Cal} {i j : Nat} {x y : It} (hx : c.items[i]? = some x) (hy : c.items[j]? = some y) (h1 : x.y = y.y) (h2 : x.n = y.n) (h3 : x.s = y.s) : i = j := by
  rcases Nat.lt_trichotomy i j with h | h | h
  · exact (before_irr (items_lt hx hy h).2 h1 h2 h3).elim
  · exact h
  · exact (before_irr (items_lt hy hx h).2 h1.symm h2.symm h3.symm).elim
theorem itemsTo_of (c : Cal) {i : Nat} {x : It} (hx : x ∈ runs i (c.yr i) (c.dayAt i) (c.yr i).mos) : ∀ k : Nat, i < k → x ∈ c.itemsTo k
  | k + 1, h => by
    rw [Cal.itemsTo, List.mem_append]
    by_cases hk : i = k
    · subst hk; exact .inr hx
    · exact .inl (itemsTo_of c hx k (by omega))
theorem itemsTo_db (c : Cal) : ∀ (k : Nat) (x : It), x ∈ c.itemsTo k → 1 ≤ x.n ∧ x.n ≤ 12 ∧ (x.s = true → (c.yr x.y).db = x.n)
  | 0, _, h => by cases h
  | k + 1, x, h => by
    rw [Cal.itemsTo, List.mem_append] at h
    rcases h with h | h
    · exact itemsTo_db c k x h
    · have h1 := (runs_end c k _ _ x h).1
      have h2 := moTo_mem (c.yr k) 12 _ (runs_mem k _ _ _ x h)
      rw [h1]
      exact h2
theorem of_iff {x : It} {d : Dt} : x.of d = true ↔ ((x.y : Int) = d.y ∧ x.n = d.m ∧ x.s = d.s) := by
  simp [It.of, and_assoc]
theorem has_iff {c : Cal} {d : Dt} : c.has d = true ↔ ((0 ≤ d.y ∧ d.y < c.ny) ∧ (1 ≤ d.m ∧ d.m ≤ 12) ∧ (d.s = true → (c.yrI d.y).db = d.m) ∧ (1 ≤ d.d ∧ d.d ≤ (c.yrI d.y).len d.m d.s)) := by
  simp only [Cal.has, Bool.and_eq_true, decide_eq_true_eq, Bool.or_eq_true, Bool.not_eq_true', and_assoc]
  cases d.s <;> simp
theorem numFrom_ix (d : Dt) : ∀ (l : List It) (k : Int), (∃ x, x ∈ l ∧ x.of d = true) → ∃ (i : Nat) (x : It), l[i]? = some x ∧ x.of d = true ∧ numFrom d l k = (x.first + d.d - 1, k + i + 1)
  | [], _, h => by obtain ⟨x, hx, _⟩ := h; cases hx
  | x :: l, k, h => by
    by_cases ho : x.of d = true
    · exact ⟨0, x, rfl, ho, by rw [numFrom, if_pos ho]; simp⟩
    · obtain ⟨z, hz, hzo⟩ := h
      have hz' : z ∈ l := by
        rcases List.mem_cons.1 hz with rfl | h1
        · exact absurd hzo ho
        · exact h1
      obtain ⟨i, y, hy, hyo, hn⟩ := numFrom_ix d l (k + 1) ⟨z, hz', hzo⟩
      exact ⟨i + 1, y, by simpa using hy, hyo, by rw [numFrom, if_neg ho, hn]; congr 1; omega⟩
theorem num_ix {c : Cal} {d : Dt} (h : c.has d = true) : ∃ (i : Nat) (x : It), c.items[i]? = some x ∧ ((x.y : Int) = d.y ∧ x.n = d.m ∧ x.s = d.s) ∧ c.num d = (x.first + d.d - 1, (i : Int) + 1) ∧ 1 ≤ d.d ∧ d.d ≤ x.len c := by
  obtain ⟨⟨h1, h2⟩, ⟨h3, h4⟩, h5, h6, h7⟩ := has_iff.1 h
  have hex : ∃ x, x ∈ c.items ∧ x.of d = true := by
    have hm : (d.m, d.s) ∈ (c.yr d.y.toNat).mos := by
      have := moTo_has (c.yr d.y.toNat) 12 d.m h3 (by omega)
      cases hs : d.s
      · exact this.1
      · exact this.2 (h5 hs)
    obtain ⟨x, hx, hy, hn, hs⟩ := runs_has d.y.toNat (c.yr d.y.toNat) _ (c.dayAt d.y.toNat) _ hm
    exact ⟨x, itemsTo_of c hx c.ny (by omega), of_iff.2 ⟨by omega, hn, hs⟩⟩
  obtain ⟨i, x, hx, ho, hn⟩ := numFrom_ix d c.items 0 hex
  have ho' := of_iff.1 ho
  refine ⟨i, x, hx, ho', by unfold Cal.num; rw [hn]; congr 1; omega, h6, ?_⟩
  have e : x.len c = (c.yrI d.y).len d.m d.s := by
    unfold It.len Cal.yrI
    rw [ho'.2.1, ho'.2.2, ← ho'.1]; rfl
  omega
/-! ### The date of a number -/
theorem atFrom_ix {c : Cal} {n : Int} {x : It} : ∀ {l : List It} {i : Nat}, l[i]? = some x → x.first ≤ n → n - x.first < x.len c → (∀ (j : Nat) (y : It), j < i → l[j]? = some y → ¬ (y.first ≤ n ∧ n - y.first < y.len c)) → c.atFrom n l = some ⟨x.y, x.n, x.s, n - x.first + 1⟩
  | y :: l, 0, h, h1, h2, _ => by
    obtain rfl : y = x := by simpa using h
    rw [Cal.atFrom, if_pos ⟨h1, h2⟩]
  | y :: l, i + 1, h, h1, h2, h3 => by
    rw [Cal.atFrom, if_neg (h3 0 y (by omega) rfl)]
    exact atFrom_ix (by simpa using h) h1 h2 (fun j z hj hz => h3 (j + 1) z (by omega) (by simpa using hz))
theorem at_num {c : Cal} {d : Dt} (h : c.has d = true) : c.at? (c.num d).1 = some d := by
  obtain ⟨i, x, hx, ⟨x1, x2, x3⟩, xn, xd, xl⟩ := num_ix h
  rw [xn]
  simp only
  unfold Cal.at?
  rw [atFrom_ix hx (by omega) (by omega) (fun j y hj hy hc => ?_)]
  · have e : x.first + d.d - 1 - x.first + 1 = d.d := by omega
    rw [e, x1, x2, x3]
  · have := (items_lt hy hx hj).1
    omega
theorem at_has {c : Cal} {n : Int} {d : Dt} (h : c.at? n = some d) : c.has d = true ∧ (c.num d).1 = n := by
  obtain ⟨x, hx, h1, h2, rfl⟩ := atFrom_some h
  have k1 := itemsTo_end c c.ny x hx
  have k2 := itemsTo_db c c.ny x hx
  have hh : c.has ⟨x.y, x.n, x.s, n - x.first + 1⟩ = true := has_iff.2 ⟨⟨by simp only; omega, by simp only; omega⟩, ⟨k2.1, k2.2.1⟩, k2.2.2, by simp only; omega, by
    have e : x.len c = (c.yrI (x.y : Int)).len x.n x.s := rfl
    simp only
    omega⟩
  refine ⟨hh, ?_⟩
  obtain ⟨i, y, hy, ⟨y1, y2, y3⟩, yn, _, _⟩ := num_ix hh
  obtain ⟨j, hj⟩ := List.mem_iff_getElem?.1 hx
  obtain rfl := items_key hy hj (by simp only at y1; omega) y2 y3
  obtain rfl : y = x := Option.some.inj (hy.symm.trans hj)
  rw [yn]
  simp only
  omega
theorem num_in {c : Cal} {d : Dt} (h : c.has d = true) : 1 ≤ (c.num d).1 ∧ (c.num d).1 < c.dayAt c.ny := by
  have h1 := at_num h
  rcases Decidable.em ((c.num d).1 < 1 ∨ c.dayAt c.ny ≤ (c.num d).1) with h2 | h2
  · rw [at_out h2] at h1; cases h1
  · omega
end Go.Proofs.YtlnjeklmkjgidaaDoor

namespace Go.Proofs.YtlnjeklmkjgidaaDoor
open Go Go.RowKit Go.Shelf
attribute [local go_sem] Oper.semAt_some gv_yes

theorem held_set4 {W : World} {b : Nat} {t : TypeId} {v0 v1 v2 v3 : Value} (h : Held W b t #[v0, v1, v2, v3]) (u0 u1 u2 u3 : Value) :
    Held ((((W.setCell ⟨b, 0, none⟩ u0).setCell ⟨b, 1, none⟩ u1).setCell ⟨b, 2, none⟩ u2).setCell ⟨b, 3, none⟩ u3) b t #[u0, u1, u2, u3] := by
  unfold Held at h ⊢
  simp [World.setCell, Array.getElem?_modify, h]
theorem four_one {W : World} {b b' : Nat} {t t' : TypeId} {v0 v1 v2 v3 v' : Value} (h : Held W b t #[v0, v1, v2, v3]) (h' : Boxed W b' t' v') (hne : b ≠ b') (u0 u1 u2 u3 u' : Value) :
    Held (((((W.setCell ⟨b, 0, none⟩ u0).setCell ⟨b, 1, none⟩ u1).setCell ⟨b, 2, none⟩ u2).setCell ⟨b, 3, none⟩ u3).setCell ⟨b', 0, none⟩ u') b t #[u0, u1, u2, u3] ∧
    Boxed (((((W.setCell ⟨b, 0, none⟩ u0).setCell ⟨b, 1, none⟩ u1).setCell ⟨b, 2, none⟩ u2).setCell ⟨b, 3, none⟩ u3).setCell ⟨b', 0, none⟩ u') b' t' u' ∧
    KeepsOthers W (((((W.setCell ⟨b, 0, none⟩ u0).setCell ⟨b, 1, none⟩ u1).setCell ⟨b, 2, none⟩ u2).setCell ⟨b, 3, none⟩ u3).setCell ⟨b', 0, none⟩ u') ∧
    ∀ wd, Ext wd W → wd.heap.size ≤ b → wd.heap.size ≤ b' → Ext wd (((((W.setCell ⟨b, 0, none⟩ u0).setCell ⟨b, 1, none⟩ u1).setCell ⟨b, 2, none⟩ u2).setCell ⟨b, 3, none⟩ u3).setCell ⟨b', 0, none⟩ u') := by
  refine ⟨(held_set4 h u0 u1 u2 u3).other hne u', ?_, ((((KeepsOthers.setCell _ _ _).trans (KeepsOthers.setCell _ _ _)).trans (KeepsOthers.setCell _ _ _)).trans (KeepsOthers.setCell _ _ _)).trans (KeepsOthers.setCell _ _ _), fun wd e h1 h2 => ((((e.setCell h1 _).setCell h1 _).setCell h1 _).setCell h1 _).setCell h2 _⟩
  have h2 : Boxed ((((W.setCell ⟨b, 0, none⟩ u0).setCell ⟨b, 1, none⟩ u1).setCell ⟨b, 2, none⟩ u2).setCell ⟨b, 3, none⟩ u3) b' t' v' := by
    unfold Boxed at h' ⊢
    rw [← h']
    simp [World.setCell, Array.getElem?_modify, hne]
  exact h2.set u'
def NotDay (c : Cal) (n : Int) (l : List It) : Prop := ∀ x, x ∈ l → ¬ (x.first ≤ n ∧ n - x.first < x.len c)
theorem atFrom_none {c : Cal} {n : Int} : ∀ {l : List It}, NotDay c n l → c.atFrom n l = none
  | [], _ => rfl
  | x :: l, h => by rw [Cal.atFrom, if_neg (h x (List.mem_cons_self ..))]; exact atFrom_none (fun y hy => h y (List.mem_cons_of_mem _ hy))
theorem atFrom_here {c : Cal} {n : Int} {x : It} (hx : x.first ≤ n ∧ n - x.first < x.len c) : ∀ (pre l : List It), NotDay c n pre → c.atFrom n (pre ++ x :: l) = some ⟨x.y, x.n, x.s, n - x.first + 1⟩
  | [], l, _ => by simp [Cal.atFrom, hx]
  | y :: pre, l, h => by rw [List.cons_append, Cal.atFrom, if_neg (h y (List.mem_cons_self ..)), atFrom_here hx pre l (fun z hz => h z (List.mem_cons_of_mem _ hz))]
theorem at_none {c : Cal} {n : Int} (h : NotDay c n c.items) : c.at? n = none := atFrom_none h
theorem at_here {c : Cal} {n : Int} {pre : List It} {x : It} (hN : NotDay c n pre) (hx : x.first ≤ n ∧ n - x.first < x.len c) (hp : pre ++ [x] <+: c.items) : c.at? n = some ⟨x.y, x.n, x.s, n - x.first + 1⟩ := by
  obtain ⟨t, ht⟩ := hp
  rw [Cal.at?, ← ht, List.append_assoc, List.singleton_append, atFrom_here hx pre t hN]
theorem notDay_snoc {c : Cal} {n : Int} {l : List It} {x : It} (h : NotDay c n l) (hx : ¬ (x.first ≤ n ∧ n - x.first < x.len c)) : NotDay c n (l ++ [x]) := fun y hy => by
  rcases List.mem_append.1 hy with hy | hy
  · exact h y hy
  · rw [List.mem_singleton.1 hy]; exact hx
def Dt.val (d : Dt) : Value := .agg #[.int .i64 d.y, .int .i64 d.m, .bool d.s, .int .i64 d.d]
def atOk (o : Option Dt) : Int := if o.isSome then 0 else 8

def atW (A A' : Option Addr) (ca cb : Nat) (c : Cal) (n : Int) (w : World) : World := (w.alloc (.cells #[.slice A c.nk ca, .slice A' c.ny cb] 25)).alloc (.cells #[.int .i64 n] 3)
set_option maxRecDepth 100000 in
set_option maxHeartbeats 4000000 in
theorem at_any (A A' : Option Addr) (ca cb : Nat) (c : Cal) (n : Int) (w : World) (hC : CalAt w A ca A' cb c) (hlg : ∀ i, i < c.ny → 0 ≤ (c.yr i).lg ∧ (c.yr i).lg ≤ 8191) (hny : c.ny ≤ 400) (_hn1 : -9223372036854775808 ≤ n) (hn2 : n ≤ 9223372036854775807) :
    Calls Tryd.prog 49 #[.agg #[.slice A c.nk ca, .slice A' c.ny cb], .int .i64 n] w fun e w' => e = .returned (.tuple #[((c.at? n).getD zeroDt).val, .int .i64 (atOk (c.at? n))]) ∧ Ext w w' := by
  refine callsIn_wide.1 (callsIn_of_wp_marks (F := Fence.wide) (n := 9) Tryd.func49 rfl trivial (wpIn_wide.2 ?_) rfl)
  simp only [Tryd.ntmps49, List.size_toArray, List.length_cons, List.length_nil, Nat.reduceAdd, Nat.reduceSub, Array.replicate_succ, Array.replicate_zero, List.push_toArray, List.append_toArray, List.nil_append, List.cons_append]
  go_wp2_with (go_at_call 88; refine (months_any _ _ _ _ c _).mono ?_; rintro e w' ⟨rfl, rfl⟩)
  obtain ⟨wd, hwd⟩ : ∃ wd, wd = atW A A' ca cb c n w := ⟨_, rfl⟩
  have hEd : Ext w wd := by rw [hwd]; unfold atW; exact (by repeat (first | exact Ext.refl _ | (refine Ext.alloc ?_ _) | (refine Ext.trans ?_ (by assumption))))
  have hsd : wd.heap.size = w.heap.size + 1 + 1 := by rw [hwd]; simp [atW]
  have hdb : Held wd (w.heap.size + 1) 3 #[.int .i64 n] := by rw [hwd]; unfold atW; exact (by repeat (first | (refine Held.at _ _ _ _ ?_; (simp; done)) | refine Held.alloc ?_ _))
  have hcb : Held wd w.heap.size 25 #[.slice A c.nk ca, .slice A' c.ny cb] := by rw [hwd]; unfold atW; exact (by repeat (first | (refine Held.at _ _ _ _ ?_; (simp; done)) | refine Held.alloc ?_ _))
  generalize hW5 : World.alloc _ _ = W5
  have hE5 : Ext wd W5 := by rw [← hW5, hwd]; unfold atW; exact (by repeat (first | exact Ext.refl _ | (refine Ext.alloc ?_ _) | (refine Ext.trans ?_ (by assumption))))
  have hs5 : W5.heap.size = w.heap.size + 1 + 1 + 1 + 1 + 1 := by rw [← hW5]; simp
  have b4 : Held W5 (w.heap.size + 1 + 1) 29 #[.int .i64 0, .int .i64 0, .bool false, .int .i64 0] := by rw [← hW5]; exact (by repeat (first | (refine Held.at _ _ _ _ ?_; (simp; done)) | refine Held.alloc ?_ _))
  have b5 : Boxed W5 (w.heap.size + 1 + 1 + 1) 30 (.int .i64 0) := by rw [← hW5]; exact Held.boxed (by repeat (first | (refine Held.at _ _ _ _ ?_; (simp; done)) | refine Held.alloc ?_ _))
  have hB : W5.cell? ⟨w.heap.size + 1 + 1 + 1 + 1, 1, none⟩ = some (.slice A' c.ny cb) := by rw [← hW5]; exact (Held.cell (t := 25) (cs := #[.slice A c.nk ca, .slice A' c.ny cb]) (by repeat (first | (refine Held.at _ _ _ _ ?_; (simp; done)) | refine Held.alloc ?_ _)) 1)
  clear hW5 hwd
  generalize hs : w.heap.size = s at *
  refine loop_months (A := A) (A' := A') (ca := ca) (cb := cb) (c := c) (B := s + 1 + 1 + 1 + 1) wd W5 rfl rfl (hC.ext hEd) hlg hny hE5 hB (by omega)
    (fun pre W => Ext wd W ∧ Held W (s + 1 + 1) 29 #[.int .i64 0, .int .i64 0, .bool false, .int .i64 0] ∧ Boxed W (s + 1 + 1 + 1) 30 (.int .i64 0) ∧ NotDay c n (Mo.its pre))
    (fun c' pre W => Ext wd W ∧ ∃ p : List (Mo c) × Mo c, Held W (s + 1 + 1) 29 #[.int .i64 (p.2.1.y : Int), .int .i64 p.2.1.n, .bool p.2.1.s, .int .i64 (n - p.2.1.first + 1)] ∧ Boxed W (s + 1 + 1 + 1) 30 (.int .i64 0) ∧
      c' = .ret ∧ pre = p.1 ++ [p.2] ∧ NotDay c n (Mo.its p.1) ∧ p.2.1.first ≤ n ∧ n - p.2.1.first < p.2.1.len c)
    (OwnFrom.and (ownFrom_ext (by omega)) (OwnFrom.and (ownFrom_held _ _ _ _) (OwnFrom.and (ownFrom_box _ _ _ _) (ownFrom_pure _ _))))
    (fun c' => OwnFrom.and (ownFrom_ext (by omega)) (ownFrom_ex fun p => OwnFrom.and (ownFrom_held _ _ _ _) (OwnFrom.and (ownFrom_box _ _ _ _) (ownFrom_pure _ _))))
    ⟨hE5, b4, b5, fun _ h => (by cases h)⟩
    (AxM (s + 1 + 1 + 1 + 1) (fun y Bx => #[.agg #[.slice A c.nk ca, .slice A' c.ny cb], .int .i64 n, .pointer (some ⟨s, 0, none⟩), .pointer (some ⟨s + 1, 0, none⟩), .pointer (some ⟨s + 1 + 1, 0, none⟩), .pointer (some ⟨s + 1 + 1 + 1, 0, none⟩), .pointer (some ⟨Bx, 0, none⟩), .int .i64 y.first,
      .agg #[.slice A c.nk ca, .slice A' c.ny cb], .func (.func 118) #[] #[.pointer (some ⟨s + 1 + 1 + 1 + 1, 0, none⟩)], .agg #[.int .i64 (y.y : Int), .int .i64 y.n, .bool y.s], .int .i64 y.first, undef, undef, undef, undef, undef, undef, undef, undef, undef, undef, undef, undef, undef, undef, undef, undef, undef, undef, undef, undef, undef, undef, undef, undef])) axM_own ?assign ?body ?done ?stop
  case assign =>
    intro l pre x W K hi hK
    simp only [Mo.enc]
    gi_wp2
    exact hK _ _ (keepsFrom_ext ((Ext.refl W).alloc _)) (KpY.of_ext ((Ext.refl W).alloc _) hi.1.size) ⟨hi.1.alloc _, hi.2.1.alloc _, hi.2.2.1.alloc _, hi.2.2.2⟩ ⟨W.heap.size, hi.2.2.1.lt, Held.new _ _ _, rfl⟩
  case body =>
    rintro l pre x a' W hl ⟨hE, b4, b5, hN⟩ ⟨Bx, hBx, hm, rfl⟩ hlt
    have hxok := x.2
    have hx1 := hxok.f1
    have hx2 := hxok.f2
    have hxy := hxok.y
    have hxn := hxok.n1
    have hxn2 := hxok.n12
    have hCW := (hC.ext hEd).ext hE
    have hlx := hlg _ hxy
    clear hxok
    have hdW := hdb.ext hE
    have hcW := hcb.ext hE
    obtain ⟨m0, m1, m2⟩ := hm.c3
    have e0 := hdW.c1
    obtain ⟨k0, k1⟩ := hcW.c2
    have hl1 := hm.lt
    have hl2 := hdW.lt
    have hl3 := hcW.lt
    have HL : Hid (x.1.len c = (c.yr x.1.y).len x.1.n x.1.s) := rfl
    by_cases hg : x.1.first ≤ n
    · have hgd : decide (x.1.first ≤ n) = true := decide_eq_true hg
      have hsub : IntKind.i64.wrap (n - x.1.first) = n - x.1.first := by rw [IntKind.wrap_i64]; omega
      gi_upto_region 4 with (fail)
      refine wpIn_region_xw W mixed (by kernel_rfl) (by kernel_rfl) (by repeat (first | exact Ext.refl _ | (refine Ext.alloc ?_ _) | (refine Ext.trans ?_ (by assumption)))) ?_
      intro hne hrx hry
      try simp only []
      try simp only [List.append_eq, List.cons_append, List.nil_append]
      skip
      repeat (first
        | go_big_quiet_skip
        | (go_big_quiet_want; go_big_quiet_op; go_big_quiet_on)
        | (go_big_quiet_want; go_big_quiet_op; apply Exists.intro; refine ⟨fun u => ?_, ?_⟩
           · first
               | (go_at_call 89; refine (of_any _ _ _ _ c x.1.y _ _ _ (hCW.ext (Ext.trans (by repeat (first | exact Ext.refl _ | (refine Ext.alloc ?_ _) | (refine Ext.trans ?_ (by assumption)))) u.e)) hxy hxn hxn2 hlx.1 hlx.2).mono ?_; rintro e w' ⟨rfl, hb⟩; exact ⟨rfl, u.back hb⟩)
           go_big_quiet_on))
      clear hne hry hrx
      refine wpQuiet_nil ?_
      intro wq hq
      obtain ⟨hcwq, hfwq, hzwq⟩ := Ext.rules hq
      try simp only [World.size_alloc] at hzwq
      obtain ⟨hcbwq, hfbwq, hzbwq⟩ := Ext.rules (show Ext W wq from (by repeat (first | exact Ext.refl _ | (refine Ext.alloc ?_ _) | (refine Ext.trans ?_ (by assumption)))))
      clear hcwq hfwq
      by_cases hd : n - x.1.first < (c.yr x.1.y).len x.1.n x.1.s
      · rw [decide_eq_true hd]
        clear m0 m1 m2 e0 k0 k1
        obtain ⟨m0, m1, m2⟩ := (hm.ext hq).c3
        have e0 := (hdW.ext hq).c1
        have hl1 := (hm.ext hq).lt
        have hl2 := (hdW.ext hq).lt
        have b4q := b4.ext hq
        have b5q := boxed_ext b5 hq
        obtain ⟨w0, w1, w2, w3⟩ := b4q.c4
        have f0 := b4q.frozen 0
        have f1 := b4q.frozen 1
        have f2 := b4q.frozen 2
        have f3 := b4q.frozen 3
        have w5 := b5q.cell
        have f5 := b5q.frozen
        clear hcbwq hfbwq
        obtain ⟨g4, g5, gK, gE⟩ := four_one b4q b5q (by omega) (.int .i64 (x.1.y : Int)) (.int .i64 x.1.n) (.bool x.1.s) (.int .i64 (n - x.1.first + 1)) (.int .i64 0)
        gi_wp2
        exact ⟨(keepsFrom_ext hq).trans (gK.from _), gE _ (hE.trans hq) (by omega) (by omega), (pre, x), g4, g5, rfl, rfl, hN, hg, by rw [HL.out]; exact hd⟩
      · rw [decide_eq_false hd]
        have HD := Lib.hid hd
        clear hd
        gi_wp2
        exact ⟨keepsFrom_ext hq, KpY.of_ext hq (by have := hE.size; omega), hE.trans hq, b4.ext hq, boxed_ext b5 hq, by rw [its_snoc]; exact notDay_snoc hN (fun h => by have h2 := h.2; rw [HL.out] at h2; have := HD.out; omega)⟩
    · have hgd : decide (x.1.first ≤ n) = false := decide_eq_false hg
      have HG := Lib.hid hg
      clear hg
      gi_upto_region 4 with (fail)
      refine wpIn_region_xw W mixed (by kernel_rfl) (by kernel_rfl) (by repeat (first | exact Ext.refl _ | (refine Ext.alloc ?_ _) | (refine Ext.trans ?_ (by assumption)))) ?_
      intro hne hrx hry
      try simp only []
      try simp only [List.append_eq, List.cons_append, List.nil_append]
      skip
      repeat (first
        | go_big_quiet_skip
        | (go_big_quiet_want; go_big_quiet_op; go_big_quiet_on))
      clear hne hry hrx
      refine wpQuiet_nil ?_
      intro wq hq
      obtain ⟨hcwq, hfwq, hzwq⟩ := Ext.rules hq
      try simp only [World.size_alloc] at hzwq
      obtain ⟨hcbwq, hfbwq, hzbwq⟩ := Ext.rules (show Ext W wq from (by repeat (first | exact Ext.refl _ | (refine Ext.alloc ?_ _) | (refine Ext.trans ?_ (by assumption)))))
      clear hcwq hfwq
      gi_wp2
      exact ⟨keepsFrom_ext hq, KpY.of_ext hq (by have := hE.size; omega), hE.trans hq, b4.ext hq, boxed_ext b5 hq, by rw [its_snoc]; exact notDay_snoc hN (fun h => by have := HG.out; have := h.1; omega)⟩
  case done =>
    rintro D xs W hD hxs ⟨hE, b4, b5, hN⟩ hK
    obtain ⟨w0, w1, w2, w3⟩ := b4.c4
    have f0 := b4.frozen 0
    have f1 := b4.frozen 1
    have f2 := b4.frozen 2
    have f3 := b4.frozen 3
    have w5 := b5.cell
    have f5 := b5.frozen
    rw [hxs] at hN
    have HN := Lib.hid (at_none hN)
    clear hN hxs
    obtain ⟨g4, g5, gK, gE⟩ := four_one b4 b5 (by omega) (.int .i64 0) (.int .i64 0) (.bool false) (.int .i64 0) (.int .i64 8)
    have hE2 := gE _ hE (by omega) (by omega)
    have hK2 := gK.same D _ hK rfl
    go_wp2
    clear w0 w1 w2 w3 f0 f1 f2 f3 w5 f5 gK gE b4 b5
    generalize World.setCell _ _ _ = W6 at *
    obtain ⟨c0, c1, c2, c3⟩ := (show Held (W6.putObj D (.deferred none)) _ _ _ from (grownBy_putObj' W6 D (.deferred none)).block _ g4.lt (fun e => by cases e; rw [show W6.heap[s + 1 + 1]? = _ from g4] at hK2; cases hK2) |>.trans g4).c4
    have c5 := (boxed_turned (o' := .deferred none) (show Boxed W6 _ _ _ from g5) hK2 rfl).cell
    refine ret_mark hK2 (v := .tuple #[zeroDt.val, .int .i64 8]) (by simp [results, Tryd.results49, go_sem, c0, c1, c2, c3, c5, Dt.val, zeroDt]) ⟨by rw [HN.out]; rfl, hEd.trans (hE2.putObj (by omega) _)⟩
  case stop =>
    rintro D c' pre W hD hpre ⟨hE, ⟨p, x⟩, b4, b5, rfl, rfl, hN, hg, hd⟩ hK
    rw [its_snoc] at hpre
    have HN := Lib.hid (at_here hN ⟨hg, hd⟩ hpre)
    clear hN hpre hg hd
    go_wp2
    obtain ⟨c0, c1, c2, c3⟩ := (show Held (W.putObj D (.deferred none)) _ _ _ from (grownBy_putObj' W D (.deferred none)).block _ b4.lt (fun e => by cases e; rw [show W.heap[s + 1 + 1]? = _ from b4] at hK; cases hK) |>.trans b4).c4
    have c5 := (boxed_turned (o' := .deferred none) b5 hK rfl).cell
    refine ret_mark hK (v := .tuple #[(Dt.mk x.1.y x.1.n x.1.s (n - x.1.first + 1)).val, .int .i64 0]) (by simp [results, Tryd.results49, go_sem, c0, c1, c2, c3, c5, Dt.val]) ⟨by rw [HN.out]; rfl, hEd.trans (hE.putObj (by omega) _)⟩
end Go.Proofs.YtlnjeklmkjgidaaDoor

namespace Go.Proofs.YtlnjeklmkjgidaaDoor
open Go Go.RowKit Go.Shelf
attribute [local go_sem] Oper.semAt_some gv_yes

theorem valid_ny {c : Cal} (h : c.valid = true) : c.ny ≤ 400 := by
  simp only [Cal.valid, Bool.and_eq_true, decide_eq_true_eq] at h
  exact h.1.2
end Go.Proofs.YtlnjeklmkjgidaaDoor

namespace Go.Proofs.YtlnjeklmkjgidaaDoor
open Go Go.RowKit Go.Shelf
attribute [local go_sem] Oper.semAt_some gv_yes

def spc (l : List Sp) : List Value := l.flatMap Sp.cells
theorem spc_append (l l' : List Sp) : spc (l ++ l') = spc l ++ spc l' := by simp [spc]
theorem spc_length : ∀ l : List Sp, (spc l).length = l.length * 2
  | [] => rfl
  | x :: l => by
    have := spc_length l
    show ((Sp.cells x) ++ spc l).length = _
    rw [List.length_append, this, List.length_cons]
    show 2 + _ = _
    omega
theorem spc_set (l : List Sp) (a b n : Int) : (spc (l ++ [⟨a, b⟩])).set (l.length * 2 + 1) (.int .i64 n) = spc (l ++ [⟨a, n⟩]) := by
  rw [spc_append, spc_append, List.set_append_right (h := by rw [spc_length]; omega), spc_length]
  congr 1
  rw [show l.length * 2 + 1 - l.length * 2 = 1 by omega]; rfl
theorem spc_last (l : List Sp) (a b : Int) : (spc (l ++ [⟨a, b⟩]))[l.length * 2 + 1]? = some (.int .i64 b) := by
  rw [spc_append, List.getElem?_append_right (by rw [spc_length]; omega), spc_length, show l.length * 2 + 1 - l.length * 2 = 1 by omega]; rfl
theorem Held.kept {W W' : World} {row : Option Nat} {b : Nat} {t : TypeId} {cs : Array Value} (h : Held W b t cs) (hg : W.grownBy W' row) (hne : some b ≠ row) : Held W' b t cs := (hg.block b h.lt hne).trans h
theorem Held.not_row {W : World} {b : Nat} {t e : TypeId} {cs : Array Value} (h : Held W b t cs) (hte : t ≠ e) {base size k : Nat} {v : Value} {xs : List Value} (hr : W.ownsRow base e size v k xs) : some b ≠ v.ownBlock := by
  rcases hr.2 with ⟨rfl, _⟩ | ⟨g, cap, cur, rfl, _, hgb, _⟩
  · simp [Value.ownBlock]
  · intro e'
    obtain rfl : b = g := by simpa [Value.ownBlock] using e'
    have := (show W.heap[b]? = _ from h).symm.trans hgb
    simp at this
    exact hte this.2
theorem row_type {W : World} {base size k : Nat} {e : TypeId} {v : Value} {xs : List Value} (hr : W.ownsRow base e size v k xs) : ∀ r, v.ownBlock = some r → base ≤ r ∧ ∃ cur, W.heap[r]? = some (.cells cur e (0, 0)) := by
  rcases hr.2 with ⟨rfl, _⟩ | ⟨g, cap, cur, rfl, hb, hgb, _⟩
  · intro r h; simp [Value.ownBlock] at h
  · intro r h
    obtain rfl : g = r := by simpa [Value.ownBlock] using h
    exact ⟨hb, cur, hgb⟩
theorem cells_new2 (w : World) (x y : Value) (t : TypeId) : ∀ j u, [x, y][j]? = some u → (w.alloc (.cells #[x, y] t)).cell? ((⟨w.heap.size, 0, none⟩ : Addr).add j) = some u := fun j u hj => by
  have h := Held.new w t #[x, y]
  match j, hj with
  | 0, hj => simp at hj; subst hj; exact h.cell 0
  | 1, hj => simp at hj; subst hj; exact h.cell 1

/-- What a step of the loop's body leaves: the box of out, its row; what lay is kept. -/
structure SpStep (wd W0 W : World) (B0 Bo Bx : Nat) (mcs : Array Value) (L : List Sp) (v : Value) : Prop where
  e : Ext wd W
  k : KpY wd.heap.size W0 W
  f : KeepsFrom B0 W0 W
  m : Held W Bx 169 mcs
  b : Boxed W Bo 41 v
  r : W.ownsRow wd.heap.size 47 2 v L.length (spc L)
namespace SpStep
variable {wd W0 W W' : World} {B0 Bo Bx : Nat} {mcs : Array Value} {L : List Sp} {v : Value}
theorem ext (h : SpStep wd W0 W B0 Bo Bx mcs L v) (e : Ext W W') : SpStep wd W0 W' B0 Bo Bx mcs L v :=
  ⟨h.e.trans e, h.k.trans (KpY.of_ext e h.e.size), h.f.trans (keepsFrom_ext e), h.m.ext e, boxed_ext h.b e, h.r.kept (grown_of_ext e) (by
    rcases h.r.2 with ⟨rfl, _⟩ | ⟨g, cap, cur, rfl, _⟩
    · exact .inl rfl
    · exact .inr (by simp [Value.ownBlock]))⟩
theorem toL {L2 : List Sp} (h : SpStep wd W0 W B0 Bo Bx mcs L v) (e : L2 = L) : SpStep wd W0 W B0 Bo Bx mcs L2 v := e ▸ h
/-- out[k].Last = n. -/
theorem stored {L' : List Sp} {a b : Int} {g cap : Nat} (h : SpStep wd W0 W B0 Bo Bx mcs (L' ++ [⟨a, b⟩]) (.slice (some ⟨g, 0, none⟩) (L'.length + 1) cap)) (n : Int) :
    SpStep wd W0 (W.setCell ⟨g, L'.length * 2 + 1, none⟩ (.int .i64 n)) B0 Bo Bx mcs (L' ++ [⟨a, n⟩]) (.slice (some ⟨g, 0, none⟩) (L'.length + 1) cap) := by
  have hr := h.r
  rw [List.length_append] at hr
  obtain ⟨h1, h2⟩ := World.ownsRow.stored hr (L'.length * 2 + 1) (.int .i64 n)
  obtain ⟨hg, cur, hc⟩ := row_type h.r g rfl
  rw [spc_set] at h1
  refine ⟨h.e.setCell (p := ⟨g, L'.length * 2 + 1, none⟩) hg _, h.k.trans (KpY.grown h2 h.e.size (fun r e => by cases e; exact ⟨hg, _, hc, fun cs f hh => by injection hh with _ ht; exact absurd ht (by decide)⟩)), h.f.trans ((KeepsOthers.setCell _ _ _).from _),
    h.m.kept h2 (h.m.not_row (by decide) h.r), h.b.kept h2 (h.b.not_row (by decide) h.r), by rw [List.length_append]; exact h1⟩
/-- out = append(out, Span{n, n}). -/
theorem appended {w1 : World} {v' : Value} {n : Int} (h : SpStep wd W0 W B0 Bo Bx mcs L v) (hB : wd.heap.size ≤ Bo) {o : Obj}
    (hown : w1.ownsRow wd.heap.size 47 2 v' (L.length + 1) (spc L ++ [.int .i64 n, .int .i64 n])) (hgrow : (W.alloc o).grownBy w1 v.ownBlock) :
    Boxed w1 Bo 41 v ∧ SpStep wd W0 (w1.setCell ⟨Bo, 0, none⟩ v') B0 Bo Bx mcs (L ++ [⟨n, n⟩]) v' := by
  obtain ⟨h1, h2, h3, h4, h5⟩ := h.b.appended (tmp := o) (by decide) h.r h.e.size hB hown hgrow
  have ha := (h.ext ((Ext.refl W).alloc o))
  have hrt := row_type ha.r
  refine ⟨h1, Below.trans h.e h5, h.k.trans ((KpY.of_ext ((Ext.refl W).alloc o) h.e.size).trans ((KpY.grown hgrow ha.e.size (fun r e => ?_)).trans (KpY.box h1 (by decide) hB _))), h.f.trans (h4.from _), ?_, h2, ?_⟩
  · obtain ⟨g1, cur, g2⟩ := hrt r e
    exact ⟨g1, _, g2, fun cs f hh => by injection hh with _ ht; exact absurd ht (by decide)⟩
  · have m1 := ha.m.kept hgrow (ha.m.not_row (by decide) ha.r)
    exact m1.other (fun e => by
      have e1 := (show w1.heap[Bx]? = _ from m1)
      rw [e, show w1.heap[Bo]? = _ from h1] at e1
      simp at e1) _
  · rw [List.length_append, spc_append]; exact h3
end SpStep

theorem addDay_nil (n : Int) : addDay [] n = [⟨n, n⟩] := rfl
theorem addDay_join (l : List Sp) (a b n : Int) (h : b = n - 1) : addDay (l ++ [⟨a, b⟩]) n = l ++ [⟨a, n⟩] := by simp [addDay, h]
theorem addDay_apart (l : List Sp) (a b n : Int) (h : b ≠ n - 1) : addDay (l ++ [⟨a, b⟩]) n = l ++ [⟨a, b⟩] ++ [⟨n, n⟩] := by simp [addDay, h]
theorem addDay_length (l : List Sp) (n : Int) : (addDay l n).length ≤ l.length + 1 := by
  rcases List.eq_nil_or_concat l with rfl | ⟨l', ⟨a, b⟩, rfl⟩
  · simp [addDay]
  · rw [List.concat_eq_append]
    by_cases h : b = n - 1
    · rw [addDay_join _ _ _ _ h]; simp
    · rw [addDay_apart _ _ _ _ h]; simp
theorem dayFold_length (t : Tr) (first : Int) (o : List Sp) : ∀ k : Nat, (t.dayFold first o k).length ≤ o.length + k
  | 0 => by simp [Tr.dayFold]
  | k + 1 => by
    have := dayFold_length t first o k
    rw [Tr.dayFold]
    split
    · have := addDay_length (t.dayFold first o k) (first + k); omega
    · omega
theorem itFold_length (c : Cal) (t : Tr) (o : List Sp) (x : It) : (c.itFold t o x).length ≤ o.length + 30 := by
  rw [Cal.itFold]
  split
  · have h := dayFold_length t x.first o (x.len c).toNat
    have h2 := len_29 (c.yr x.y) x.n x.s
    unfold It.len at *; omega
  · omega
def foldTo (c : Cal) (t : Tr) (l : List It) : List Sp := l.foldl (c.itFold t) []
theorem foldTo_snoc (c : Cal) (t : Tr) (l : List It) (x : It) : foldTo c t (l ++ [x]) = c.itFold t (foldTo c t l) x := by simp [foldTo]
theorem foldTo_length (c : Cal) (t : Tr) (l : List It) : (foldTo c t l).length ≤ 30 * l.length := by
  have h : ∀ (l : List It) (o : List Sp), (l.foldl (c.itFold t) o).length ≤ o.length + 30 * l.length := by
    intro l
    induction l with
    | nil => intro o; simp
    | cons x l ih => intro o; have := ih (c.itFold t o x); have := itFold_length c t o x; simp only [List.foldl_cons, List.length_cons]; omega
  have := h l []
  simpa [foldTo] using this
/-- A slice that reads as some spans. -/
def SpansAt (w : World) (v : Value) (l : List Sp) : Prop := ∃ A cap, v = .slice A l.length cap ∧ RowsAt w A l.length 2 (fun i => (l.getD i ⟨0, 0⟩).cells) ∧ l.length ≤ cap ∧ cap ≤ maxLen
theorem SpansAt.ext {w w' : World} {v : Value} {l : List Sp} (h : SpansAt w v l) (e : Ext w w') : SpansAt w' v l := by
  obtain ⟨A, cap, hv, hr, hc, hm⟩ := h
  exact ⟨A, cap, hv, hr.ext e, hc, hm⟩
theorem spc_get (l : List Sp) (i j : Nat) (v : Value) (hi : i < l.length) (hv : ((l.getD i ⟨0, 0⟩).cells)[j]? = some v) : (spc l)[i * 2 + j]? = some v := by
  have hj : j < 2 := by have := (List.getElem?_eq_some_iff.1 hv).1; exact this
  have e : l = l.take i ++ (l[i] :: l.drop (i + 1)) := by rw [List.getElem_cons_drop, List.take_append_drop]
  have hl : (spc (l.take i)).length = i * 2 := by rw [spc_length, List.length_take]; omega
  have hd : l.getD i ⟨0, 0⟩ = l[i] := by rw [List.getD_eq_getElem?_getD, List.getElem?_eq_getElem hi]; rfl
  rw [hd] at hv
  have hc : (l[i].cells).length = 2 := rfl
  rw [e, spc_append, List.getElem?_append_right (by rw [hl]; omega), hl, show i * 2 + j - i * 2 = j by omega]
  show ((l[i].cells) ++ spc (l.drop (i + 1)))[j]? = _
  rw [List.getElem?_append_left (by rw [hc]; exact hj), hv]
theorem spansAt_own {w : World} {base : Nat} {v : Value} {l : List Sp} (h : w.ownsRow base 47 2 v l.length (spc l)) : SpansAt w v l := by
  rcases h.2 with ⟨rfl, h0⟩ | ⟨g, cap, cur, rfl, hb, hg, hn, hm, _⟩
  · refine ⟨none, 0, by rw [h0], fun hp => by omega, by omega, by decide⟩
  · refine ⟨_, _, rfl, fun _ => ⟨g, 0, rfl, (Array.getElem?_eq_some_iff.1 hg).1, fun i j v hi hv => ?_⟩, hn, hm⟩
    have hj : j < 2 := by have := (List.getElem?_eq_some_iff.1 hv).1; exact this
    rw [Nat.zero_add, World.ownsRow.cellAt h (i * 2 + j) (by omega)]
    exact spc_get l i j v hi hv

def spW (A A' : Option Addr) (ca cb : Nat) (c : Cal) (t : Tr) (w : World) : World := (w.alloc (.cells #[.slice A c.nk ca, .slice A' c.ny cb] 25)).alloc (.cells #[.int .i64 t.d, .bool t.more, .int .i64 t.m, .bool t.s, .string t.nm, .int .i64 t.af, .string t.kg] 34)
theorem info_span : (Tryd.prog.info? 47).map (fun i => (i.zero, i.size, i.bytes)) = some (some (.agg #[.int .i64 0, .int .i64 0]), 2, 16) := by kernel_rfl
set_option maxRecDepth 100000 in
set_option maxHeartbeats 8000000 in
theorem spans_own (A A' : Option Addr) (ca cb : Nat) (c : Cal) (t : Tr) (w : World) (hC : CalAt w A ca A' cb c) (hlg : ∀ i, i < c.ny → 0 ≤ (c.yr i).lg ∧ (c.yr i).lg ≤ 8191) (hny : c.ny ≤ 400) (hkg : ∀ i, i < c.ny → 0 ≤ (c.yr i).k ∧ (c.yr i).k < c.nk) (ha : 0 ≤ t.af) (ha' : t.af ≤ 3) :
    Calls Tryd.prog 54 #[.agg #[.slice A c.nk ca, .slice A' c.ny cb], .agg #[.int .i64 t.d, .bool t.more, .int .i64 t.m, .bool t.s, .string t.nm, .int .i64 t.af, .string t.kg]] w fun e w' => ∃ v, e = .returned v ∧ Ext w w' ∧ w'.ownsRow w.heap.size 47 2 v (c.spans t).length (spc (c.spans t)) := by
  refine callsIn_wide.1 (callsIn_of_wp_marks (F := Fence.wide) (n := 9) Tryd.func54 rfl trivial (wpIn_wide.2 ?_) rfl)
  simp only [Tryd.ntmps54, List.size_toArray, List.length_cons, List.length_nil, Nat.reduceAdd, Nat.reduceSub, Array.replicate_succ, Array.replicate_zero, List.push_toArray, List.append_toArray, List.nil_append, List.cons_append]
  go_wp2_with (go_at_call 88; refine (months_any _ _ _ _ c _).mono ?_; rintro e w' ⟨rfl, rfl⟩)
  obtain ⟨wd, hwd⟩ : ∃ wd, wd = spW A A' ca cb c t w := ⟨_, rfl⟩
  have hEd : Ext w wd := by rw [hwd]; unfold spW; exact (by repeat (first | exact Ext.refl _ | (refine Ext.alloc ?_ _) | (refine Ext.trans ?_ (by assumption))))
  have hsd : wd.heap.size = w.heap.size + 1 + 1 := by rw [hwd]; simp [spW]
  have htb : Held wd (w.heap.size + 1) 34 #[.int .i64 t.d, .bool t.more, .int .i64 t.m, .bool t.s, .string t.nm, .int .i64 t.af, .string t.kg] := by rw [hwd]; unfold spW; exact (by repeat (first | (refine Held.at _ _ _ _ ?_; (simp; done)) | refine Held.alloc ?_ _))
  have hcb : Held wd w.heap.size 25 #[.slice A c.nk ca, .slice A' c.ny cb] := by rw [hwd]; unfold spW; exact (by repeat (first | (refine Held.at _ _ _ _ ?_; (simp; done)) | refine Held.alloc ?_ _))
  generalize hW5 : World.alloc _ _ = W5
  have hE5 : Ext wd W5 := by rw [← hW5, hwd]; unfold spW; exact (by repeat (first | exact Ext.refl _ | (refine Ext.alloc ?_ _) | (refine Ext.trans ?_ (by assumption))))
  have hs5 : W5.heap.size = w.heap.size + 1 + 1 + 1 + 1 := by rw [← hW5]; simp
  have b5 : Boxed W5 (w.heap.size + 1 + 1) 41 (.slice none 0 0) := by rw [← hW5]; exact Held.boxed (by repeat (first | (refine Held.at _ _ _ _ ?_; (simp; done)) | refine Held.alloc ?_ _))
  have hB : W5.cell? ⟨w.heap.size + 1 + 1 + 1, 1, none⟩ = some (.slice A' c.ny cb) := by rw [← hW5]; exact (Held.cell (t := 25) (cs := #[.slice A c.nk ca, .slice A' c.ny cb]) (by repeat (first | (refine Held.at _ _ _ _ ?_; (simp; done)) | refine Held.alloc ?_ _)) 1)
  clear hW5 hwd
  generalize hs : w.heap.size = s at *
  obtain ⟨i0, hi, hz0, hz1, hz2⟩ := info_parts info_span
  have hsd1 := Nat.le_of_eq hsd
  have hsd2 := Nat.le_of_eq hsd.symm
  have hs51 := Nat.le_of_eq hs5
  have hs52 := Nat.le_of_eq hs5.symm
  clear hsd hs5 hs
  refine loop_months (A := A) (A' := A') (ca := ca) (cb := cb) (c := c) (B := s + 1 + 1 + 1) wd W5 rfl rfl (hC.ext hEd) hlg hny hE5 hB (by omega)
    (fun pre W => Ext wd W ∧ ∃ v, Boxed W (s + 1 + 1) 41 v ∧ W.ownsRow wd.heap.size 47 2 v (foldTo c t (Mo.its pre)).length (spc (foldTo c t (Mo.its pre))) ∧ True)
    (fun _ _ _ => False) (OwnFrom.and (ownFrom_ext (by omega)) (Own.from (holdsRow_own wd.heap.size (s + 1 + 1) 41 47 2 (fun pre => (foldTo c t (Mo.its pre)).length) (fun pre => spc (foldTo c t (Mo.its pre))) (fun _ _ => True)) _)) (fun _ _ _ _ _ h _ _ => h) ⟨hE5, _, b5, World.ownsRow_nil _ _ _ _, trivial⟩
    (AxM (s + 1 + 1 + 1) (fun m Bx => #[.agg #[.slice A c.nk ca, .slice A' c.ny cb], .agg #[.int .i64 t.d, .bool t.more, .int .i64 t.m, .bool t.s, .string t.nm, .int .i64 t.af, .string t.kg], .pointer (some ⟨s, 0, none⟩), .pointer (some ⟨s + 1, 0, none⟩), .slice none 0 0, .pointer (some ⟨s + 1 + 1, 0, none⟩), .pointer (some ⟨Bx, 0, none⟩), .int .i64 m.first, undef, undef, undef, .agg #[.slice A c.nk ca, .slice A' c.ny cb], .func (.func 118) #[] #[.pointer (some ⟨s + 1 + 1 + 1, 0, none⟩)],
      .agg #[.int .i64 (m.y : Int), .int .i64 m.n, .bool m.s], .int .i64 m.first, undef, undef, undef, undef, undef, undef, undef, undef, undef, undef, undef, undef, undef, undef, undef, undef, undef, undef, undef, undef, undef, undef, undef, undef, undef, undef, undef, undef, undef, undef, undef, undef, undef, undef, undef, undef, undef, undef, undef, undef, undef, undef, undef, undef, undef, undef, undef])) axM_own ?assign ?body ?done ?stop
  case assign =>
    intro l pre x W K hi hK
    simp only [Mo.enc]
    gi_wp2
    obtain ⟨hE, v, hb, hr, -⟩ := hi
    exact hK _ _ (keepsFrom_ext ((Ext.refl W).alloc _)) (KpY.of_ext ((Ext.refl W).alloc _) hE.size) ⟨hE.alloc _, v, hb.alloc _, hr.alloc _, trivial⟩ ⟨W.heap.size, hb.lt, Held.new _ _ _, rfl⟩
  case body =>
    rintro l pre x a' W hl ⟨hE, v, b5, hr, -⟩ ⟨Bx, hBx, hm, rfl⟩ hlt
    have hxok := x.2
    have hx1 := hxok.f1
    have hx2 := hxok.f2
    have hxy := hxok.y
    have hxn := hxok.n1
    have hxn2 := hxok.n12
    have hlx := hlg _ hxy
    have hkx := hkg _ hxy
    clear hxok
    have hCW := (hC.ext hEd).ext hE
    obtain ⟨m0, m1, m2⟩ := hm.c3
    obtain ⟨k0, k1⟩ := (hcb.ext hE).c2
    have tb := htb.ext hE
    have t0 := tb.cell 0
    have t1 := tb.cell 1
    have t2 := tb.cell 2
    have t3 := tb.cell 3
    have t4 := tb.cell 4
    have t5 := tb.cell 5
    have t6 := tb.cell 6
    simp only [List.getElem?_toArray, List.getElem?_cons_zero, List.getElem?_cons_succ] at t0 t1 t2 t3 t4 t5 t6
    have hl1 := hm.lt
    have hl2 := tb.lt
    have hl3 := (hcb.ext hE).lt
    have HF : Hid (foldTo c t (Mo.its (pre ++ [x])) = _) := (congrArg (foldTo c t) (its_snoc pre x)).trans (foldTo_snoc c t _ x.1)
    have hob := foldTo_length c t (Mo.its pre)
    rw [its_length] at hob
    generalize foldTo c t (Mo.its pre) = o at *
    gi_upto_region 5 with (fail)
    refine wpIn_region_xl W (by kernel_rfl) (by repeat (first | exact Ext.refl _ | (refine Ext.alloc ?_ _) | (refine Ext.trans ?_ (by assumption)))) ?_
    intro hne hrx hry
    try simp only []
    try simp only [List.append_eq, List.cons_append, List.nil_append]
    skip
    repeat (first
      | go_big_quiet_skip
      | (go_big_quiet_want; go_big_quiet_op; go_big_quiet_on)
      | (go_big_quiet_want; go_big_quiet_op; apply Exists.intro; refine ⟨fun u => ?_, ?_⟩
         · first
             | (go_at_call 101; refine (inMonth_any _ _ _ _ c t x.1.y _ _ _ (hCW.ext (Ext.trans (by repeat (first | exact Ext.refl _ | (refine Ext.alloc ?_ _) | (refine Ext.trans ?_ (by assumption)))) u.e)) hxy hny hkx.1 hkx.2 ha ha').mono ?_; rintro e w' ⟨rfl, hb⟩; exact ⟨rfl, u.back hb⟩)
         go_big_quiet_on))
    clear hne hry hrx
    refine wpQuiet_nil ?_
    intro wq hq
    obtain ⟨hcwq, hfwq, hzwq⟩ := Ext.rules hq
    try simp only [World.size_alloc] at hzwq
    obtain ⟨hcbwq, hfbwq, hzbwq⟩ := Ext.rules (show Ext W wq from (by repeat (first | exact Ext.refl _ | (refine Ext.alloc ?_ _) | (refine Ext.trans ?_ (by assumption)))))
    clear hcwq hfwq
    have hst : SpStep wd W wq W5.heap.size (s + 1 + 1) Bx #[.int .i64 (x.1.y : Int), .int .i64 x.1.n, .bool x.1.s] o v := SpStep.ext ⟨hE, KpY.refl _ _, KeepsFrom.refl _ _, hm, b5, hr⟩ hq
    have HI : Hid (c.itFold t o x.1 = if c.inMonth t x.1.y x.1.n x.1.s then t.dayFold x.1.first o ((c.yr x.1.y).len x.1.n x.1.s).toNat else o) := rfl
    generalize hin : c.inMonth t x.1.y x.1.n x.1.s = im at *
    clear hin m0 m1 m2 k0 k1 t0 t1 t2 t3 t4 t5 t6 hl1 hl2 hl3 hzwq hcbwq hfbwq hzbwq hq
    cases im
    · gi_wp2
      exact ⟨hst.f, hst.k, hst.e, v, hst.b, by rw [HF.out, HI.out]; exact hst.r, trivial⟩
    · have hln := len_29 (c.yr x.1.y) x.1.n x.1.s
      gi_wp2
      gi_loopw [8] (fun d wr => ∃ k : Nat, k ≤ ((c.yr x.1.y).len x.1.n x.1.s).toNat ∧ d = .int .i64 (k + 1) ∧ ∃ v, SpStep wd W wr W5.heap.size (s + 1 + 1) Bx #[.int .i64 (x.1.y : Int), .int .i64 x.1.n, .bool x.1.s] (t.dayFold x.1.first o k) v) (fun d _ => 32 - (intOf d).toNat)
      case atStart => exact ⟨0, Nat.zero_le _, rfl, v, hst⟩
      case round =>
        clear hst hE b5 hr hm
        obtain ⟨k, hk, rfl, v, hst⟩ := hrel
        obtain ⟨wo, rfl⟩ : ∃ wo : World, wo = wr := ⟨_, rfl⟩
        obtain ⟨m0, m1, m2⟩ := hst.m.c3
        obtain ⟨k0, k1⟩ := (hcb.ext hst.e).c2
        have hCo := (hC.ext hEd).ext hst.e
        have hl1 := hst.m.lt
        have hl3 := (hcb.ext hst.e).lt
        gi_upto_region 7 with (fail)
        refine wpIn_region_xl wo (by kernel_rfl) (by repeat (first | exact Ext.refl _ | (refine Ext.alloc ?_ _) | (refine Ext.trans ?_ (by assumption)))) ?_
        intro hne hrx hry
        try simp only []
        try simp only [List.append_eq, List.cons_append, List.nil_append]
        skip
        repeat (first
          | go_big_quiet_skip
          | (go_big_quiet_want; go_big_quiet_op; go_big_quiet_on)
          | (go_big_quiet_want; go_big_quiet_op; apply Exists.intro; refine ⟨fun u => ?_, ?_⟩
             · first
                 | (go_at_call 89; refine (of_any _ _ _ _ c x.1.y _ _ _ (hCo.ext (Ext.trans (by repeat (first | exact Ext.refl _ | (refine Ext.alloc ?_ _) | (refine Ext.trans ?_ (by assumption)))) u.e)) hxy hxn hxn2 hlx.1 hlx.2).mono ?_; rintro e w' ⟨rfl, hb⟩; exact ⟨rfl, u.back hb⟩)
             go_big_quiet_on))
        clear hne hry hrx
        refine wpQuiet_nil ?_
        intro w7 h7
        obtain ⟨hcw7, hfw7, hzw7⟩ := Ext.rules h7
        try simp only [World.size_alloc] at hzw7
        obtain ⟨hcbw7, hfbw7, hzbw7⟩ := Ext.rules (show Ext wo w7 from (by repeat (first | exact Ext.refl _ | (refine Ext.alloc ?_ _) | (refine Ext.trans ?_ (by assumption)))))
        clear hcw7 hfw7
        have hst7 := hst.ext h7
        clear m0 m1 m2 k0 k1 hl1 hl3 hCo hst hzw7 hcbw7 hfbw7 hzbw7 h7
        by_cases hkl : (k : Int) + 1 ≤ (c.yr x.1.y).len x.1.n x.1.s
        · have tb := htb.ext hst7.e
          have t0 := tb.cell 0
          have t1 := tb.cell 1
          have t2 := tb.cell 2
          have t3 := tb.cell 3
          have t4 := tb.cell 4
          have t5 := tb.cell 5
          have t6 := tb.cell 6
          simp only [List.getElem?_toArray, List.getElem?_cons_zero, List.getElem?_cons_succ] at t0 t1 t2 t3 t4 t5 t6
          have hl2 := tb.lt
          gi_upto_region 9 with (fail)
          refine wpIn_region_xl w7 (by kernel_rfl) (by repeat (first | exact Ext.refl _ | (refine Ext.alloc ?_ _) | (refine Ext.trans ?_ (by assumption)))) ?_
          intro hne hrx hry
          try simp only []
          try simp only [List.append_eq, List.cons_append, List.nil_append]
          skip
          repeat (first
            | go_big_quiet_skip
            | (go_big_quiet_want; go_big_quiet_op; go_big_quiet_on)
            | (go_big_quiet_want; go_big_quiet_op; apply Exists.intro; refine ⟨fun u => ?_, ?_⟩
               · first
                   | (go_at_call 102; refine (onDay_any t _ _).mono ?_; rintro e w' ⟨rfl, hb⟩; exact ⟨rfl, u.back hb⟩)
               go_big_quiet_on))
          clear hne hry hrx
          refine wpQuiet_nil ?_
          intro w9 h9
          obtain ⟨hcw9, hfw9, hzw9⟩ := Ext.rules h9
          try simp only [World.size_alloc] at hzw9
          obtain ⟨hcbw9, hfbw9, hzbw9⟩ := Ext.rules (show Ext w7 w9 from (by repeat (first | exact Ext.refl _ | (refine Ext.alloc ?_ _) | (refine Ext.trans ?_ (by assumption)))))
          clear hcw9 hfw9
          have hst9 := hst7.ext h9
          clear t0 t1 t2 t3 t4 t5 t6 hl2 tb hst7 hzw9 hcbw9 hfbw9 hzbw9 h9
          have HD : Hid (t.dayFold x.1.first o (k + 1) = if t.onDay ((k : Int) + 1) then addDay (t.dayFold x.1.first o k) (x.1.first + k) else t.dayFold x.1.first o k) := rfl
          generalize t.onDay ((k : Int) + 1) = od at *
          cases od
          · gi_wp2
            exact ⟨⟨k + 1, by omega, by go_num, v, by rw [HD.out]; exact hst9⟩, by simp [intOf]; omega⟩
          · have hol := dayFold_length t x.1.first o k
            have hob2 : (t.dayFold x.1.first o k).length ≤ 1000000 := by omega
            clear hol hob
            generalize t.dayFold x.1.first o k = L at *
            have hm1 : L.length + 1 ≤ maxLen := by unfold maxLen; omega
            have hm2 : (L.length + 1) * 16 ≤ 140737488355328 := by omega
            rcases List.eq_nil_or_concat L with rfl | ⟨L', ⟨a, b⟩, rfl⟩
            · obtain ⟨A0, cap0, rfl⟩ : ∃ A0 cap0, v = .slice A0 0 cap0 := by
                rcases hst9.r.2 with ⟨h, _⟩ | ⟨g, cap, cur, h, _⟩
                · exact ⟨_, _, h⟩
                · exact ⟨_, _, h⟩
              have hc5 := hst9.b.cell
              gi_wp2_with (gi_at_builtin; refine wpListIn_append_own _ rfl _ _ 41 rfl wd.heap.size 47 i0 (.agg #[.int .i64 0, .int .i64 0]) 2 16 Tryd.underlying41 hi hz0 hz1 hz2 rfl (by decide) _ _ _ rfl (hst9.r.alloc _) ⟨w9.heap.size, 0, none⟩ 1 1 [.int .i64 (x.1.first + ((k : Int) + 1) - 1), .int .i64 (x.1.first + ((k : Int) + 1) - 1)] rfl rfl (cells_new2 _ _ _ _) (by simp [Value.oneCell']) hm1 hm2 (by have := hst9.e.size; simp; omega) ?_; intro v' w1 hown' hgrow _; obtain ⟨hv1, hst1⟩ := hst9.appended hsd1 hown' hgrow; obtain ⟨g', cap', rfl⟩ := ownsRow_succ hown'; have hc1 := hv1.cell; have hf1 := hv1.frozen)
              exact ⟨⟨k + 1, by omega, by go_num, _, hst1.toL (by rw [HD.out, if_pos rfl, addDay_nil, show x.1.first + ((k : Int) + 1) - 1 = x.1.first + k by omega]; rfl)⟩, by simp [intOf]; omega⟩
            · rw [List.concat_eq_append] at *
              obtain ⟨g, cap, rfl⟩ := ownsRow_succ (show w9.ownsRow wd.heap.size 47 2 v (L'.length + 1) _ by have := hst9.r; rwa [List.length_append] at this)
              have hr9 := hst9.r
              have hc5 := hst9.b.cell
              have hlast : w9.cell? ⟨g, L'.length * 2 + 1, none⟩ = some (.int .i64 b) := by
                rw [List.length_append] at hr9
                exact (World.ownsRow.cellAt hr9 (L'.length * 2 + 1) (by omega)).trans (spc_last L' a b)
              have hfl : w9.frozen? ⟨g, L'.length * 2 + 1, none⟩ = false := by
                rw [List.length_append] at hr9
                exact World.ownsRow.frozenAt hr9 _
              have hLn : L'.length ≤ 1000000 := by rw [List.length_append] at hob2; omega
              clear hr9
              by_cases hbn : b = x.1.first + ((k : Int) + 1) - 1 - 1
              · have hbb : (b == x.1.first + ((k : Int) + 1) - 1 - 1) = true := beq_iff_eq.2 hbn
                have HB := Lib.hid hbn
                clear hbn
                have hs1 := hst9.stored (x.1.first + ((k : Int) + 1) - 1)
                gi_wp2
                exact ⟨⟨k + 1, by omega, by go_num, _, hs1.toL (by rw [HD.out, if_pos rfl, addDay_join _ _ _ _ (by have := HB.out; omega), show x.1.first + ((k : Int) + 1) - 1 = x.1.first + k by omega])⟩, by simp [intOf]; omega⟩
              · have hbb : (b == x.1.first + ((k : Int) + 1) - 1 - 1) = false := beq_eq_false_iff_ne.2 hbn
                have HB := Lib.hid hbn
                clear hbn
                gi_wp2_with (gi_at_builtin; refine wpListIn_append_own _ rfl _ _ 41 rfl wd.heap.size 47 i0 (.agg #[.int .i64 0, .int .i64 0]) 2 16 Tryd.underlying41 hi hz0 hz1 hz2 rfl (by decide) _ _ _ rfl (hst9.r.alloc _) ⟨w9.heap.size, 0, none⟩ 1 1 [.int .i64 (x.1.first + ((k : Int) + 1) - 1), .int .i64 (x.1.first + ((k : Int) + 1) - 1)] rfl rfl (cells_new2 _ _ _ _) (by simp [Value.oneCell']) hm1 hm2 (by have := hst9.e.size; simp; omega) ?_; intro v' w1 hown' hgrow _; obtain ⟨hv1, hst1⟩ := hst9.appended hsd1 hown' hgrow; obtain ⟨g', cap', rfl⟩ := ownsRow_succ hown'; have hc1 := hv1.cell; have hf1 := hv1.frozen)
                simp only [List.length_append, List.length_cons, List.length_nil, Nat.zero_add] at hst1
                exact ⟨⟨k + 1, by omega, by go_num, _, hst1.toL (by rw [HD.out, if_pos rfl, addDay_apart _ _ _ _ (by have := HB.out; omega), show x.1.first + ((k : Int) + 1) - 1 = x.1.first + k by omega])⟩, by simp [intOf]; omega⟩
        · gi_wp2
          have hkk : k = ((c.yr x.1.y).len x.1.n x.1.s).toNat := by omega
          exact ⟨hst7.f, hst7.k, hst7.e, v, hst7.b, by
            have e : foldTo c t (Mo.its (pre ++ [x])) = t.dayFold x.1.first o k := by rw [HF.out, HI.out, hkk]; rfl
            rw [e]; exact hst7.r⟩
  case done =>
    rintro D xs W hD hxs ⟨hE, v, b5, hr, -⟩ hK
    rw [hxs] at hr
    have hc5 := b5.cell
    go_wp2
    exact ret_mark hK (v := v) (by simp [results, Tryd.results54, go_sem]) ⟨v, rfl, hEd.trans (hE.putObj (by omega) _), World.ownsRow.mono (ownsRow_putObj hr _ hK rfl) hEd.size⟩
  case stop =>
    rintro D c' pre W _ _ h _
    exact h.elim
end Go.Proofs.YtlnjeklmkjgidaaDoor

namespace Go.Proofs.YtlnjeklmkjgidaaDoor
open Go Go.RowKit Go.Shelf
attribute [local go_sem] gv_yes

theorem runs_ok {c : Cal} {i : Nat} (hi : i < c.ny) : ∀ (k : Nat), k ≤ 12 → ∀ x, x ∈ runs i (c.yr i) (c.dayAt i) ((c.yr i).moTo k) → c.okIt x
  | 0, _, x, hx => by simp [Yr.moTo, runs] at hx
  | k + 1, hk, x, hx => by
    rw [moTo_succ, runs_append, List.mem_append] at hx
    rcases hx with hx | hx
    · exact runs_ok hi k (by omega) x hx
    · by_cases h : (c.yr i).db = (k : Int) + 1
      · rw [if_pos h] at hx
        rcases List.mem_cons.1 hx with rfl | hx
        · exact it1_ok hi (by omega)
        · rcases List.mem_cons.1 hx with rfl | hx
          · exact it2_ok hi (by omega)
          · cases hx
      · rw [if_neg h] at hx
        rcases List.mem_cons.1 hx with rfl | hx
        · exact it1_ok hi (by omega)
        · cases hx
theorem itemsTo_ok (c : Cal) : ∀ i : Nat, i ≤ c.ny → ∀ x, x ∈ c.itemsTo i → c.okIt x
  | 0, _, x, hx => by cases hx
  | i + 1, hi, x, hx => by
    rw [Cal.itemsTo, List.mem_append] at hx
    rcases hx with hx | hx
    · exact itemsTo_ok c i (by omega) x hx
    · exact runs_ok (by omega) 12 (by omega) x hx
theorem items_ok (c : Cal) : ∀ x, x ∈ c.items → c.okIt x := itemsTo_ok c c.ny (Nat.le_refl _)
theorem checks_one (c : Cal) (d : Dt) : c.checks (fun _ => d) 1 = c.inE d := by simp [Cal.checks, Cal.inE]
def two (a b : Dt) (i : Nat) : Dt := if i = 0 then a else b
theorem checks_two (c : Cal) (a b : Dt) : c.checks (two a b) 2 = c.in2E a b := by
  simp only [Cal.checks, Cal.in2E, show List.range 2 = [0, 1] from rfl, List.all_cons, List.all_nil, Bool.and_true]
  rfl
theorem inE_cases (c : Cal) (d : Dt) : (c.valid = false ∧ c.inE d = 70) ∨ (c.valid = true ∧ c.has d = false ∧ c.inE d = 71) ∨ (c.valid = true ∧ c.has d = true ∧ c.inE d = 0) := by
  unfold Cal.inE
  cases c.valid <;> cases c.has d <;> simp
theorem in2E_cases (c : Cal) (a b : Dt) : (c.valid = false ∧ c.in2E a b = 70) ∨ (c.valid = true ∧ (c.has a && c.has b) = false ∧ c.in2E a b = 71) ∨ (c.valid = true ∧ (c.has a && c.has b) = true ∧ c.in2E a b = 0) := by
  unfold Cal.in2E
  cases c.valid <;> cases c.has a <;> cases c.has b <;> simp
theorem has_day {c : Cal} {d : Dt} (h : c.has d = true) : 1 ≤ d.d ∧ d.d ≤ 30 := by
  simp only [Cal.has, Bool.and_eq_true, decide_eq_true_eq] at h
  have := len_29 (c.yrI d.y) d.m d.s
  omega
theorem valid_kg {c : Cal} (h : c.valid = true) : ∀ i, i < c.ny → 0 ≤ (c.yr i).k ∧ (c.yr i).k < c.nk := fun i hi => by
  simp only [Cal.valid, Bool.and_eq_true, List.all_eq_true, List.mem_range] at h
  have h2 : YearsTo c c.ny := h.2
  have h1 := h2 i hi
  have h3 := prevK_nn (c := c) (k := i) (fun j hj => h2 j (by omega))
  simp only [Cal.yearOk, Bool.and_eq_true, decide_eq_true_eq] at h1
  omega
theorem rows_one {w : World} {b : Nat} {t : TypeId} {d : Dt} (h : Held w b t #[.int .i64 d.y, .int .i64 d.m, .bool d.s, .int .i64 d.d]) : RowsAt w (some ⟨b, 0, none⟩) 1 4 (fun _ => dcells d) := fun _ =>
  ⟨b, 0, rfl, h.lt, fun i j v hi hv => by
    obtain rfl : i = 0 := by omega
    rw [show 0 + 0 * 4 + j = j by omega, h.cell j, List.getElem?_toArray]; exact hv⟩
theorem rows_two {w : World} {b : Nat} {t : TypeId} {x y : Dt} (h : Held w b t #[.int .i64 x.y, .int .i64 x.m, .bool x.s, .int .i64 x.d, .int .i64 y.y, .int .i64 y.m, .bool y.s, .int .i64 y.d]) : RowsAt w (some ⟨b, 0, none⟩) 2 4 (fun i => dcells (two x y i)) := fun _ =>
  ⟨b, 0, rfl, h.lt, fun i j v hi hv => by
    have hj : j < 4 := (List.getElem?_eq_some_iff.1 hv).1
    rw [Nat.zero_add, h.cell]
    match i, j, hi, hj, hv with
    | 0, 0, _, _, hv => exact hv
    | 0, 1, _, _, hv => exact hv
    | 0, 2, _, _, hv => exact hv
    | 0, 3, _, _, hv => exact hv
    | 1, 0, _, _, hv => exact hv
    | 1, 1, _, _, hv => exact hv
    | 1, 2, _, _, hv => exact hv
    | 1, 3, _, _, hv => exact hv⟩
theorem num_bd (c : Cal) (d : Dt) (h1 : 1 ≤ d.d) (h2 : d.d ≤ 30) : 0 ≤ (c.num d).1 ∧ (c.num d).1 ≤ 390 * (c.ny : Int) + 421 ∧ 0 ≤ (c.num d).2 ∧ (c.num d).2 ≤ 13 * (c.ny : Int) := by
  have hi : ∀ x, x ∈ c.items → c.okIt x := items_ok c
  have hl := itemsTo_length c c.ny
  have h : ∀ (l : List It) (k : Int), 0 ≤ k → (∀ x, x ∈ l → c.okIt x) → 0 ≤ (numFrom d l k).1 ∧ (numFrom d l k).1 ≤ 390 * (c.ny : Int) + 421 ∧ 0 ≤ (numFrom d l k).2 ∧ (numFrom d l k).2 ≤ k + l.length := by
    intro l
    induction l with
    | nil => intro k hk _; simp [numFrom]; omega
    | cons x l ih =>
      intro k hk hx
      have hx0 := hx x (List.mem_cons_self ..)
      have f1 := hx0.f1
      have f2 := hx0.f2
      have := ih (k + 1) (by omega) (fun y hy => hx y (List.mem_cons_of_mem _ hy))
      rw [numFrom, List.length_cons]
      split
      · simp only; omega
      · omega
  have := h c.items 0 (by omega) hi
  have e : (c.items.length : Int) ≤ 13 * (c.ny : Int) := by unfold Cal.items; omega
  unfold Cal.num
  omega
set_option maxRecDepth 100000 in
set_option maxHeartbeats 2000000 in
theorem schemeX_any (A A' : Option Addr) (ca cb : Nat) (c : Cal) (a b : Dt) (w : World) (hC : CalAt w A ca A' cb c) :
    Calls Tryd.prog 56 #[.agg #[.slice A c.nk ca, .slice A' c.ny cb], .agg #[.int .i64 a.y, .int .i64 a.m, .bool a.s, .int .i64 a.d], .agg #[.int .i64 b.y, .int .i64 b.m, .bool b.s, .int .i64 b.d]] w fun e w' => e = .returned (.tuple #[.int .i64 (c.schV a b), .int .i64 (c.in2E a b)]) ∧ Ext w w' := by
  rcases in2E_cases c a b with ⟨hv, hE⟩ | ⟨hv, hh, hE⟩ | ⟨hv, hh, hE⟩
  · have HE := Lib.hid hE
    have HV : Hid (c.schV a b = 0) := by unfold Hid Cal.schV; rw [hE]; rfl
    clear hE hv
    go_enter Tryd.func56, Tryd.ntmps56
    go_wp2_with (go_at_call 48; refine (checks_any _ _ _ _ c _ 2 2 (two a b) _ (hC.ext (by repeat (first | exact Ext.refl _ | (refine Ext.alloc ?_ _) | (refine Ext.trans ?_ (by assumption))))) (rows_two (t := 29) (by repeat (first | (refine Held.at _ _ _ _ ?_; (simp; done)) | refine Held.alloc ?_ _))) (by omega)).mono ?_; rw [checks_two, HE.out]; rintro e wq ⟨rfl, hq⟩)
    go_ret2
    exact ⟨by rw [HE.out, HV.out]; rfl, (by repeat (first | exact Ext.refl _ | (refine Ext.alloc ?_ _) | (refine Ext.trans ?_ (by assumption))))⟩
  · have HE := Lib.hid hE
    have HV : Hid (c.schV a b = 0) := by unfold Hid Cal.schV; rw [hE]; rfl
    clear hE hv
    go_enter Tryd.func56, Tryd.ntmps56
    go_wp2_with (go_at_call 48; refine (checks_any _ _ _ _ c _ 2 2 (two a b) _ (hC.ext (by repeat (first | exact Ext.refl _ | (refine Ext.alloc ?_ _) | (refine Ext.trans ?_ (by assumption))))) (rows_two (t := 29) (by repeat (first | (refine Held.at _ _ _ _ ?_; (simp; done)) | refine Held.alloc ?_ _))) (by omega)).mono ?_; rw [checks_two, HE.out]; rintro e wq ⟨rfl, hq⟩)
    go_ret2
    exact ⟨by rw [HE.out, HV.out]; rfl, (by repeat (first | exact Ext.refl _ | (refine Ext.alloc ?_ _) | (refine Ext.trans ?_ (by assumption))))⟩
  · have HE := Lib.hid hE
    have HV : Hid (c.schV a b = 30 * ((c.num b).2 - (c.num a).2) + b.d - a.d) := by unfold Hid Cal.schV; rw [hE]; rfl
    have HL := Lib.hid (valid_lg hv)
    have hny := valid_ny hv
    have HY := Lib.hid hny
    rw [Bool.and_eq_true] at hh
    have hda := has_day hh.1
    have hdb := has_day hh.2
    have HDa := Lib.hid hda
    have HDb := Lib.hid hdb
    obtain ⟨hda1, hda2⟩ := hda
    obtain ⟨hdb1, hdb2⟩ := hdb
    have hna := num_bd c a hda1 hda2
    have hnb := num_bd c b hdb1 hdb2
    obtain ⟨hna1, hna2, hna3, hna4⟩ := hna
    obtain ⟨hnb1, hnb2, hnb3, hnb4⟩ := hnb
    clear hE hv hh
    go_enter Tryd.func56, Tryd.ntmps56
    go_wp2_with (go_at_call 48; refine (checks_any _ _ _ _ c _ 2 2 (two a b) _ (hC.ext (by repeat (first | exact Ext.refl _ | (refine Ext.alloc ?_ _) | (refine Ext.trans ?_ (by assumption))))) (rows_two (t := 29) (by repeat (first | (refine Held.at _ _ _ _ ?_; (simp; done)) | refine Held.alloc ?_ _))) (by omega)).mono ?_; rw [checks_two, HE.out]; rintro e wq ⟨rfl, hq⟩; have hcb := (Held.ext (b := w.heap.size) (t := 25) (cs := #[.slice A c.nk ca, .slice A' c.ny cb]) (by repeat (first | (refine Held.at _ _ _ _ ?_; (simp; done)) | refine Held.alloc ?_ _)) hq); have hab := (Held.ext (b := w.heap.size + 1) (t := 29) (cs := #[.int .i64 a.y, .int .i64 a.m, .bool a.s, .int .i64 a.d]) (by repeat (first | (refine Held.at _ _ _ _ ?_; (simp; done)) | refine Held.alloc ?_ _)) hq); have hbb := (Held.ext (b := w.heap.size + 1 + 1) (t := 29) (cs := #[.int .i64 b.y, .int .i64 b.m, .bool b.s, .int .i64 b.d]) (by repeat (first | (refine Held.at _ _ _ _ ?_; (simp; done)) | refine Held.alloc ?_ _)) hq); obtain ⟨k0, k1⟩ := hcb.c2; obtain ⟨e0, e1, e2, e3⟩ := hab.c4)
    refine (number_any _ _ _ _ c a _ (hC.ext (by repeat (first | exact Ext.refl _ | (refine Ext.alloc ?_ _) | (refine Ext.trans ?_ (by assumption))))) HL.out HY.out HDa.out).mono ?_
    rintro e wn ⟨rfl, hn⟩
    obtain ⟨k0, k1⟩ := (hcb.ext hn).c2
    obtain ⟨g0, g1, g2, g3⟩ := (hbb.ext hn).c4
    go_wp2_with (fail)
    refine (number_any _ _ _ _ c b _ (hC.ext (by repeat (first | exact Ext.refl _ | (refine Ext.alloc ?_ _) | (refine Ext.trans ?_ (by assumption))))) HL.out HY.out HDb.out).mono ?_
    rintro e wm ⟨rfl, hm⟩
    obtain ⟨y0, y1, y2, y3⟩ := ((hab.ext hn).ext hm).c4
    obtain ⟨z0, z1, z2, z3⟩ := ((hbb.ext hn).ext hm).c4
    go_wp2
    go_ret2
    exact ⟨by rw [HE.out, HV.out]; rfl, (by repeat (first | exact Ext.refl _ | (refine Ext.alloc ?_ _) | (refine Ext.trans ?_ (by assumption))))⟩
end Go.Proofs.YtlnjeklmkjgidaaDoor

namespace Go.Proofs.YtlnjeklmkjgidaaDoor
open Go Go.RowKit
attribute [local go_sem] gv_yes

theorem cells_newL (w : World) (l : List Value) (t : TypeId) : ∀ j u, l[j]? = some u → (w.alloc (.cells l.toArray t)).cell? ((⟨w.heap.size, 0, none⟩ : Addr).add j) = some u := fun j u hj => by
  have h := (Held.new w t l.toArray).cell j
  have e : ((⟨w.heap.size, 0, none⟩ : Addr).add j) = ⟨w.heap.size, j, none⟩ := by unfold Addr.add; split <;> simp_all
  rw [e, h]
  simpa using hj
theorem owns_ext {w w' : World} {base size n : Nat} {e : TypeId} {v : Value} {xs : List Value} (h : w.ownsRow base e size v n xs) (x : Ext w w') : w'.ownsRow base e size v n xs := h.kept (grown_of_ext x) (by
  rcases h.2 with ⟨rfl, _⟩ | ⟨g, cap, cur, rfl, _⟩
  · exact .inl rfl
  · exact .inr (fun e => by cases e))
def mrow (y : Yr) (i : Nat) : List Value := [.int .i64 (y.mos.getD i (0, false)).1, .bool (y.mos.getD i (0, false)).2, .int .i64 (y.len (y.mos.getD i (0, false)).1 (y.mos.getD i (0, false)).2)]
/-- The value v reads as the months of y. -/
def MonAt (w : World) (v : Value) (y : Yr) : Prop := ∃ A cap, v = .slice A y.mos.length cap ∧ RowsAt w A y.mos.length 3 (mrow y)
theorem MonAt.ext {w w' : World} {v : Value} {y : Yr} (h : MonAt w v y) (e : Ext w w') : MonAt w' v y := by
  obtain ⟨A, cap, hv, hr⟩ := h
  exact ⟨A, cap, hv, hr.ext e⟩
end Go.Proofs.YtlnjeklmkjgidaaDoor

namespace Go.Proofs.YtlnjeklmkjgidaaDoor
open Go Go.RowKit
attribute [local go_sem] gv_yes

theorem append_none_run {P : Program} {w : World} (t ty e : TypeId) (i : TypeInfo) (z : Value) (ht : P.underlying t = some (.slice e)) (hi : P.info? e = some i) (hz : i.zero = some z) :
    (Builtin.append_ #[t, t] ty #[.slice none 0 0, .slice none 0 0]).run P w = .ok (.slice none 0 0) w := by
  simp [Builtin.append_, run_underlying ht, sizeOf, typeInfo, zeroValue, hi, hz, Builtin.lenOf, run_firstCells_none]
/-- 'append(nil, x...)', x nil or not. -/
theorem wpList_append_copy {P : Program} {ops : Array Oper} {rest : List Oper} {o : Oper} {a : Act} {w : World} {Q : Exit → Act → World → Prop} (hgd : o.guard = none) (s x : Operand) (t : TypeId)
    (ho : o.op = .call { callee := .builtin .append, args := #[s, x], argTypes := #[t, t] })
    (base : Nat) (e : TypeId) (i : TypeInfo) (z : Value) (size bytes : Nat) (ht : P.underlying t = some (.slice e)) (hi : P.info? e = some i) (hz : i.zero = some z)
    (hsize : i.size = size) (hby : i.bytes = bytes) (hzs : z.cells.size = size) (hsz : 0 < size) (hs : a.eval s = .slice none 0 0)
    (A : Option Addr) (m c : Nat) (news : List Value) (hx : a.eval x = .slice A m c) (hnil : A = none → m = 0 ∧ c = 0) (hl : news.length = m * size) (hnews : ∀ ad, A = some ad → ∀ j u, news[j]? = some u → w.cell? (ad.add j) = some u) (h1 : ∀ u ∈ news, u.oneCell' = true)
    (h63 : m ≤ maxLen) (hbytes : m * bytes ≤ 140737488355328) (hbase : base ≤ w.heap.size)
    (h : ∀ v' w', w'.ownsRow base e size v' m news → w.grownBy w' none → wpList P ops Q rest (a.put o.dst v') w') :
    wpList P ops Q (o :: rest) a w := by
  cases A with
  | some ad =>
    refine wpList_append_own_at _ hgd s x t ho base e i z size bytes ht hi hz hsize hby hzs hsz (.slice none 0 0) 0 [] hs (World.ownsRow_nil w base e size) ad m c news hx hl (hnews ad rfl) h1 (by omega) (by rw [Nat.zero_add]; exact hbytes) hbase ?_
    intro v' w' g1 g2 _ _
    rw [Nat.zero_add, List.nil_append] at g1
    exact h v' w' g1 g2
  | none =>
    obtain ⟨rfl, rfl⟩ := hnil rfl
    have hn : news = [] := List.eq_nil_of_length_eq_zero (by simpa using hl)
    subst hn
    refine wpList_plain hgd fun K hK => ?_
    have hr := append_none_run (P := P) (w := w) t o.type e i z ht hi hz
    unfold Oper.wp execOp
    simp only [ho, resolve, invoke, builtin, Sem.run_bind, Sem.run_pure, Result.andThen_ok, List.map_toArray, List.map_cons, List.map_nil, hs, hx, hr]
    exact hK _ _ (h _ w (World.ownsRow_nil w base e size) (World.grownBy.refl _ _))
/-- The cells of n elements, one after the other. -/
def flatL (f : Nat → List Value) (n : Nat) : List Value := (List.range n).flatMap f
theorem flatL_succ (f : Nat → List Value) (k : Nat) : flatL f (k + 1) = flatL f k ++ f k := by simp [flatL, List.range_succ]
theorem flatL_len {f : Nat → List Value} {sz : Nat} (hf : ∀ i, (f i).length = sz) : ∀ k, (flatL f k).length = k * sz
  | 0 => by simp [flatL]
  | k + 1 => by rw [flatL_succ, List.length_append, flatL_len hf k, hf, Nat.succ_mul]
theorem flatL_get {f : Nat → List Value} {sz : Nat} (hf : ∀ i, (f i).length = sz) : ∀ {k i j : Nat}, i < k → j < sz → (flatL f k)[i * sz + j]? = (f i)[j]?
  | k + 1, i, j, hi, hj => by
    rw [flatL_succ]
    by_cases h : i = k
    · subst h
      rw [List.getElem?_append_right (by rw [flatL_len hf]; omega), flatL_len hf, Nat.add_sub_cancel_left]
    · have hik : i < k := by omega
      have hlt : i * sz + j < k * sz := Nat.lt_of_lt_of_le (show i * sz + j < (i + 1) * sz by rw [Nat.succ_mul]; omega) (Nat.mul_le_mul_right sz hik)
      rw [List.getElem?_append_left (by rw [flatL_len hf]; exact hlt)]
      exact flatL_get hf hik hj
theorem plain_add (b o j : Nat) : (⟨b, o, none⟩ : Addr).add j = ⟨b, o + j, none⟩ := by unfold Addr.add; split <;> simp_all
theorem flat_news {w : World} {A : Option Addr} {n sz : Nat} {f : Nat → List Value} (hf : ∀ i, (f i).length = sz) (hs : 0 < sz) (h : RowsAt w A n sz f) : ∀ ad, A = some ad → ∀ j u, (flatL f n)[j]? = some u → w.cell? (ad.add j) = some u := fun ad hA j u hj => by
  have hjl : j < n * sz := by have := (List.getElem?_eq_some_iff.1 hj).1; rwa [flatL_len hf] at this
  have hn : 0 < n := Nat.pos_of_ne_zero (fun e => by subst e; omega)
  obtain ⟨b, o, e, _, hc⟩ := h hn
  obtain rfl : ad = ⟨b, o, none⟩ := Option.some.inj (hA.symm.trans e)
  have hi : j / sz < n := (Nat.div_lt_iff_lt_mul hs).2 hjl
  have hm := Nat.mod_lt j hs
  have hd := Nat.div_add_mod j sz
  have he : j / sz * sz + j % sz = j := by rw [Nat.mul_comm]; exact hd
  have := flatL_get hf hi hm
  rw [he, hj] at this
  rw [plain_add]
  have := hc (j / sz) (j % sz) u hi this.symm
  rw [show o + j / sz * sz + j % sz = o + j by omega] at this
  exact this
theorem flat_rows {w : World} {base k sz : Nat} {e : TypeId} {v : Value} {f : Nat → List Value} (hf : ∀ i, (f i).length = sz) (h : w.ownsRow base e sz v k (flatL f k)) : ∃ F c, v = .slice F k c ∧ RowsAt w F k sz f ∧ k ≤ c ∧ c ≤ maxLen ∧ (F = none → k = 0 ∧ c = 0) ∧ ∀ a, F = some a → base ≤ a.block := by
  rcases h.2 with ⟨rfl, h0⟩ | ⟨q, cap, cur, rfl, hb, hq, hn, hm, _⟩
  · exact ⟨none, 0, by rw [h0], fun hp => by omega, by omega, by omega, fun _ => ⟨h0, rfl⟩, fun a h => by cases h⟩
  · refine ⟨_, _, rfl, fun _ => ⟨q, 0, rfl, (Array.getElem?_eq_some_iff.1 hq).1, fun i j v hi hv => ?_⟩, hn, hm, (fun h => by cases h), fun a h => by cases h; exact hb⟩
    have hj : j < sz := by have := (List.getElem?_eq_some_iff.1 hv).1; rwa [hf] at this
    have hlt : i * sz + j < k * sz := Nat.lt_of_lt_of_le (show i * sz + j < (i + 1) * sz by rw [Nat.succ_mul]; omega) (Nat.mul_le_mul_right sz hi)
    rw [Nat.zero_add, World.ownsRow.cellAt h (i * sz + j) hlt, flatL_get hf hi hj]
    exact hv
theorem flat_one {f : Nat → List Value} {n : Nat} (h : ∀ i, ∀ u ∈ f i, u.oneCell' = true) : ∀ u ∈ flatL f n, u.oneCell' = true := fun u hu => by
  obtain ⟨i, _, hi⟩ := List.mem_flatMap.1 hu
  exact h i u hi
theorem wp_region_stepsW {P : Program} {id : Nat} {Q : Exit → Act → World → Prop} {a : Act} {w : World} {l : List Oper} (n : Nat) (W : World) (hm : P.follows .mixedOrders = true) (hn : n = l.length) (he : Ext W w)
    (h : Nonempty (XW W) → (∀ (u : XW W) b o, b < W.heap.size → u.w.cell? ⟨b, o, none⟩ = W.cell? ⟨b, o, none⟩) →
      ∀ w', Ext w w' → wpAnyC P .any l.toArray (Ext W) (fun a w => Q .normal a w) n (Array.replicate n false) a w') : (Code.region id l.toArray true).wp P Q a w := by
  have H := h (XW.some W) (fun u => u.cell) { w with drawn := w.drawn + 1 } ⟨rfl, rfl, rfl, Nat.le_refl _, fun _ _ => rfl⟩
  have _ := he
  refine Code.wp_mono (Q := onQ fun a w => Q .normal a w) (fun e a' w' h' => by cases e <;> first | exact h' | exact False.elim h') (wp_region_any hm (wpAny_of_C (C := Ext W) _ _ _ _ ?_))
  subst hn
  simpa using H
theorem rows_set {w : World} {A : Option Addr} {n sz : Nat} {f : Nat → List Value} (h : RowsAt w A n sz f) {p : Addr} (u : Value) (hne : ∀ a, A = some a → a.block ≠ p.block) : RowsAt (w.setCell p u) A n sz f := fun h0 => by
  obtain ⟨b, off, hA, hb, hc⟩ := h h0
  refine ⟨b, off, hA, by simpa [World.setCell] using hb, fun i j v hi hv => ?_⟩
  have hb2 : p.block ≠ b := fun e => hne _ hA e.symm
  rw [World.cell?_setCell_other _ _ _ _ (fun e => hb2 (by rw [e]))]
  exact hc i j v hi hv
theorem rows_set2 {w : World} {A : Option Addr} {n sz : Nat} {f : Nat → List Value} {b : Nat} (h : RowsAt w A n sz f) (hne : ∀ a, A = some a → a.block ≠ b) (i j : Nat) (u x : Value) : RowsAt ((w.setCell ⟨b, i, none⟩ u).setCell ⟨b, j, none⟩ x) A n sz f := rows_set (rows_set h u hne) x hne
theorem held_two {W : World} {b : Nat} {t : TypeId} {v0 v1 : Value} (h : Held W b t #[v0, v1]) (u0 u1 : Value) : Held ((W.setCell ⟨b, 0, none⟩ u0).setCell ⟨b, 1, none⟩ u1) b t #[u0, u1] := by unfold Held at h ⊢; simp [World.setCell, Array.getElem?_modify, h]
end Go.Proofs.YtlnjeklmkjgidaaDoor

namespace Go.Proofs.YtlnjeklmkjgidaaDoor
open Go Go.RowKit

section
variable {P : Program} {ops : Array Oper} {md : Region.Mode} {C : World → Prop} {R : Act → World → Prop}
theorem still_valsC {W : World} (hW : C W) {A : Act} {o : Oper} {l : List Oper} {a : Act} (hb : dstsB (o :: l) = true) (hz : ∀ d, o.dst = some d → d < a.tmps.size) (h : ∀ u, C u → wpQuiet P ops (fun w' => w' = u) (fun a' => a' = A) (o :: l) a) :
    ∃ v, StillIn P ops C o v a ∧ ∀ u, C u → wpQuiet P ops (fun w' => w' = u) (fun a' => a' = A) l (a.put o.dst v) := by
  simp only [dstsB, Bool.and_eq_true] at hb
  obtain ⟨⟨hg, hd⟩, _⟩ := hb
  cases ho : o.dst with
  | none => rw [ho] at hd; cases hd
  | some d =>
    rw [ho] at hd
    have hw : Region.wanted o (yielded ops a.tmps) = true := by
      unfold Region.wanted
      cases hgo : o.guard with
      | none => rfl
      | some g => rw [hgo] at hg; cases hg
    have each : ∀ u, C u → ∃ v, o.quietAt P a (fun w' => w' = u) u v ∧ A.tmps[d]? = some v ∧ wpQuiet P ops (fun w' => w' = u) (fun a' => a' = A) l (a.put (some d) v) := fun u hu => by
      have h1 := h u hu
      unfold wpQuiet at h1
      rw [if_pos hw] at h1
      obtain ⟨v, h2, h3⟩ := h1
      rw [ho] at h3
      refine ⟨v, h2 _ rfl, ?_, h3⟩
      rw [quiet_keeps l _ hd h3]
      simp [Act.put, hz d ho]
    obtain ⟨v, _, hv, _⟩ := each W hW
    have same : ∀ u, C u → o.quietAt P a (fun w' => w' = u) u v ∧ wpQuiet P ops (fun w' => w' = u) (fun a' => a' = A) l (a.put (some d) v) := fun u hu => by
      obtain ⟨v', h1, h2, h3⟩ := each u hu
      have e : v' = v := Option.some.inj (h2.symm.trans hv)
      subst e
      exact ⟨h1, h3⟩
    exact ⟨v, ⟨hw, fun w hw => (same w hw).1⟩, fun u hu => (same u hu).2⟩
end
end Go.Proofs.YtlnjeklmkjgidaaDoor

