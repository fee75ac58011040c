/- Words for memory and for regions that draw their order: no program in sight. Proved: the lemmas below; no conditions. -/
import Derived.WalkKit
import Derived.WalkSpells
import Derived.Deep.Quiet
import Derived.Deep.QuietTactic
import Derived.Deep.LoopGhost
import Derived.BigQuiet
import Derived.Deep.Cut
namespace Go.Proofs.YtfchchmmjabjnaaDoor
open Go Go.RowKit

/-- w is W and new blocks: what lay in W lies as it lay. -/
def Ext (W w : World) : Prop := Below W.heap.size W w

namespace Ext
theorem refl (W : World) : Ext W W := Below.refl _ _
theorem trans {a b c : World} (h : Ext a b) (k : Ext b c) : Ext a c := Below.trans h (Below.mono k (Below.size h))
theorem alloc {W w : World} (h : Ext W w) (o : Obj) : Ext W (w.alloc o) := Below.alloc h (Below.size h) o
theorem drew {W w : World} (h : Ext W w) : Ext W w.drew := Below.drew h
theorem size {W w : World} (h : Ext W w) : W.heap.size ≤ w.heap.size := Below.size h
theorem setCell {W w : World} (h : Ext W w) {p : Addr} (hp : W.heap.size ≤ p.block) (u : Value) : Ext W (w.setCell p u) := Below.setCell h hp u
theorem grown {W w w' : World} {row : Option Nat} (h : Ext W w) (hg : w.grownBy w' row) (hr : ∀ k, row = some k → W.heap.size ≤ k) : Ext W w' := Below.grown h hg (Below.size h) hr
theorem below {W w : World} (h : Ext W w) : Below W.heap.size W w := h
theorem of_below {W w : World} (h : Below W.heap.size W w) : Ext W w := h
theorem cell {W w : World} (h : Ext W w) {p : Addr} (hp : p.block < W.heap.size) : w.cell? p = W.cell? p := Below.cell h hp
theorem block {W w : World} (h : Ext W w) {k : Nat} (hk : k < W.heap.size) : w.heap[k]? = W.heap[k]? := Below.block h k hk
/-- The rules that the walk uses. -/
theorem rules {W w : World} (h : Ext W w) : (∀ b o, b < W.heap.size → w.cell? ⟨b, o, none⟩ = W.cell? ⟨b, o, none⟩) ∧ (∀ b o, b < W.heap.size → w.frozen? ⟨b, o, none⟩ = W.frozen? ⟨b, o, none⟩) ∧ W.heap.size ≤ w.heap.size :=
  ⟨fun b o hb => Below.cell h (p := ⟨b, o, none⟩) hb, fun b o hb => Below.frozen h (p := ⟨b, o, none⟩) hb, Below.size h⟩
end Ext

section
variable {P : Program} {ops : Array Oper} {C : World → Prop} {Q : Act → Prop} {a : Act} {o : Oper} {rest : List Oper}
theorem q_take (hw : Region.wanted o (yielded ops a.tmps) = true) (hg : ∃ v, (∀ w, C w → o.quietAt P a C w v) ∧ (∀ K : Act → Prop, (∀ a, wpQuiet P ops C Q rest a → K a) → K (a.put o.dst v))) : wpQuiet P ops C Q (o :: rest) a := by
  obtain ⟨v, h1, h2⟩ := hg
  unfold wpQuiet; rw [if_pos hw]; exact ⟨v, h1, h2 _ (fun _ h => h)⟩
theorem q_skip (hw : Region.wanted o (yielded ops a.tmps) = false) (hg : ∀ K : Act → Prop, (∀ a, wpQuiet P ops C Q rest a → K a) → K (a.put o.dst undef)) : wpQuiet P ops C Q (o :: rest) a := by
  unfold wpQuiet; rw [if_neg (by simp [hw])]; exact hg _ (fun _ h => h)
/-- A guard that is not decided yet: both ways. -/
theorem q_case {b : Bool} {j : Nat} {want : Bool} (_ : o.guard = some (j, want)) (_ : yielded ops a.tmps j = some b) (h1 : b = true → wpQuiet P ops C Q (o :: rest) a) (h2 : b = false → wpQuiet P ops C Q (o :: rest) a) : wpQuiet P ops C Q (o :: rest) a := by
  cases b
  · exact h2 rfl
  · exact h1 rfl
end

/-! ### A quicker check that the order of the text serves every order -/
def fastPair (ops : Array Oper) (k j : Nat) : Bool :=
  match ops[k]?, ops[j]? with
  | some ok, some oj => oj.after.any (fun e => Region.binds .any e && e.on == k) || ok.apart ops oj
  | _, _ => true
def fastReady (ops : Array Oper) (k : Nat) : Bool :=
  match ops[k]? with
  | some ok => ok.after.all (fun e => !Region.binds .any e || decide (e.on < k))
  | none => true
def fastB (ops : Array Oper) : Bool :=
  Region.noSelect ops && (List.range ops.size).all fun j => fastReady ops j && (List.range j).all fun k => fastPair ops k j

theorem listed_get {n k i : Nat} {L : Array Bool} (hL : L.size = n ∧ ∀ i, i < n → L[i]? = some (decide (i < k))) (hi : i < n) (d : Bool) : L.getD i d = decide (i < k) := by
  simp [Array.getD_eq_getD_getElem?, hL.2 i hi]
theorem lexFrom_of_fast {ops : Array Oper} (h : ∀ j, j < ops.size → fastReady ops j = true ∧ ∀ k, k < j → fastPair ops k j = true) : ∀ (m k : Nat) (L : Array Bool), k + m = ops.size →
    (L.size = ops.size ∧ ∀ i, i < ops.size → L[i]? = some (decide (i < k))) → Region.lexFrom .any ops m k L = true
  | 0, k, L, hk, hL => by
    simp only [Region.lexFrom, List.isEmpty_iff]
    apply List.eq_nil_iff_forall_not_mem.2
    intro i hi
    rw [mem_ready] at hi
    obtain ⟨h0, o, ho, _⟩ := hi
    have hlt : i < ops.size := (Array.getElem?_eq_some_iff.1 ho).1
    rw [listed_get hL hlt] at h0
    simp at h0; omega
  | m + 1, k, L, hk, hL => by
    have hkn : k < ops.size := by omega
    simp only [Region.lexFrom, Bool.and_eq_true]
    refine ⟨⟨?_, ?_⟩, ?_⟩
    · rw [List.contains_iff_mem, mem_ready]
      have hok : ops[k]? = some ops[k] := Array.getElem?_eq_getElem hkn
      refine ⟨by rw [listed_get hL hkn]; simp, _, hok, fun e he hb => ?_⟩
      have hr := (h k hkn).1
      simp only [fastReady, hok] at hr
      have := Array.all_eq_true_iff_forall_mem.1 hr e he
      simp only [hb, Bool.not_true, Bool.false_or, decide_eq_true_eq] at this
      rw [listed_get hL (by omega)]; simpa using this
    · have hok : ops[k]? = some ops[k] := Array.getElem?_eq_getElem hkn
      simp only [Region.free, hok, List.all_eq_true, List.mem_range]
      intro j hj
      by_cases hjk : j = k
      · simp [hjk]
      · by_cases hlt : j < k
        · have := listed_get hL hj true
          simp only [hlt, decide_true] at this
          simp [this]
        · have hp := (h j hj).2 k (by omega)
          have hoj : ops[j]? = some ops[j] := Array.getElem?_eq_getElem hj
          simp only [fastPair, hok, hoj] at hp
          simp only [hoj]
          rw [Bool.or_eq_true]
          exact .inr hp
    · refine lexFrom_of_fast h m (k + 1) _ (by omega) ⟨by simp [hL.1], fun i hi => ?_⟩
      rw [Array.getElem?_setIfInBounds]
      by_cases hki : k = i
      · subst hki; simp [hL.1, hi]
      · rw [if_neg hki, hL.2 i hi]
        congr 1; simp; omega
theorem lexB_of_fast {ops : Array Oper} (h : fastB ops = true) : Region.lexB .any ops = true := by
  simp only [fastB, Bool.and_eq_true, List.all_eq_true, List.mem_range] at h
  simp only [Region.lexB, Bool.and_eq_true]
  refine ⟨h.1, lexFrom_of_fast (fun j hj => ⟨(h.2 j hj).1, fun k hk => (h.2 j hj).2 k hk⟩) _ 0 _ (by simp) ⟨by simp, fun i hi => ?_⟩⟩
  simp [hi]

theorem wp_region_ext {P : Program} {id : Nat} {Q : Exit → Act → World → Prop} {a : Act} {w : World} {l : List Oper} (hm : P.follows .mixedOrders = true) (hB : fastB l.toArray = true)
    (h : wpQuiet P l.toArray (Ext w) (fun a' => ∀ w', Ext w w' → Q .normal a' w') l a) : (Code.region id l.toArray true).wp P Q a w :=
  wp_region_quiet (C := Ext w) hm (lexB_of_fast hB) ⟨rfl, rfl, rfl, Nat.le_refl _, fun _ _ => rfl⟩ (by simpa using h)

/-- A world that is W and new blocks. -/
structure XW (W : World) where
  w : World
  e : Ext W w
theorem XW.some (W : World) : Nonempty (XW W) := ⟨⟨W, Ext.refl W⟩⟩
theorem XW.cell {W : World} (u : XW W) (b o : Nat) (h : b < W.heap.size) : u.w.cell? ⟨b, o, none⟩ = W.cell? ⟨b, o, none⟩ := u.e.cell (p := ⟨b, o, none⟩) h
theorem XW.from {W w : World} (u : XW W) (h : Ext w W) (b o : Nat) (hb : b < w.heap.size) : u.w.cell? ⟨b, o, none⟩ = w.cell? ⟨b, o, none⟩ := (h.trans u.e).cell (p := ⟨b, o, none⟩) hb
/-- A region that draws its order: one walk in the order of the text, each operation in whatever world is w and new blocks. -/
theorem wp_region_xw {P : Program} {id : Nat} {Q : Exit → Act → World → Prop} {a : Act} {w : World} {l : List Oper} (w₀ : World) (hm : P.follows .mixedOrders = true) (hB : fastB l.toArray = true) (he : Ext w₀ w)
    (h : Nonempty (XW w) → (∀ (u : XW w) b o, b < w.heap.size → u.w.cell? ⟨b, o, none⟩ = w.cell? ⟨b, o, none⟩) → (∀ (u : XW w) b o, b < w₀.heap.size → u.w.cell? ⟨b, o, none⟩ = w₀.cell? ⟨b, o, none⟩) →
      wpQuiet P l.toArray (fun w' => ∃ u : XW w, w' = u.w) (fun a' => ∀ w', Ext w w' → Q .normal a' w') l a) : (Code.region id l.toArray true).wp P Q a w := by
  refine wp_region_quiet (C := fun w' => ∃ u : XW w, w' = u.w) hm (lexB_of_fast hB) ⟨⟨{ w with drawn := w.drawn + 1 }, ⟨rfl, rfl, rfl, Nat.le_refl _, fun _ _ => rfl⟩⟩, rfl⟩ ?_
  have e : (fun a' => ∀ w', (∃ u : XW w, w' = u.w) → Q .normal a' w') = (fun a' => ∀ w', Ext w w' → Q .normal a' w') := by
    funext a'
    exact propext ⟨fun h w' he => h w' ⟨⟨w', he⟩, rfl⟩, fun h w' ⟨u, hu⟩ => by subst hu; exact h _ u.e⟩
  rw [e]
  simpa using h (XW.some w) (fun u => u.cell) (fun u => u.from he)
/-- A callee's contract, met in such a world. -/
theorem XW.back {W : World} (u : XW W) {w' : World} (h : Ext u.w w') : ∃ v : XW W, w' = v.w := ⟨⟨w', u.e.trans h⟩, rfl⟩

/-- The same for a region that draws nothing. -/
theorem wpList_of_quiet {P : Program} {ops : Array Oper} {C : World → Prop} {Q : Exit → Act → World → Prop} {Q' : Act → Prop} (hQ : ∀ a w, C w → Q' a → Q .normal a w) :
    ∀ (l : List Oper) (a : Act) (w : World), C w → wpQuiet P ops C Q' l a → wpList P ops Q l a w
  | [], a, w, hw, h => hQ a w hw h
  | o :: l, a, w, hw, h => by
    unfold wpQuiet at h
    unfold wpList
    split
    · rename_i hc
      rw [if_pos hc] at h
      exact .inl (Oper.wp_of_quiet hw (fun a' w' hw' h' => wpList_of_quiet hQ l a' w' hw' h') h)
    · rename_i hc
      rw [if_neg hc] at h
      exact wpList_of_quiet hQ l _ w hw h
theorem wp_region_xl {P : Program} {id : Nat} {Q : Exit → Act → World → Prop} {a : Act} {w : World} {l : List Oper} (w₀ : World) (he : Ext w₀ w)
    (h : Nonempty (XW w) → (∀ (u : XW w) b o, b < w.heap.size → u.w.cell? ⟨b, o, none⟩ = w.cell? ⟨b, o, none⟩) → (∀ (u : XW w) b o, b < w₀.heap.size → u.w.cell? ⟨b, o, none⟩ = w₀.cell? ⟨b, o, none⟩) →
      wpQuiet P l.toArray (fun w' => ∃ u : XW w, w' = u.w) (fun a' => ∀ w', Ext w w' → Q .normal a' w') l a) : (Code.region id l.toArray false).wp P Q a w :=
  wp_region_lit (wpList_of_quiet (C := fun w' => ∃ u : XW w, w' = u.w) (Q' := fun a' => ∀ w', Ext w w' → Q .normal a' w') (fun _ w' ⟨u, hu⟩ h => h w' (hu ▸ u.e)) l a w ⟨⟨w, Ext.refl w⟩, rfl⟩
    (h (XW.some w) (fun u => u.cell) (fun u => u.from he)))

/-! ### Guards that stay open -/
/-- A slot that was written under the guard b. -/
def gv (b : Bool) (v : Value) : Value := if b then v else undef
theorem gv_yes {b : Bool} {v : Value} (h : b = true) : gv b v = v := by rw [h]; rfl
section
variable {P : Program} {ops : Array Oper} {W : World} {Q : Act → Prop} {a : Act} {rest : List Oper} {d : Option Tmp} {op : Op} {ty : TypeId} {pos : String} {after : Array Edge} {gd : Option (Nat × Bool)}
/-- What follows, asked as of a 'move' of the value that is known: so that the frame is written out cheaply. -/
def Then (P : Program) (W : World) (d : Option Tmp) (v : Value) (a : Act) (K : Act → Prop) : Prop := Oper.quiet P ⟨d, .move (.const v), 0, "", #[], none⟩ a (fun w' => ∃ u : XW W, w' = u.w) K
theorem Then.out {v : Value} {K : Act → Prop} (h : Then P W d v a K) : K (a.put d v) := by
  obtain ⟨v', h1, h2⟩ := h
  have h3 := h1 W ⟨⟨W, Ext.refl W⟩, rfl⟩
  unfold Oper.quietAt at h3
  rw [BigFrame.run_move (.const v) rfl] at h3
  obtain ⟨_, rfl⟩ := h3
  exact h2
theorem q_sym {b : Bool} (hw : Region.wanted ⟨d, op, ty, pos, after, gd⟩ (yielded ops a.tmps) = b)
    (hg : ∃ v, (b = true → ∀ u : XW W, Oper.quietAt P ⟨d, op, ty, pos, after, gd⟩ a (fun w' => ∃ u : XW W, w' = u.w) u.w v) ∧
      (∀ K : Act → Prop, (∀ a, wpQuiet P ops (fun w' => ∃ u : XW W, w' = u.w) Q rest a → K a) → Then P W d (gv b v) a K)) :
    wpQuiet P ops (fun w' => ∃ u : XW W, w' = u.w) Q (⟨d, op, ty, pos, after, gd⟩ :: rest) a := by
  obtain ⟨v, h1, h2⟩ := hg
  have h3 := (h2 _ (fun _ h => h)).out
  unfold wpQuiet
  cases b
  · rw [if_neg (by simp [hw])]; exact h3
  · rw [if_pos hw]; exact ⟨v, fun w ⟨u, hu⟩ => by subst hu; exact h1 rfl u, h3⟩
theorem run_pick {o : Oper} {c x y : Operand} {w : World} {b : Bool} (ho : o.op = .pick c x y) (h1 : a.eval c = .bool b) : (execOp a.eval o).run P w = .ok (.value (if b then a.eval x else a.eval y)) w := by
  simp only [execOp, ho, h1]; cases b <;> rfl
theorem q_put {v : Value} (hw : Region.wanted ⟨d, op, ty, pos, after, gd⟩ (yielded ops a.tmps) = true) (hv : ∀ w, (execOp a.eval ⟨d, op, ty, pos, after, gd⟩).run P w = .ok (.value v) w)
    (hK : ∀ K : Act → Prop, (∀ a, wpQuiet P ops (fun w' => ∃ u : XW W, w' = u.w) Q rest a → K a) → Then P W d v a K) : wpQuiet P ops (fun w' => ∃ u : XW W, w' = u.w) Q (⟨d, op, ty, pos, after, gd⟩ :: rest) a := by
  unfold wpQuiet
  rw [if_pos hw]
  exact ⟨v, fun w _ => by unfold Oper.quietAt; rw [hv w]; exact ⟨rfl, rfl⟩, (hK _ (fun _ h => h)).out⟩
theorem q_and {c x y : Operand} {b z : Bool} (h1 : a.eval c = .bool b) (h2 : a.eval x = gv b (.bool z)) (h3 : a.eval y = .bool false)
    (hK : ∀ K : Act → Prop, (∀ a, wpQuiet P ops (fun w' => ∃ u : XW W, w' = u.w) Q rest a → K a) → Then P W d (.bool (b && z)) a K) :
    wpQuiet P ops (fun w' => ∃ u : XW W, w' = u.w) Q (⟨d, .pick c x y, ty, pos, after, none⟩ :: rest) a :=
  q_put rfl (fun w => by rw [run_pick rfl h1, h2, h3]; cases b <;> rfl) hK
theorem q_or {c x y : Operand} {b z : Bool} (h1 : a.eval c = .bool b) (h2 : a.eval x = .bool true) (h3 : a.eval y = gv (!b) (.bool z))
    (hK : ∀ K : Act → Prop, (∀ a, wpQuiet P ops (fun w' => ∃ u : XW W, w' = u.w) Q rest a → K a) → Then P W d (.bool (b || z)) a K) :
    wpQuiet P ops (fun w' => ∃ u : XW W, w' = u.w) Q (⟨d, .pick c x y, ty, pos, after, none⟩ :: rest) a :=
  q_put rfl (fun w => by rw [run_pick rfl h1, h2, h3]; cases b <;> rfl) hK
theorem q_and_g {c x y : Operand} {g b z : Bool} (hw : Region.wanted ⟨d, .pick c x y, ty, pos, after, gd⟩ (yielded ops a.tmps) = g) (h1 : a.eval c = gv g (.bool b)) (h2 : a.eval x = gv (g && b) (.bool z)) (h3 : a.eval y = .bool false)
    (hK : ∀ K : Act → Prop, (∀ a, wpQuiet P ops (fun w' => ∃ u : XW W, w' = u.w) Q rest a → K a) → Then P W d (gv g (.bool (b && z))) a K) :
    wpQuiet P ops (fun w' => ∃ u : XW W, w' = u.w) Q (⟨d, .pick c x y, ty, pos, after, gd⟩ :: rest) a := by
  refine q_sym hw ⟨.bool (b && z), fun hg u => ?_, hK⟩
  subst hg
  unfold Oper.quietAt
  rw [run_pick rfl h1, h2, h3]; cases b <;> exact ⟨rfl, rfl⟩
theorem q_or_g {c x y : Operand} {g b z : Bool} (hw : Region.wanted ⟨d, .pick c x y, ty, pos, after, gd⟩ (yielded ops a.tmps) = g) (h1 : a.eval c = gv g (.bool b)) (h2 : a.eval x = .bool true) (h3 : a.eval y = gv (g && !b) (.bool z))
    (hK : ∀ K : Act → Prop, (∀ a, wpQuiet P ops (fun w' => ∃ u : XW W, w' = u.w) Q rest a → K a) → Then P W d (gv g (.bool (b || z))) a K) :
    wpQuiet P ops (fun w' => ∃ u : XW W, w' = u.w) Q (⟨d, .pick c x y, ty, pos, after, gd⟩ :: rest) a := by
  refine q_sym hw ⟨.bool (b || z), fun hg u => ?_, hK⟩
  subst hg
  unfold Oper.quietAt
  rw [run_pick rfl h1, h2, h3]; cases b <;> exact ⟨rfl, rfl⟩
variable {o : Oper} {j t : Nat} {x g : Bool}
theorem wanted_pt (hg : o.guard = some (j, true)) (hd : (ops[j]?).bind (·.dst) = some t) (hv : a.tmps[t]? = some (.bool x)) : Region.wanted o (yielded ops a.tmps) = x := by
  simp only [Region.wanted, hg, yielded, hd, Option.bind_some, hv]; cases x <;> rfl
theorem wanted_pf (hg : o.guard = some (j, false)) (hd : (ops[j]?).bind (·.dst) = some t) (hv : a.tmps[t]? = some (.bool x)) : Region.wanted o (yielded ops a.tmps) = !x := by
  simp only [Region.wanted, hg, yielded, hd, Option.bind_some, hv]; cases x <;> rfl
theorem wanted_gt (hg : o.guard = some (j, true)) (hd : (ops[j]?).bind (·.dst) = some t) (hv : a.tmps[t]? = some (gv g (.bool x))) : Region.wanted o (yielded ops a.tmps) = (g && x) := by
  simp only [Region.wanted, hg, yielded, hd, Option.bind_some, hv]; cases g <;> cases x <;> rfl
theorem wanted_gf (hg : o.guard = some (j, false)) (hd : (ops[j]?).bind (·.dst) = some t) (hv : a.tmps[t]? = some (gv g (.bool x))) : Region.wanted o (yielded ops a.tmps) = (g && !x) := by
  simp only [Region.wanted, hg, yielded, hd, Option.bind_some, hv]; cases g <;> cases x <;> rfl
end

/-! ### Slices that read as lists -/
/-- The slice value '.slice A n _' reads in w as n elements of sz cells: element i's cell j is (f i)[j]. -/
def RowsAt (w : World) (A : Option Addr) (n sz : Nat) (f : Nat → List Value) : Prop :=
  0 < n → ∃ b off, A = some ⟨b, off, none⟩ ∧ b < w.heap.size ∧ ∀ i j v, i < n → (f i)[j]? = some v → w.cell? ⟨b, off + i * sz + j, none⟩ = some v
theorem RowsAt.ext {w w' : World} {A : Option Addr} {n sz : Nat} {f : Nat → List Value} (h : RowsAt w A n sz f) (e : Ext w w') : RowsAt w' A n sz f := fun hn => by
  obtain ⟨b, off, hA, hb, hc⟩ := h hn
  exact ⟨b, off, hA, Nat.lt_of_lt_of_le hb e.size, fun i j v hi hv => (e.cell (p := ⟨b, _, none⟩) hb).trans (hc i j v hi hv)⟩
theorem RowsAt.nil {w : World} {A : Option Addr} {sz : Nat} {f : Nat → List Value} : RowsAt w A 0 sz f := fun h => absurd h (by omega)
theorem RowsAt.take {w : World} {A : Option Addr} {n m sz : Nat} {f : Nat → List Value} (h : RowsAt w A n sz f) (hm : m ≤ n) : RowsAt w A m sz f := fun h0 => by
  obtain ⟨b, off, hA, hb, hc⟩ := h (by omega)
  exact ⟨b, off, hA, hb, fun i j v hi hv => hc i j v (by omega) hv⟩
theorem RowsAt.congr {w : World} {A : Option Addr} {n sz : Nat} {f g : Nat → List Value} (h : RowsAt w A n sz f) (hg : ∀ i, i < n → f i = g i) : RowsAt w A n sz g := fun h0 => by
  obtain ⟨b, off, hA, hb, hc⟩ := h h0
  exact ⟨b, off, hA, hb, fun i j v hi hv => hc i j v hi (by rw [hg i hi]; exact hv)⟩

/-! ### What a call hands back -/
theorem ret_bool {a b : Bool} (h : a = b) : Ending.returned (.bool a) = .returned (.bool b) := by rw [h]
theorem ret_int {k : IntKind} {a b : Int} (h : a = b) : Ending.returned (.int k a) = .returned (.int k b) := by rw [h]
end Go.Proofs.YtfchchmmjabjnaaDoor
