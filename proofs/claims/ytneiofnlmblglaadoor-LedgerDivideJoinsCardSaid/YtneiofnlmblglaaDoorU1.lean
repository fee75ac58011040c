/- Walks of the program's functions and plain facts, packed; proved: the lemmas below; no conditions but those that each states. -/
import Derived.WalkKit
import Derived.WalkSpells
import Derived.Deep.Quiet
import Derived.Deep.QuietTactic
import Derived.Deep.LoopGhost
import Derived.BigQuiet
import Derived.Deep.Cut
import Derived.Test.YtneiofnlmblglaaDoorProg
import Derived.Test.YtneiofnlmblglaaDoorRows
import Derived.Deep.Slices
import Derived.Deep.Fields
import Derived.Below
import Derived.ReadAgain
import Derived.ChangeSame
import Derived.ProofKit
import Derived.OpenShut
import Derived.Outline
import Derived.StillTail
import Derived.OrdersIn
import Derived.TacticsIn
import Derived.RangeFuncNested
import Derived.RangeFuncBound
import Derived.RangeFuncLeaves
import Derived.OwnWalkIn
import Derived.TacticsInMore
import Derived.LoopNIn
import Derived.LoopIn
import Derived.Lib.Hide
import Derived.Laws.StructEq
import Derived.Maps.Own
import Derived.Maps.Views
import Derived.DeepKeys4
set_option maxRecDepth 100000
set_option maxHeartbeats 4000000
namespace Go.Proofs.YtneiofnlmblglaaDoor
section
theorem Qd {α : Type _} {xs : List α} {i : Nat} (h : i < xs.toArray.size) : xs.toArray[i] = xs[i]'(by simpa using h) := List.getElem_toArray h
theorem Qe {α : Type _} {a : α} {l : List α} {i : Nat} (h : i + 1 < (a :: l).length) : (a :: l)[i + 1] = l[i]'(Nat.lt_of_succ_lt_succ h) := List.getElem_cons_succ a l i h
theorem Qg {α : Sort _} (a : α) : ∃ b, b = a := ⟨a, rfl⟩
theorem Qf {α : Type _} {a : α} {l : List α} (h : 0 < (a :: l).length) : (a :: l)[0] = a := rfl
end
section
open Go Go.RowKit
/-- w is W and new blocks: what lay in W lies as it lay. -/
def Qa (W w : World) : Prop := Below W.heap.size W w
namespace Qa
theorem refl (W : World) : Qa W W := Below.refl _ _
theorem trans {a b c : World} (h : Qa a b) (k : Qa b c) : Qa a c := Below.trans h (Below.mono k (Below.size h))
theorem alloc {W w : World} (h : Qa W w) (o : Obj) : Qa W (w.alloc o) := Below.alloc h (Below.size h) o
theorem drew {W w : World} (h : Qa W w) : Qa W w.drew := Below.drew h
theorem size {W w : World} (h : Qa W w) : W.heap.size ≤ w.heap.size := Below.size h
theorem setCell {W w : World} (h : Qa W w) {p : Addr} (hp : W.heap.size ≤ p.block) (u : Value) : Qa W (w.setCell p u) := Below.setCell h hp u
theorem grown {W w w' : World} {row : Option Nat} (h : Qa W w) (hg : w.grownBy w' row) (hr : ∀ k, row = some k → W.heap.size ≤ k) : Qa W w' := Below.grown h hg (Below.size h) hr
theorem below {W w : World} (h : Qa W w) : Below W.heap.size W w := h
theorem cell {W w : World} (h : Qa W w) {p : Addr} (hp : p.block < W.heap.size) : w.cell? p = W.cell? p := Below.cell h hp
theorem block {W w : World} (h : Qa W w) {k : Nat} (hk : k < W.heap.size) : w.heap[k]? = W.heap[k]? := Below.block h k hk
/-- The rules that the walk uses. -/
theorem rules {W w : World} (h : Qa W w) : (∀ b o, b < W.heap.size → w.cell? ⟨b, o, none⟩ = W.cell? ⟨b, o, none⟩) ∧ (∀ b o, b < W.heap.size → w.frozen? ⟨b, o, none⟩ = W.frozen? ⟨b, o, none⟩) ∧ W.heap.size ≤ w.heap.size :=
 ⟨fun b o hb => Below.cell h (p := ⟨b, o, none⟩) hb, fun b o hb => Below.frozen h (p := ⟨b, o, none⟩) hb, Below.size h⟩
end Qa
section
variable {P : Program} {ops : Array Oper} {C : World → Prop} {Q : Act → Prop} {a : Act} {o : Oper} {rest : List Oper}
end
/-! ### A quicker check that the Vf of the text serves every Vf -/
def Ou (ops : Array Oper) (k j : Nat) : Bool :=
 match ops[k]?, ops[j]? with
 | some ok, some oj => oj.after.any (fun e => Region.binds .any e && e.on == k) || ok.apart ops oj
 | _, _ => true
def Ov (ops : Array Oper) (k : Nat) : Bool :=
 match ops[k]? with
 | some ok => ok.after.all (fun e => !Region.binds .any e || decide (e.on < k))
 | none => true
def Lw (ops : Array Oper) : Bool :=
 Region.noSelect ops && (List.range ops.size).all fun j => Ov ops j && (List.range j).all fun k => Ou ops k j
theorem Mh {n k i : Nat} {L : Array Bool} (hL : L.size = n ∧ ∀ i, i < n → L[i]? = some (decide (i < k))) (hi : i < n) (d : Bool) : L.getD i d = decide (i < k) := by
 simp [Array.getD_eq_getD_getElem?, hL.2 i hi]
theorem S8 {ops : Array Oper} (h : ∀ j, j < ops.size → Ov ops j = true ∧ ∀ k, k < j → Ou ops k j = true) : ∀ (m k : Nat) (L : Array Bool), k + m = ops.size →
  (L.size = ops.size ∧ ∀ i, i < ops.size → L[i]? = some (decide (i < k))) → Region.lexFrom .any ops m k L = true
 | 0, k, L, hk, hL => by
  simp only [Region.lexFrom, List.isEmpty_iff]
  apply List.eq_nil_iff_forall_not_mem.2
  intro i hi
  rw [mem_ready] at hi
  obtain ⟨h0, o, ho, _⟩ := hi
  have hlt : i < ops.size := (Array.getElem?_eq_some_iff.1 ho).1
  rw [Mh hL hlt] at h0
  simp at h0; omega
 | m + 1, k, L, hk, hL => by
  have hkn : k < ops.size := by omega
  simp only [Region.lexFrom, Bool.and_eq_true]
  refine ⟨⟨?_, ?_⟩, ?_⟩
  ·rw [List.contains_iff_mem, mem_ready]
   have hok : ops[k]? = some ops[k] := Array.getElem?_eq_getElem hkn
   refine ⟨by rw [Mh hL hkn]; simp, _, hok, fun e he hb => ?_⟩
   have hr := (h k hkn).1
   simp only [Ov, hok] at hr
   have := Array.all_eq_true_iff_forall_mem.1 hr e he
   simp only [hb, Bool.not_true, Bool.false_or, decide_eq_true_eq] at this
   rw [Mh hL (by omega)]; simpa using this
  ·have hok : ops[k]? = some ops[k] := Array.getElem?_eq_getElem hkn
   simp only [Region.free, hok, List.all_eq_true, List.mem_range]
   intro j hj
   by_cases hjk : j = k
   ·simp [hjk]
   ·by_cases hlt : j < k
    ·have := Mh hL hj true
     simp only [hlt, decide_true] at this
     simp [this]
    ·have hp := (h j hj).2 k (by omega)
     have hoj : ops[j]? = some ops[j] := Array.getElem?_eq_getElem hj
     simp only [Ou, hok, hoj] at hp
     simp only [hoj]
     rw [Bool.or_eq_true]
     exact .inr hp
  ·refine S8 h m (k + 1) _ (by omega) ⟨by simp [hL.1], fun i hi => ?_⟩
   rw [Array.getElem?_setIfInBounds]
   by_cases hki : k = i
   ·subst hki; simp [hL.1, hi]
   ·rw [if_neg hki, hL.2 i hi]
    congr 1; simp; omega
theorem S7 {ops : Array Oper} (h : Lw ops = true) : Region.lexB .any ops = true := by
 simp only [Lw, Bool.and_eq_true, List.all_eq_true, List.mem_range] at h
 simp only [Region.lexB, Bool.and_eq_true]
 refine ⟨h.1, S8 (fun j hj => ⟨(h.2 j hj).1, fun k hk => (h.2 j hj).2 k hk⟩) _ 0 _ (by simp) ⟨by simp, fun i hi => ?_⟩⟩
 simp [hi]
/-- A world that is W and new blocks. -/
structure XW (W : World) where
 w : World
 e : Qa W w
theorem XW.some (W : World) : Nonempty (XW W) := ⟨⟨W, Qa.refl W⟩⟩
theorem XW.cell {W : World} (u : XW W) (b o : Nat) (h : b < W.heap.size) : u.w.cell? ⟨b, o, none⟩ = W.cell? ⟨b, o, none⟩ := u.e.cell (p := ⟨b, o, none⟩) h
theorem XW.from {W w : World} (u : XW W) (h : Qa w W) (b o : Nat) (hb : b < w.heap.size) : u.w.cell? ⟨b, o, none⟩ = w.cell? ⟨b, o, none⟩ := (h.trans u.e).cell (p := ⟨b, o, none⟩) hb
/-- A region that draws its Vf: one walk in the Vf of the text, each operation in whatever world is w and new blocks. -/
theorem Zr {P : Program} {id : Nat} {Q : Exit → Act → World → Prop} {a : Act} {w : World} {l : List Oper} (w₀ : World) (hm : P.follows .mixedOrders = true) (hB : Lw l.toArray = true) (he : Qa w₀ w)
  (h : Nonempty (XW w) → (∀ (u : XW w) b o, b < w.heap.size → u.w.cell? ⟨b, o, none⟩ = w.cell? ⟨b, o, none⟩) → (∀ (u : XW w) b o, b < w₀.heap.size → u.w.cell? ⟨b, o, none⟩ = w₀.cell? ⟨b, o, none⟩) →
   wpQuiet P l.toArray (fun w' => ∃ u : XW w, w' = u.w) (fun a' => ∀ w', Qa w w' → Q .normal a' w') l a) : (Code.region id l.toArray true).wp P Q a w := by
 refine wp_region_quiet (C := fun w' => ∃ u : XW w, w' = u.w) hm (S7 hB) ⟨⟨{ w with drawn := w.drawn + 1 }, ⟨rfl, rfl, rfl, Nat.le_refl _, fun _ _ => rfl⟩⟩, rfl⟩ ?_
 have e : (fun a' => ∀ w', (∃ u : XW w, w' = u.w) → Q .normal a' w') = (fun a' => ∀ w', Qa w w' → Q .normal a' w') := by
  funext a'
  exact propext ⟨fun h w' he => h w' ⟨⟨w', he⟩, rfl⟩, fun h w' ⟨u, hu⟩ => by subst hu; exact h _ u.e⟩
 rw [e]
 simpa using h (XW.some w) (fun u => u.cell) (fun u => u.from he)
/-- A callee's contract, met in such a world. -/
theorem XW.back {W : World} (u : XW W) {w' : World} (h : Qa u.w w') : ∃ v : XW W, w' = v.w := ⟨⟨w', u.e.trans h⟩, rfl⟩
/-- The same for a region that draws nothing. -/
theorem Fh {P : Program} {ops : Array Oper} {C : World → Prop} {Q : Exit → Act → World → Prop} {Q' : Act → Prop} (hQ : ∀ a w, C w → Q' a → Q .normal a w) :
  ∀ (l : List Oper) (a : Act) (w : World), C w → wpQuiet P ops C Q' l a → wpList P ops Q l a w
 | [], a, w, hw, h => hQ a w hw h
 | o :: l, a, w, hw, h => by
  unfold wpQuiet at h
  unfold wpList
  split
  ·rename_i hc
   rw [if_pos hc] at h
   exact .inl (Oper.wp_of_quiet hw (fun a' w' hw' h' => Fh hQ l a' w' hw' h') h)
  ·rename_i hc
   rw [if_neg hc] at h
   exact Fh hQ l _ w hw h
theorem Uu {P : Program} {id : Nat} {Q : Exit → Act → World → Prop} {a : Act} {w : World} {l : List Oper} (w₀ : World) (he : Qa w₀ w)
  (h : Nonempty (XW w) → (∀ (u : XW w) b o, b < w.heap.size → u.w.cell? ⟨b, o, none⟩ = w.cell? ⟨b, o, none⟩) → (∀ (u : XW w) b o, b < w₀.heap.size → u.w.cell? ⟨b, o, none⟩ = w₀.cell? ⟨b, o, none⟩) →
   wpQuiet P l.toArray (fun w' => ∃ u : XW w, w' = u.w) (fun a' => ∀ w', Qa w w' → Q .normal a' w') l a) : (Code.region id l.toArray false).wp P Q a w :=
 wp_region_lit (Fh (C := fun w' => ∃ u : XW w, w' = u.w) (Q' := fun a' => ∀ w', Qa w w' → Q .normal a' w') (fun _ w' ⟨u, hu⟩ h => h w' (hu ▸ u.e)) l a w ⟨⟨w, Qa.refl w⟩, rfl⟩
  (h (XW.some w) (fun u => u.cell) (fun u => u.from he)))
/-! ### Guards that stay open -/
/-- A slot that was written under the guard b. -/
def gv (b : Bool) (v : Value) : Value := if b then v else undef
theorem Zi {b : Bool} {v : Value} (h : b = true) : gv b v = v := by rw [h]; rfl
section
variable {P : Program} {ops : Array Oper} {W : World} {Q : Act → Prop} {a : Act} {rest : List Oper} {d : Option Tmp} {op : Op} {ty : TypeId} {pos : String} {after : Array Edge} {gd : Option (Nat × Bool)}
/-- What follows, asked as of a 'move' of the value that is known: so that the frame is written out cheaply. -/
def Q3 (P : Program) (W : World) (d : Option Tmp) (v : Value) (a : Act) (K : Act → Prop) : Prop := Oper.quiet P ⟨d, .move (.const v), 0, "", #[], none⟩ a (fun w' => ∃ u : XW W, w' = u.w) K
theorem Q3.out {v : Value} {K : Act → Prop} (h : Q3 P W d v a K) : K (a.put d v) := by
 obtain ⟨v', h1, h2⟩ := h
 have h3 := h1 W ⟨⟨W, Qa.refl W⟩, rfl⟩
 unfold Oper.quietAt at h3
 rw [BigFrame.run_move (.const v) rfl] at h3
 obtain ⟨_, rfl⟩ := h3
 exact h2
theorem Xh {b : Bool} (hw : Region.wanted ⟨d, op, ty, pos, after, gd⟩ (yielded ops a.tmps) = b)
  (hg : ∃ v, (b = true → ∀ u : XW W, Oper.quietAt P ⟨d, op, ty, pos, after, gd⟩ a (fun w' => ∃ u : XW W, w' = u.w) u.w v) ∧
   (∀ K : Act → Prop, (∀ a, wpQuiet P ops (fun w' => ∃ u : XW W, w' = u.w) Q rest a → K a) → Q3 P W d (gv b v) a K)) :
  wpQuiet P ops (fun w' => ∃ u : XW W, w' = u.w) Q (⟨d, op, ty, pos, after, gd⟩ :: rest) a := by
 obtain ⟨v, h1, h2⟩ := hg
 have h3 := (h2 _ (fun _ h => h)).out
 unfold wpQuiet
 cases b
 ·rw [if_neg (by simp [hw])]; exact h3
 ·rw [if_pos hw]; exact ⟨v, fun w ⟨u, hu⟩ => by subst hu; exact h1 rfl u, h3⟩
theorem Nb {o : Oper} {c x y : Operand} {w : World} {b : Bool} (ho : o.op = .pick c x y) (h1 : a.eval c = .bool b) : (execOp a.eval o).run P w = .ok (.value (if b then a.eval x else a.eval y)) w := by
 simp only [execOp, ho, h1]; cases b <;> rfl
theorem D3 {v : Value} (hw : Region.wanted ⟨d, op, ty, pos, after, gd⟩ (yielded ops a.tmps) = true) (hv : ∀ w, (execOp a.eval ⟨d, op, ty, pos, after, gd⟩).run P w = .ok (.value v) w)
  (hK : ∀ K : Act → Prop, (∀ a, wpQuiet P ops (fun w' => ∃ u : XW W, w' = u.w) Q rest a → K a) → Q3 P W d v a K) : wpQuiet P ops (fun w' => ∃ u : XW W, w' = u.w) Q (⟨d, op, ty, pos, after, gd⟩ :: rest) a := by
 unfold wpQuiet
 rw [if_pos hw]
 exact ⟨v, fun w _ => by unfold Oper.quietAt; rw [hv w]; exact ⟨rfl, rfl⟩, (hK _ (fun _ h => h)).out⟩
theorem X8 {c x y : Operand} {b z : Bool} (h1 : a.eval c = .bool b) (h2 : a.eval x = gv b (.bool z)) (h3 : a.eval y = .bool false)
  (hK : ∀ K : Act → Prop, (∀ a, wpQuiet P ops (fun w' => ∃ u : XW W, w' = u.w) Q rest a → K a) → Q3 P W d (.bool (b && z)) a K) :
  wpQuiet P ops (fun w' => ∃ u : XW W, w' = u.w) Q (⟨d, .pick c x y, ty, pos, after, none⟩ :: rest) a :=
 D3 rfl (fun w => by rw [Nb rfl h1, h2, h3]; cases b <;> rfl) hK
theorem Wb {c x y : Operand} {b z : Bool} (h1 : a.eval c = .bool b) (h2 : a.eval x = .bool true) (h3 : a.eval y = gv (!b) (.bool z))
  (hK : ∀ K : Act → Prop, (∀ a, wpQuiet P ops (fun w' => ∃ u : XW W, w' = u.w) Q rest a → K a) → Q3 P W d (.bool (b || z)) a K) :
  wpQuiet P ops (fun w' => ∃ u : XW W, w' = u.w) Q (⟨d, .pick c x y, ty, pos, after, none⟩ :: rest) a :=
 D3 rfl (fun w => by rw [Nb rfl h1, h2, h3]; cases b <;> rfl) hK
theorem X9 {c x y : Operand} {g b z : Bool} (hw : Region.wanted ⟨d, .pick c x y, ty, pos, after, gd⟩ (yielded ops a.tmps) = g) (h1 : a.eval c = gv g (.bool b)) (h2 : a.eval x = gv (g && b) (.bool z)) (h3 : a.eval y = .bool false)
  (hK : ∀ K : Act → Prop, (∀ a, wpQuiet P ops (fun w' => ∃ u : XW W, w' = u.w) Q rest a → K a) → Q3 P W d (gv g (.bool (b && z))) a K) :
  wpQuiet P ops (fun w' => ∃ u : XW W, w' = u.w) Q (⟨d, .pick c x y, ty, pos, after, gd⟩ :: rest) a := by
 refine Xh hw ⟨.bool (b && z), fun hg u => ?_, hK⟩
 subst hg
 unfold Oper.quietAt
 rw [Nb rfl h1, h2, h3]; cases b <;> exact ⟨rfl, rfl⟩
theorem Wc {c x y : Operand} {g b z : Bool} (hw : Region.wanted ⟨d, .pick c x y, ty, pos, after, gd⟩ (yielded ops a.tmps) = g) (h1 : a.eval c = gv g (.bool b)) (h2 : a.eval x = .bool true) (h3 : a.eval y = gv (g && !b) (.bool z))
  (hK : ∀ K : Act → Prop, (∀ a, wpQuiet P ops (fun w' => ∃ u : XW W, w' = u.w) Q rest a → K a) → Q3 P W d (gv g (.bool (b || z))) a K) :
  wpQuiet P ops (fun w' => ∃ u : XW W, w' = u.w) Q (⟨d, .pick c x y, ty, pos, after, gd⟩ :: rest) a := by
 refine Xh hw ⟨.bool (b || z), fun hg u => ?_, hK⟩
 subst hg
 unfold Oper.quietAt
 rw [Nb rfl h1, h2, h3]; cases b <;> exact ⟨rfl, rfl⟩
variable {o : Oper} {j t : Nat} {x g : Bool}
theorem Z7 (hg : o.guard = some (j, true)) (hd : (ops[j]?).bind (·.dst) = some t) (hv : a.tmps[t]? = some (.bool x)) : Region.wanted o (yielded ops a.tmps) = x := by
 simp only [Region.wanted, hg, yielded, hd, Option.bind_some, hv]; cases x <;> rfl
theorem Z6 (hg : o.guard = some (j, false)) (hd : (ops[j]?).bind (·.dst) = some t) (hv : a.tmps[t]? = some (.bool x)) : Region.wanted o (yielded ops a.tmps) = !x := by
 simp only [Region.wanted, hg, yielded, hd, Option.bind_some, hv]; cases x <;> rfl
theorem Z5 (hg : o.guard = some (j, true)) (hd : (ops[j]?).bind (·.dst) = some t) (hv : a.tmps[t]? = some (gv g (.bool x))) : Region.wanted o (yielded ops a.tmps) = (g && x) := by
 simp only [Region.wanted, hg, yielded, hd, Option.bind_some, hv]; cases g <;> cases x <;> rfl
theorem Z4 (hg : o.guard = some (j, false)) (hd : (ops[j]?).bind (·.dst) = some t) (hv : a.tmps[t]? = some (gv g (.bool x))) : Region.wanted o (yielded ops a.tmps) = (g && !x) := by
 simp only [Region.wanted, hg, yielded, hd, Option.bind_some, hv]; cases g <;> cases x <;> rfl
end
/-! ### Slices that read as lists -/
/-- The slice value '.slice A n _' reads in w as n elements of sz cells: element i's cell j is (f i)[j]. -/
def Qo (w : World) (A : Option Addr) (n sz : Nat) (f : Nat → List Value) : Prop :=
 0 < n → ∃ b off, A = some ⟨b, off, none⟩ ∧ b < w.heap.size ∧ ∀ i j v, i < n → (f i)[j]? = some v → w.cell? ⟨b, off + i * sz + j, none⟩ = some v
theorem Qo.ext {w w' : World} {A : Option Addr} {n sz : Nat} {f : Nat → List Value} (h : Qo w A n sz f) (e : Qa w w') : Qo w' A n sz f := fun hn => by
 obtain ⟨b, off, hA, hb, hc⟩ := h hn
 exact ⟨b, off, hA, Nat.lt_of_lt_of_le hb e.size, fun i j v hi hv => (e.cell (p := ⟨b, _, none⟩) hb).trans (hc i j v hi hv)⟩
theorem Qo.nil {w : World} {A : Option Addr} {sz : Nat} {f : Nat → List Value} : Qo w A 0 sz f := fun h => absurd h (by omega)
theorem Qo.take {w : World} {A : Option Addr} {n m sz : Nat} {f : Nat → List Value} (h : Qo w A n sz f) (hm : m ≤ n) : Qo w A m sz f := fun h0 => by
 obtain ⟨b, off, hA, hb, hc⟩ := h (by omega)
 exact ⟨b, off, hA, hb, fun i j v hi hv => hc i j v (by omega) hv⟩
theorem Qo.congr {w : World} {A : Option Addr} {n sz : Nat} {f g : Nat → List Value} (h : Qo w A n sz f) (hg : ∀ i, i < n → f i = g i) : Qo w A n sz g := fun h0 => by
 obtain ⟨b, off, hA, hb, hc⟩ := h h0
 exact ⟨b, off, hA, hb, fun i j v hi hv => hc i j v hi (by rw [hg i hi]; exact hv)⟩
/-! ### What a call hands back -/
theorem J1 {a b : Bool} (h : a = b) : Ending.returned (.bool a) = .returned (.bool b) := by rw [h]
theorem Wx {k : IntKind} {a b : Int} (h : a = b) : Ending.returned (.int k a) = .returned (.int k b) := by rw [h]
end
section
/-! ### Names -/
def Wt (c : UInt8) : Bool := decide (97 ≤ c.toNat) && decide (c.toNat ≤ 122)
def digB (c : UInt8) : Bool := decide (48 ≤ c.toNat) && decide (c.toNat ≤ 57)
def Um (c : UInt8) : Bool := Wt c || digB c || decide (c.toNat = 95)
def Uf (s : ByteArray) : Bool := s.data.toList.all Um
def Zw (s : ByteArray) : Bool := decide (1 ≤ s.size) && decide (s.size ≤ 16) && Wt (s.data.toList.headD 0) && Uf s
/-! ### Data -/
structure Yr where
 k : Int
 nm : ByteArray
 lg : Int
 db : Int
/-- nk kings kg 0 .., ny years yr 0 .. -/
structure Qc where
 nk : Nat
 kg : Nat → ByteArray
 ny : Nat
 yr : Nat → Yr
structure Dt where
 y : Int
 m : Int
 s : Bool
 d : Int
 deriving DecidableEq
structure Tr where
 d : Int
 more : Bool
 m : Int
 s : Bool
 nm : ByteArray
 af : Int
 kg : ByteArray
structure Sp where
 a : Int
 b : Int
 deriving DecidableEq
/-- A month of a calendar and the number of its first day. -/
structure It where
 y : Nat
 n : Int
 s : Bool
 first : Int
/-! ### Validity -/
def Yr.alike (x y : Yr) : Bool := decide (x.k = y.k) && decide (x.nm = y.nm)
def Qc.hadTo (c : Qc) (y : Yr) (i : Nat) : Bool := (List.range i).any fun j => (c.yr j).alike y
def Qc.prevK (c : Qc) : Nat → Int
 | 0 => 0
 | i + 1 => (c.yr i).k
def Yr.shapeOk (y : Yr) : Bool := decide (0 ≤ y.db ∧ y.db ≤ 12 ∧ 0 ≤ y.lg ∧ y.lg ≤ 8191 ∧ ¬ (y.db = 0 ∧ 4096 ≤ y.lg))
def Qc.yearOk (c : Qc) (i : Nat) : Bool :=
 decide (c.prevK i ≤ (c.yr i).k) && decide ((c.yr i).k < c.nk) && Zw (c.yr i).nm && !c.hadTo (c.yr i) i && (c.yr i).shapeOk
def Qc.kingOk (c : Qc) (i : Nat) : Bool := Zw (c.kg i) && (List.range i).all fun j => decide (c.kg j ≠ c.kg i)
def Qc.kingsOk (c : Qc) : Bool := decide (1 ≤ c.nk) && decide (c.nk ≤ 40) && (List.range c.nk).all c.kingOk
def Qc.valid (c : Qc) : Bool := c.kingsOk && decide (1 ≤ c.ny) && decide (c.ny ≤ 400) && (List.range c.ny).all c.yearOk
/-! ### Months and days -/
def N9 (lg : Int) (b : Nat) : Bool := decide (lg / 2 ^ b % 2 = 1)
def Xr (lg : Int) (b : Nat) : Int := if N9 lg b then 30 else 29
def Yr.len (y : Yr) (n : Int) (s : Bool) : Int := Xr y.lg (if s then 12 else n.toNat - 1)
/-- The months 1 to k of a year. -/
def Yr.moTo (y : Yr) : Nat → List (Int × Bool)
 | 0 => []
 | k + 1 => y.moTo k ++ (((k : Int) + 1, false) :: (if y.db = (k : Int) + 1 then [((k : Int) + 1, true)] else []))
def Yr.mos (y : Yr) : List (Int × Bool) := y.moTo 12
def Yr.lens (y : Yr) : List (Int × Bool) → Int
 | [] => 0
 | p :: l => y.len p.1 p.2 + y.lens l
def Yr.days (y : Yr) : Int := y.lens y.mos
def Jj (i : Nat) (y : Yr) : Int → List (Int × Bool) → List It
 | _, [] => []
 | day, p :: l => ⟨i, p.1, p.2, day⟩ :: Jj i y (day + y.len p.1 p.2) l
/-- The number of the first day of year i. -/
def Qc.dayAt (c : Qc) : Nat → Int
 | 0 => 1
 | i + 1 => c.dayAt i + (c.yr i).days
def Qc.itemsTo (c : Qc) : Nat → List It
 | 0 => []
 | i + 1 => c.itemsTo i ++ Jj i (c.yr i) (c.dayAt i) (c.yr i).mos
def Qc.items (c : Qc) : List It := c.itemsTo c.ny
def Qc.all (c : Qc) : Int := c.dayAt c.ny - 1
def Qc.yrI (c : Qc) (y : Int) : Yr := c.yr y.toNat
/-- Is a date in the calendar? -/
def Qc.has (c : Qc) (d : Dt) : Bool :=
 decide (0 ≤ d.y ∧ d.y < c.ny) && decide (1 ≤ d.m ∧ d.m ≤ 12) && (!d.s || decide ((c.yrI d.y).db = d.m)) && decide (1 ≤ d.d ∧ d.d ≤ (c.yrI d.y).len d.m d.s)
def It.of (x : It) (d : Dt) : Bool := decide ((x.y : Int) = d.y) && decide (x.n = d.m) && (x.s == d.s)
/-- The number of a day, and of its month; k months lie before l. -/
def Jy (d : Dt) : List It → Int → Int × Int
 | [], _ => (0, 0)
 | x :: l, k => if x.of d then (x.first + d.d - 1, k + 1) else Jy d l (k + 1)
def Qc.num (c : Qc) (d : Dt) : Int × Int := Jy d c.items 0
def It.len (c : Qc) (x : It) : Int := (c.yr x.y).len x.n x.s
/-- The date of a day. -/
def Qc.atFrom (c : Qc) (n : Int) : List It → Option Dt
 | [] => none
 | x :: l => if x.first ≤ n ∧ n - x.first < x.len c then some ⟨x.y, x.n, x.s, n - x.first + 1⟩ else c.atFrom n l
def Qc.at? (c : Qc) (n : Int) : Option Dt := c.atFrom n c.items
/-! ### Results -/
def Y2 : Dt := ⟨0, 0, false, 0⟩
def Qc.chk (c : Qc) : Int := if c.valid then 0 else 70
def Qc.inE (c : Qc) (d : Dt) : Int := if c.valid then (if c.has d then 0 else 71) else 70
def Qc.in2E (c : Qc) (a b : Dt) : Int := if c.valid then (if c.has a && c.has b then 0 else 71) else 70
def Qc.numV (c : Qc) (d : Dt) : Int := if c.inE d = 0 then (c.num d).1 else 0
def Qc.atE (c : Qc) (n : Int) : Int := if c.valid then (if (c.at? n).isSome then 0 else 8) else 70
def Qc.atV (c : Qc) (n : Int) : Dt := if c.valid then (c.at? n).getD Y2 else Y2
def Qc.schV (c : Qc) (a b : Dt) : Int := if c.in2E a b = 0 then 30 * ((c.num b).2 - (c.num a).2) + b.d - a.d else 0
def Qc.addE (c : Qc) (d : Dt) (n : Int) : Int := if c.inE d = 0 then (if (c.at? ((c.num d).1 + n)).isSome then 0 else 8) else c.inE d
def Qc.addV (c : Qc) (d : Dt) (n : Int) : Dt := if c.inE d = 0 then (c.at? ((c.num d).1 + n)).getD Y2 else Y2
/-! ### Traces -/
def Ks (s : ByteArray) : Bool := s.data.toList.isEmpty
def Tr.ok (t : Tr) : Bool :=
 decide (0 ≤ t.d) && decide (t.d ≤ 30) && (!t.more || decide (0 < t.d)) && decide (0 ≤ t.m) && decide (t.m ≤ 12) && (!t.s || decide (0 < t.m)) && (Ks t.nm || Zw t.nm) && decide (0 ≤ t.af) && decide (t.af ≤ 3) &&
  (!Ks t.nm || decide (t.af = 0)) && (Ks t.kg || Zw t.kg)
def Qc.yearFits (c : Qc) (t : Tr) (y : Int) : Bool :=
 (Ks t.nm || (decide (t.af ≤ y) && decide ((c.yrI (y - t.af)).nm = t.nm))) && (Ks t.kg || decide (c.kg (c.yrI y).k.toNat = t.kg))
def Qc.inMonth (c : Qc) (t : Tr) (y n : Int) (s : Bool) : Bool := (decide (t.m = 0) || (decide (t.m = n) && (t.s == s))) && c.yearFits t y
def Tr.onDay (t : Tr) (day : Int) : Bool := decide (t.d = 0) || decide (day = t.d) || (t.more && decide (t.d < day))
def Qc.fits (c : Qc) (t : Tr) (d : Dt) : Bool := c.inMonth t d.y d.m d.s && t.onDay d.d
/-- One more day that fits. -/
def Fm (out : List Sp) (n : Int) : List Sp :=
 match out.getLast? with
 | some l => if l.b = n - 1 then out.dropLast ++ [⟨l.a, n⟩] else out ++ [⟨n, n⟩]
 | none => [⟨n, n⟩]
end
section
open Go Go.RowKit
def Yr.cells (y : Yr) : List Value := [.int .i64 y.k, .string y.nm, .int .i64 y.lg, .int .i64 y.db]
def Sp.cells (s : Sp) : List Value := [.int .i64 s.a, .int .i64 s.b]
def Tr.cells (t : Tr) : List Value := [.int .i64 t.d, .bool t.more, .int .i64 t.m, .bool t.s, .string t.nm, .int .i64 t.af, .string t.kg]
/-- The calendar c lies in w: its kings at A, its years at A'. -/
structure Q8 (w : World) (A : Option Addr) (ca : Nat) (A' : Option Addr) (cb : Nat) (c : Qc) : Prop where
 kings : Qo w A c.nk 1 (fun i => [.string (c.kg i)])
 years : Qo w A' c.ny 4 (fun i => (c.yr i).cells)
 nk_le : c.nk ≤ 9223372036854775807
 ny_le : c.ny ≤ 9223372036854775807
 nk_cap : c.nk ≤ ca
 ny_cap : c.ny ≤ cb
theorem Q8.ext {w w' : World} {A A' : Option Addr} {ca cb : Nat} {c : Qc} (h : Q8 w A ca A' cb c) (e : Qa w w') : Q8 w' A ca A' cb c := ⟨h.kings.ext e, h.years.ext e, h.nk_le, h.ny_le, h.nk_cap, h.ny_cap⟩
theorem Q8.alloc {w : World} {A A' : Option Addr} {ca cb : Nat} {c : Qc} (h : Q8 w A ca A' cb c) (o : Obj) : Q8 (w.alloc o) A ca A' cb c := h.ext ((Qa.refl w).alloc o)
theorem Q8.year {w : World} {A A' : Option Addr} {ca cb : Nat} {c : Qc} (h : Q8 w A ca A' cb c) {i : Nat} (hi : i < c.ny) :
  ∃ b off, A' = some ⟨b, off, none⟩ ∧ b < w.heap.size ∧ w.cell? ⟨b, off + i * 4, none⟩ = some (.int .i64 (c.yr i).k) ∧ w.cell? ⟨b, off + i * 4 + 1, none⟩ = some (.string (c.yr i).nm) ∧
   w.cell? ⟨b, off + i * 4 + 2, none⟩ = some (.int .i64 (c.yr i).lg) ∧ w.cell? ⟨b, off + i * 4 + 3, none⟩ = some (.int .i64 (c.yr i).db) := by
 obtain ⟨b, off, hA, hb, hc⟩ := h.years (by omega)
 exact ⟨b, off, hA, hb, by simpa using hc i 0 _ hi rfl, hc i 1 _ hi rfl, hc i 2 _ hi rfl, hc i 3 _ hi rfl⟩
/-- The same at an index that is an int. -/
theorem Q8.yearI {w : World} {A A' : Option Addr} {ca cb : Nat} {c : Qc} (h : Q8 w A ca A' cb c) {y : Int} (h0 : 0 ≤ y) (h1 : y < c.ny) :
  ∃ b off, A' = some ⟨b, off, none⟩ ∧ b < w.heap.size ∧ w.cell? ⟨b, off + y.toNat * 4, none⟩ = some (.int .i64 (c.yrI y).k) ∧ w.cell? ⟨b, off + y.toNat * 4 + 1, none⟩ = some (.string (c.yrI y).nm) ∧
   w.cell? ⟨b, off + y.toNat * 4 + 2, none⟩ = some (.int .i64 (c.yrI y).lg) ∧ w.cell? ⟨b, off + y.toNat * 4 + 3, none⟩ = some (.int .i64 (c.yrI y).db) := h.year (by omega)
set_option maxRecDepth 100000
end
section
open Go Go.ChangeShapes Go.WideShapes Go.ChangeAt Go.RowKit Go.Deep
theorem Gb : ownKnob Tryd.prog.godebug = none := by kernel_rfl
theorem Qby : Kids Tryd.prog (· < Tryd.prog.types.size) := kids_rows (by kernel_rfl) (by kernel_rfl)
theorem Qaw : ∀ t e, t < Tryd.prog.types.size → Tryd.prog.underlying t = some (.slice e) → 0 < Tryd.prog.cellsOf e := slices_full_of Tryd.prog (by kernel_rfl)
theorem We : Tryd.prog.cellsOf 3 = 1 := by kernel_rfl
theorem Rj : Tryd.prog.cellsOf 4 = 1 := by kernel_rfl
theorem Kp : Tryd.prog.cellsOf 9 = 1 := by kernel_rfl
theorem Ro : Tryd.prog.cellsOf 57 = 4 := by kernel_rfl
theorem Lp : Tryd.prog.cellsOf 27 = 4 := by kernel_rfl
theorem Eo : Tryd.prog.cellsOf 25 = 2 := by kernel_rfl
section
variable {H : Type} {enc : TypeId × Value → H} {w W W' : World} {base : Nat} {spare : Nat → Bool} {held : Bool}
theorem Yb {P : Program} {m k : Nat} {t : TypeId} {cs : List Value} {o : Nat} {xs : List (DataW H × List MemPlace)} {n i : Nat} (hxl : xs.length = k) (hi : i < k) (h : DataW.trod enc P w base spare held m t ((cs.drop o).take (P.cellsOf t)) = xs[i]?) (hn : P.cellsOf t = n) :
  ∃ y, DataW.trod enc P w base spare held m t ((cs.drop o).take n) = some y := by
 rw [hn] at h
 rw [List.getElem?_eq_getElem (by omega)] at h
 exact ⟨_, h⟩
theorem Uk {m : Nat} {v : Value} (h : ∃ y, DataW.trod enc Tryd.prog w base spare held m 3 [v] = some y) : ∃ z : Int, v = .int .i64 z ∧ -9223372036854775808 ≤ z ∧ z ≤ 9223372036854775807 := by
 obtain ⟨y, h⟩ := h
 obtain ⟨z, h1, _, h2⟩ := DataW.trod_int Tryd.underlying3 h
 have e1 : IntKind.i64.min = -9223372036854775808 := rfl
 have e2 : IntKind.i64.max = 9223372036854775807 := rfl
 simp only [Lit.wf, Bool.and_eq_true, decide_eq_true_eq] at h2
 exact ⟨z, by simpa using h1, by omega, by omega⟩
theorem Rb {m : Nat} {v : Value} (h : ∃ y, DataW.trod enc Tryd.prog w base spare held m 4 [v] = some y) : ∃ z : Bool, v = .bool z := by
 obtain ⟨y, h⟩ := h
 obtain ⟨z, h1, _⟩ := DataW.trod_bool Tryd.underlying4 h
 exact ⟨z, by simpa using h1⟩
theorem Ng {m : Nat} {v : Value} (h : ∃ y, DataW.trod enc Tryd.prog w base spare held m 9 [v] = some y) : ∃ z : ByteArray, v = .string z ∧ z.size ≤ maxLen := by
 obtain ⟨y, h⟩ := h
 obtain ⟨z, h1, _, h2⟩ := DataW.trod_string Tryd.underlying9 h
 exact ⟨z, by simpa using h1, h2⟩
theorem Qff {n : Nat} {cs : List Value} {x : DataW H × List MemPlace} (h : DataW.trod enc Tryd.prog w base spare held n 57 cs = some x) : ∃ y : Yr, cs = y.cells ∧ True := by
 obtain ⟨xs, m, _, _, hlen, hxl, hf⟩ := DataW.trod_struct Tryd.underlying57 h
 rw [Ro] at hlen
 match cs, hlen with
 | [a, b, c, d], _ =>
  obtain ⟨z0, rfl, _⟩ := Uk (Yb hxl (by decide) (hf 0 _ rfl) We)
  obtain ⟨z1, rfl, _⟩ := Ng (Yb hxl (by decide) (hf 1 _ rfl) Kp)
  obtain ⟨z2, rfl, _⟩ := Uk (Yb hxl (by decide) (hf 2 _ rfl) We)
  obtain ⟨z3, rfl, _⟩ := Uk (Yb hxl (by decide) (hf 3 _ rfl) We)
  exact ⟨⟨z0, z1, z2, z3⟩, rfl, trivial⟩
theorem Lu {n : Nat} {cs : List Value} {x : DataW H × List MemPlace} (h : DataW.trod enc Tryd.prog w base spare held n 27 cs = some x) : ∃ d : Dt, cs = [.int .i64 d.y, .int .i64 d.m, .bool d.s, .int .i64 d.d] := by
 obtain ⟨xs, m, _, _, hlen, hxl, hf⟩ := DataW.trod_struct Tryd.underlying27 h
 rw [Lp] at hlen
 match cs, hlen with
 | [a, b, c, d], _ =>
  obtain ⟨z0, rfl, _⟩ := Uk (Yb hxl (by decide) (hf 0 _ rfl) We)
  obtain ⟨z1, rfl, _⟩ := Uk (Yb hxl (by decide) (hf 1 _ rfl) We)
  obtain ⟨z2, rfl⟩ := Rb (Yb hxl (by decide) (hf 2 _ rfl) Rj)
  obtain ⟨z3, rfl, _⟩ := Uk (Yb hxl (by decide) (hf 3 _ rfl) We)
  exact ⟨⟨z0, z1, z2, z3⟩, rfl⟩
/-- A slice whose elements are each read as some α. -/
theorem Gu {P : Program} {α : Type} {t e : TypeId} {sz m : Nat} {v : Value} {f : α → List Value} {p : α → Prop} (d0 : α) (ht : P.underlying t = some (.slice e)) (hC : P.cellsOf e = sz) (hsz : 0 < sz) (hl : ∀ y, (f y).length = sz)
  (hone : ∀ n cs x, DataW.trod enc P w base spare held n e cs = some x → ∃ y, cs = f y ∧ p y) (h : ∃ y, DataW.trod enc P w base spare held m t [v] = some y) :
  ∃ (A : Option Addr) (n cap : Nat) (g : Nat → α), v = .slice A n cap ∧ Qo w A n sz (fun i => f (g i)) ∧ n ≤ cap ∧ cap ≤ maxLen ∧ ∀ i, i < n → p (g i) := by
 obtain ⟨x, h⟩ := h
 rcases open_slice ht h with ⟨hcs, _⟩ | ⟨a, len, cap, k, n, D, Pl, hcs, hb, hlc, hcm, hk, hx, hi⟩
 ·exact ⟨none, 0, 0, fun _ => d0, by simpa using hcs, Qo.nil, Nat.le_refl _, Nat.zero_le _, fun i hi => absurd hi (by omega)⟩
 ·have hlk : len ≤ k := by rw [hk]; split <;> omega
  have each : ∀ i, ∃ y : α, i < len → (p y ∧ ∀ j u, (f y)[j]? = some u → w.cell? (a.add (i * sz + j)) = some u) := fun i => by
   by_cases hil : i < len
   ·obtain ⟨cs', hc, htr⟩ := hi i (by omega)
    rw [hC] at hc
    obtain ⟨y, rfl, hp⟩ := hone _ _ _ htr
    obtain ⟨_, _, hat⟩ := World.cells?_some hc
    refine ⟨y, fun _ => ⟨hp, fun j u hu => ?_⟩⟩
    have hj : j < sz := by have := (List.getElem?_eq_some_iff.1 hu).1; rw [hl] at this; exact this
    rw [← Go.Deep.add_add, hat j hj, hu]
   ·exact ⟨d0, fun h => absurd h hil⟩
  obtain ⟨g, hg⟩ := Classical.axiomOfChoice each
  refine ⟨some a, len, cap, g, by simpa using hcs, fun hn => ?_, hlc, hcm, fun i hi => (hg i hi).1⟩
  obtain ⟨b, off, spot⟩ := a
  have h00 : ((f (g 0))[0]?).isSome := by rw [List.getElem?_eq_getElem (by rw [hl]; exact hsz)]; rfl
  obtain ⟨u, hu⟩ := Option.isSome_iff_exists.1 h00
  have hc0 := (hg 0 hn).2 0 u hu
  have hspot : spot = none := by simpa [Addr.add] using World.cell?_spot hc0
  subst hspot
  have hc0' : w.cell? ⟨b, off, none⟩ = some u := by simpa [add_plain] using hc0
  refine ⟨b, off, rfl, ?_, fun i j v hi hv => ?_⟩
  ·rcases Nat.lt_or_ge b w.heap.size with h1 | h1
   ·exact h1
   ·simp [World.cell?, Array.getElem?_eq_none h1] at hc0'
  ·have := (hg i hi).2 j v hv
   rw [add_plain, ← Nat.add_assoc] at this
   exact this
theorem Ob {r : Reach} {b0 : Nat} {v : Value} {d : DataW H} {p : List MemPlace} (hv : Value.okWide Tryd.prog w r b0 25 v) (h : DataW.Trod enc Tryd.prog w base spare held 25 v d p) :
  ∃ A A' ca cb c, v = .agg #[.slice A c.nk ca, .slice A' c.ny cb] ∧ Q8 w A ca A' cb c := by
 obtain ⟨cs, rfl, hsz⟩ := okWide_struct Tryd.underlying25 hv
 obtain ⟨fuel, hf⟩ := h
 obtain ⟨xs, m, _, _, hlen, hxl, hf⟩ := DataW.trod_struct Tryd.underlying25 hf
 obtain ⟨cs⟩ := cs
 rw [Eo] at hsz
 match cs, hsz with
 | [a, b], _ =>
  have h0 := Yb hxl (by decide) (hf 0 _ rfl) (n := 1) (by kernel_rfl)
  have h1 := Yb hxl (by decide) (hf 1 _ rfl) (n := 1) (by kernel_rfl)
  obtain ⟨A, nk, ca, kg, rfl, r0, c0, m0, _⟩ := Gu (f := fun s : ByteArray => [.string s]) (p := fun _ => True) ByteArray.empty Tryd.underlying22 Kp (by decide) (fun _ => rfl) (fun n cs x hx => by
   obtain ⟨s, h1, _⟩ := DataW.trod_string Tryd.underlying9 hx
   exact ⟨s, h1, trivial⟩) h0
  obtain ⟨A', ny, cb, yr, rfl, r1, c1, m1, _⟩ := Gu (f := fun y : Yr => y.cells) (p := fun _ => True) ⟨0, ByteArray.empty, 0, 0⟩ Tryd.underlying23 Ro (by decide) (fun _ => rfl) (fun n cs x hx => Qff hx) h1
  have hm : maxLen ≤ 9223372036854775807 := by decide
  exact ⟨A, A', ca, cb, ⟨nk, kg, ny, yr⟩, rfl, r0, r1, by show nk ≤ _; omega, by show ny ≤ _; omega, c0, c1⟩
/-! ### The row's last step -/
theorem Cd (hx : Qa W W') : ∀ {ts : List TypeId} {vs : List Value} {ds : List (DataW H)} {ps : List MemPlace}, DataW.TrodAll enc Tryd.prog W base spare held ts vs ds ps → (∀ p ∈ ps, p.block < W.heap.size) → DataW.TrodAll enc Tryd.prog W' base spare held ts vs ds ps
 | [], [], [], _, h, _ => h
 | _ :: _, _ :: _, _ :: _, _, ⟨p, q, ⟨n, h1⟩, h2, e⟩, hs => ⟨p, q, ⟨n, DataW.trod_carry _ _ _ _ h1 (fun x hx' => Below.same hx (hs x (by rw [e]; exact List.mem_append_left _ hx')))⟩, Cd hx h2 (fun x hx' => hs x (by rw [e]; exact List.mem_append_right _ hx')), e⟩
/-- A law has returned true, and the world is the old one and new blocks. -/
theorem O4 {fn : Func} {s : ChangeSpec} {args : Array Value} {ds : List (DataW H)} {p : List MemPlace} (hp : ∀ t ∈ fn.params.toList, t < Tryd.prog.types.size) (hr : fn.resultTypes = #[4]) (hvars : s.vars = [])
  (hfn : (s.fn H ds).results = [.lit (.bool true)]) (hfa : (s.fn H ds).args = ds) (hfv : (s.fn H ds).vars = [])
  (hA : DataW.TrodAll enc Tryd.prog W 0 (fun _ => true) true fn.params.toList args.toList ds p)
  (hW : DataW.Whole enc Tryd.prog fn.params.toList s.vars false W args.toList ds [] p) (hx : Qa W W') : s.post enc Tryd.prog fn false true false false W args (.bool true) W' := by
 have hlt : ∀ x ∈ p, x.block < W.heap.size := fun x hx => hW.lt x hx
 have hold : ∀ x ∈ p, (fun b => decide (b < W.heap.size)) x.block = true := fun x hx => by simpa using hlt x hx
 have e0 : ds ++ ([] : List (DataW H)) = ds := List.append_nil _
 have hargs : ∀ sp : Nat → Bool, (∀ x ∈ p, sp x.block = true) → DataW.TrodAll enc Tryd.prog W' 0 sp true fn.params.toList args.toList (s.fn H (ds ++ [])).args p := fun sp hsp => by
  rw [e0, hfa]
  exact DataW.TrodAll.respare Qby Qaw hp (Cd hx hA hlt) hsp
 have hvs : ∀ sp : Nat → Bool, DataW.TrodVars enc Tryd.prog W' sp s.vars (s.fn H (ds ++ [])).vars [] := fun sp => by
  rw [e0, hfv, hvars]; rfl
 have hres : ∀ (b : Nat) (sp : Nat → Bool) (hd : Bool), DataW.TrodAll enc Tryd.prog W' b sp hd fn.resultTypes.toList ((Value.bool true).resultList fn.resultTypes.size) (s.fn H (ds ++ [])).results [] := fun b sp hd => by
  rw [e0, hfn, hr]
  exact trodAll_cons_mk (shut_bool Tryd.underlying4 _) trodAll_mk0
 refine ⟨ds, [], p, [], p, [], hW, hres _ _ _, hargs _ hold, hvs _, World.keptBut_mono (fun x hx' => ⟨hx', .inr (.inl hx')⟩) ((Qa.below hx).frame (· ∈ p)), fun _ => ?_⟩
 ·obtain ⟨_, _, _, _, _, hz, hn⟩ := hW
  refine ⟨ok_one hr rfl (okWide_bool_mk Tryd.underlying4 _), _, _, ([] ++ p) ++ [], ⟨[] ++ p, [], trodAll_append (hargs _ (fun _ _ => rfl)) (hres _ _ _), hvs _, rfl, ?_, ?_⟩, ?_⟩
  ·intro b off hp
   have hin : MemPlace.cell b off ∈ p := by simpa using hp
   rw [Below.frozen hx (hlt _ hin)]
   exact hz b off hin
  ·intro ha; cases ha
  ·intro x hp _
   simpa using hp
end
end
section
open Go Go.RowKit
theorem Qr : Tryd.prog.follows .mixedOrders = true := by kernel_rfl
theorem Qej (s : ByteArray) (k : Nat) (h : k < s.size) : s.data.toList.take (k + 1) = s.data.toList.take k ++ [s[k]] := by
 rw [List.take_succ_eq_append_getElem (by simpa using h)]; rfl
/-- The first k bytes may stand in a name. -/
def Vl (s : ByteArray) (k : Nat) : Prop := (s.data.toList.take k).all Um = true
theorem Hq (s : ByteArray) (k : Nat) (h : k < s.size) (hp : Vl s k) (hc : Um s[k] = true) : Vl s (k + 1) := by
 unfold Vl at *
 rw [Qej s k h, List.all_append, hp]; simp [hc]
theorem Qco (s : ByteArray) (k : Nat) (h : s.size ≤ k) (hp : Vl s k) : Uf s = true := by
 unfold Vl at hp
 rw [List.take_of_length_le (by simp; omega)] at hp
 exact hp
theorem Ny (s : ByteArray) (k : Nat) (h : k < s.size) (hc : Um s[k] = false) : Uf s = false := by
 unfold Uf
 rw [List.all_eq_false]
 exact ⟨s[k], by show s.data[k] ∈ _; simp, by simp [hc]⟩
theorem Ho {c : UInt8} (h : c.toNat = 95 ∨ (97 ≤ c.toNat ∧ c.toNat ≤ 122) ∨ (48 ≤ c.toNat ∧ c.toNat ≤ 57)) : Um c = true := by
 simp only [Um, Wt, digB, Bool.or_eq_true, Bool.and_eq_true, decide_eq_true_eq]; omega
theorem Hm {c : UInt8} (h : ¬ (c.toNat = 95 ∨ (97 ≤ c.toNat ∧ c.toNat ≤ 122) ∨ (48 ≤ c.toNat ∧ c.toNat ≤ 57))) : Um c = false := by
 rw [Bool.eq_false_iff]
 simp only [Um, Wt, digB, ne_eq, Bool.or_eq_true, Bool.and_eq_true, decide_eq_true_eq]; omega
theorem Qcd {c : UInt8} (h1 : 97 ≤ c.toNat) (h2 : c.toNat ≤ 122) : Wt c = true := by simp [Wt, h1, h2]
theorem low_no {c : UInt8} (h : ¬ (97 ≤ c.toNat ∧ c.toNat ≤ 122)) : Wt c = false := by
 rw [Bool.eq_false_iff]; simp only [Wt, ne_eq, Bool.and_eq_true, decide_eq_true_eq]; exact h
theorem Qbl (s : ByteArray) (h1 : 1 ≤ s.size) (h2 : s.size ≤ 16) : Zw s = (Wt (s[0]'h1) && Uf s) := by
 have h0 : s.data.toList.headD 0 = s[0]'h1 := by
  rw [List.headD_eq_head?_getD, List.head?_eq_getElem?, List.getElem?_eq_getElem (by simp; omega)]; rfl
 rw [Zw, h0, decide_eq_true h1, decide_eq_true h2]; rfl
theorem Si (s : ByteArray) (h : s.size < 1 ∨ 16 < s.size) : Zw s = false := by
 rw [Zw]
 rcases h with h | h
 ·rw [decide_eq_false (by omega : ¬ 1 ≤ s.size)]; rfl
 ·rw [decide_eq_false (by omega : ¬ s.size ≤ 16)]; simp
set_option maxHeartbeats 1000000 in
theorem Ul (s : ByteArray) (w : World) :
  Calls Tryd.prog 74 #[.string s] w fun e w' => e = .returned (.bool (Zw s)) ∧ w = w' := by
 by_cases h0 : s.size < 1
 ·rw [Si s (.inl h0)]
  have z0 : ((s.size : Int) == 0) = true := beq_iff_eq.2 (by omega)
  go_enter Tryd.func74, Tryd.ntmps74
  go_wp2
  go_ret
  exact ⟨rfl, rfl⟩
 by_cases h1 : 16 < s.size
 ·rw [Si s (.inr h1)]
  have z0 : ((s.size : Int) == 0) = false := beq_eq_false_iff_ne.2 (by omega)
  go_enter Tryd.func74, Tryd.ntmps74
  go_wp2
  go_ret
  exact ⟨rfl, rfl⟩
 have g1 : 1 ≤ s.size := by omega
 have g2 : s.size ≤ 16 := by omega
 rw [Qbl s g1 g2]
 have z0 : ((s.size : Int) == 0) = false := beq_eq_false_iff_ne.2 (by omega)
 clear h0 h1
 by_cases hb : 97 ≤ s[0].toNat ∧ s[0].toNat ≤ 122
 ·obtain ⟨hb1, hb2⟩ := hb
  rw [Qcd hb1 hb2]
  go_enter Tryd.func74, Tryd.ntmps74
  go_wp2
  go_loop [25] (fun i => ∃ k : Nat, k ≤ s.size ∧ i = .int .i64 k ∧ Vl s k) (fun i => s.size - (intOf i).toNat)
  case atStart => exact ⟨0, Nat.zero_le _, rfl, rfl⟩
  case round =>
   obtain ⟨k, hk, rfl, hp⟩ := hrel
   by_cases hlt : k < s.size
   ·have hcl : s[k].toNat = 95 ∨ (97 ≤ s[k].toNat ∧ s[k].toNat ≤ 122) ∨ (48 ≤ s[k].toNat ∧ s[k].toNat ≤ 57) ∨ s[k].toNat < 48 ∨ (57 < s[k].toNat ∧ s[k].toNat < 97 ∧ s[k].toNat ≠ 95) ∨ 122 < s[k].toNat := by omega
    rcases hcl with h | h | h | h | h | h
    ·have hn := Hq s k hlt hp (Ho (.inl h))
     have b1 : ((s[k].toNat : Int) != 95) = false := bne_eq_false_iff_eq.2 (by omega)
     have h1 : 95 ≤ s[k].toNat := by omega
     have h2 : s[k].toNat ≤ 95 := by omega
     clear h
     go_wp2
     exact ⟨⟨k + 1, by omega, by go_num, hn⟩, by simp [intOf]; omega⟩
    ·have hn := Hq s k hlt hp (Ho (by omega))
     have b1 : ((s[k].toNat : Int) != 95) = true := bne_iff_ne.2 (by omega)
     obtain ⟨h1, h2⟩ := h
     go_wp2
     exact ⟨⟨k + 1, by omega, by go_num, hn⟩, by simp [intOf]; omega⟩
    ·have hn := Hq s k hlt hp (Ho (by omega))
     have b1 : ((s[k].toNat : Int) != 95) = true := bne_iff_ne.2 (by omega)
     obtain ⟨h1, h2⟩ := h
     go_wp2
     exact ⟨⟨k + 1, by omega, by go_num, hn⟩, by simp [intOf]; omega⟩
    ·have hn : Hid (Uf s = false) := Ny s k hlt (Hm (by omega))
     have b1 : ((s[k].toNat : Int) != 95) = true := bne_iff_ne.2 (by omega)
     go_wp2
     all_goals first
      | (go_ret; exact ⟨J1 hn.out.symm, rfl⟩)
      | (exfalso; simp only [Bool.not_eq_false', decide_eq_true_eq] at *; omega)
    ·have hn : Hid (Uf s = false) := Ny s k hlt (Hm (by omega))
     obtain ⟨h1, h2, h3⟩ := h
     have b1 : ((s[k].toNat : Int) != 95) = true := bne_iff_ne.2 (by omega)
     go_wp2
     all_goals first
      | (go_ret; exact ⟨J1 hn.out.symm, rfl⟩)
      | (exfalso; simp only [Bool.not_eq_false', decide_eq_true_eq] at *; omega)
    ·have hn : Hid (Uf s = false) := Ny s k hlt (Hm (by omega))
     have b1 : ((s[k].toNat : Int) != 95) = true := bne_iff_ne.2 (by omega)
     go_wp2
     all_goals first
      | (go_ret; exact ⟨J1 hn.out.symm, rfl⟩)
      | (exfalso; simp only [Bool.not_eq_false', decide_eq_true_eq] at *; omega)
   ·go_wp2
    go_ret
    exact ⟨J1 (Qco s k (by omega) hp).symm, rfl⟩
 ·rw [low_no hb]
  by_cases hb1 : 97 ≤ s[0].toNat
  all_goals
   go_enter Tryd.func74, Tryd.ntmps74
   go_wp2
   go_ret
   exact ⟨rfl, rfl⟩
theorem Fp (n : Int) : bits .and .i64 n 1 = n % 2 := by
 have h1 : (BitVec.ofInt 64 1).toNat = 2 ^ 1 - 1 := by decide
 have key : (BitVec.ofInt 64 n &&& BitVec.ofInt 64 1).toNat = (n % ((2 ^ 64 : Nat) : Int)).toNat % 2 ^ 1 := by
  rw [BitVec.toNat_and, BitVec.toNat_ofInt, h1, Nat.and_two_pow_sub_one_eq_mod]
 show IntKind.i64.wrap ((BitVec.ofInt 64 n &&& BitVec.ofInt 64 1).toNat : Nat) = n % 2
 rw [key, IntKind.wrap_i64]
 omega
theorem Po {lg : Int} {b : Nat} (h : (bits .and .i64 (lg / 2 ^ b) 1 == 1) = true) : Xr lg b = 30 := by
 rw [Fp] at h; simp only [Xr, N9]; simp at h; simp [h]
theorem Pm {lg : Int} {b : Nat} (h : (bits .and .i64 (lg / 2 ^ b) 1 == 1) = false) : Xr lg b = 29 := by
 rw [Fp] at h; simp only [Xr, N9]; simp at h; simp [h]
theorem Qcf (lg : Int) (h : (bits .and .i64 (lg / 4096) 1 == 1) = true) : Xr lg 12 = 30 := Po (b := 12) h
theorem Qcg (lg : Int) (h : (bits .and .i64 (lg / 4096) 1 == 1) = false) : Xr lg 12 = 29 := Pm (b := 12) h
set_option maxHeartbeats 400000 in
theorem Vv (y : Yr) (n : Int) (s : Bool) (w : World) (_h1 : 1 ≤ n) (_h2 : n ≤ 12) (_hl : 0 ≤ y.lg) (_hl' : y.lg ≤ 8191) :
  Calls Tryd.prog 75 #[.agg #[.int .i64 y.k, .string y.nm, .int .i64 y.lg, .int .i64 y.db], .int .i64 n, .bool s] w fun e w' =>
   e = .returned (.int .i64 (y.len n s)) ∧ Qa w w' := by
 cases s
 ·have H : Hid (y.len n false = Xr y.lg (n.toNat - 1)) := rfl
  generalize y.len n false = r at *
  go_enter Tryd.func75, Tryd.ntmps75
  go_wp2
  all_goals
   go_ret
   refine ⟨Wx ?_, (Qa.refl w).alloc _⟩
   rw [H.out]
   first | exact (Po ‹_›).symm | exact (Pm ‹_›).symm
 ·have H : Hid (y.len n true = Xr y.lg 12) := rfl
  generalize y.len n true = r at *
  go_enter Tryd.func75, Tryd.ntmps75
  go_wp2
  all_goals
   go_ret
   refine ⟨Wx ?_, (Qa.refl w).alloc _⟩
   rw [H.out]
   first | exact (Qcf _ ‹_›).symm | exact (Qcg _ ‹_›).symm
set_option maxHeartbeats 400000 in
theorem Pr (d : Dt) (w : World) :
  Calls Tryd.prog 70 #[.agg #[.int .i64 d.y, .int .i64 d.m, .bool d.s, .int .i64 d.d]] w fun e w' => e = .returned (.agg #[.int .i64 d.y, .int .i64 d.m, .bool d.s]) ∧ Qa w w' := by
 go_enter Tryd.func70, Tryd.ntmps70
 go_wp2
 refine bodyPost_ret (v := .agg #[.int .i64 d.y, .int .i64 d.m, .bool d.s]) (by simp [results, Tryd.results70, go_sem]) rfl ⟨rfl, (by repeat (first | exact Qa.refl _ | (refine Qa.alloc ?_ _) | (refine Qa.trans ?_ (by assumption))))⟩
set_option maxHeartbeats 400000 in
theorem of_any (A A' : Option Addr) (ca cb : Nat) (c : Qc) (i : Nat) (n : Int) (s : Bool) (w : World) (hC : Q8 w A ca A' cb c) (hi : i < c.ny) (_h1 : 1 ≤ n) (_h2 : n ≤ 12) (hl : 0 ≤ (c.yr i).lg) (hl' : (c.yr i).lg ≤ 8191) :
  Calls Tryd.prog 52 #[.agg #[.int .i64 i, .int .i64 n, .bool s], .agg #[.slice A c.nk ca, .slice A' c.ny cb]] w fun e w' => e = .returned (.int .i64 ((c.yr i).len n s)) ∧ Qa w w' := by
 obtain ⟨b, off, rfl, hb, c0, c1, c2, c3⟩ := hC.year hi
 have hny := hC.ny_le
 clear hC
 go_enter Tryd.func52, Tryd.ntmps52
 go_wp2
 refine Zr w Qr (by kernel_rfl) (by repeat (first | exact Qa.refl _ | (refine Qa.alloc ?_ _) | (refine Qa.trans ?_ (by assumption)))) ?_
 intro hne hrx hry
 try simp only []
 try simp only [List.append_eq, List.cons_append, List.nil_append]
 skip
 repeat (first
  | go_big_quiet_skip
  | (go_big_quiet_want; go_big_quiet_op; go_big_quiet_on)
  | (go_big_quiet_want; go_big_quiet_op; apply Exists.intro; refine ⟨fun u => ?_, ?_⟩
     ·first
       | (go_at_call 75; refine (Vv (c.yr i) _ _ _ _h1 _h2 hl hl').mono ?_; rintro e w' ⟨rfl, hb⟩; exact ⟨rfl, u.back hb⟩)
     go_big_quiet_on))
 clear hne hry hrx
 refine wpQuiet_nil ?_
 intro wq hq
 obtain ⟨hcwq, hfwq, hzwq⟩ := Qa.rules hq
 try simp only [World.size_alloc] at hzwq
 obtain ⟨hcbwq, hfbwq, hzbwq⟩ := Qa.rules (show Qa w wq from (by repeat (first | exact Qa.refl _ | (refine Qa.alloc ?_ _) | (refine Qa.trans ?_ (by assumption)))))
 clear hcwq hfwq
 go_wp2
 go_ret
 exact ⟨rfl, (by repeat (first | exact Qa.refl _ | (refine Qa.alloc ?_ _) | (refine Qa.trans ?_ (by assumption))))⟩
theorem Lc (a b : ByteArray) : decide (a = b) = (a.toList == b.toList) := by
 rw [Go.ByteArray.toList_eq, Go.ByteArray.toList_eq, Bool.eq_iff_iff]
 simp only [decide_eq_true_eq, beq_iff_eq]
 exact ⟨fun h => by rw [h], fun h => by cases a; cases b; simp at h; simp [h]⟩
section
variable {P : Program} {ops : Array Oper} {md : Region.Mode} {C : World → Prop}
/-! ### A head that is quiet in a class of worlds, and a tail in its Vf -/
end
theorem XW.drawn (w : World) : ∃ u : XW w, { w with drawn := w.drawn + 1 } = u.w := ⟨⟨{ w with drawn := w.drawn + 1 }, ⟨rfl, rfl, rfl, Nat.le_refl _, fun _ _ => rfl⟩⟩, rfl⟩
/-! ### Within a round -/
def Kx (o : Oper) : Bool := match o.op with | .defer _ => false | _ => true
section
variable {P : Program} {ops : Array Oper} {md : Region.Mode} {C : World → Prop} {l n : Nat}
theorem Qe7 {o : Oper} {a : Act} {K : Act → Prop} {K' : Act → World → Prop} {Q' : Exit → Act → World → Prop} {w : World} (hnd : Kx o = true) (hw : C w) (h : ∀ a w', C w' → K a → K' a w') (hh : o.quiet P a C K) :
  o.wpIn (Fence.wide.inRound l) n P a w K' Q' := by
 obtain ⟨v, h1, h2⟩ := hh
 have h3 := h1 w hw
 refine ⟨fun _ _ => trivial, ?_⟩
 rw [Fence.inRound_round, Oper.semAt_some l _ _ (fun c hc => by simp [Kx, hc] at hnd)]
 unfold Oper.quietAt at h3
 generalize (execOp a.eval o).run P w = r at *
 cases r with
 | ok x w' =>
  cases x <;> simp only [Oper.quietUpon] at h3 <;> simp only [Oper.uponIn]
  case value u => obtain ⟨e1, e2⟩ := h3; rw [e1, e2]; exact h _ _ hw h2
  case skip => obtain ⟨e1, e2⟩ := h3; rw [e1, ← e2]; exact h _ _ hw h2
  case enter f args =>
   obtain ⟨e1, hc⟩ := h3
   rw [e1]
   refine ⟨fun hd => by simp [Fence.inRound, Fence.wide] at hd, CallsIn.inRound l (callsIn_wide.2 (hc.mono fun e w'' ⟨he, hw''⟩ => ?_))⟩
   subst he
   exact h _ _ hw'' h2
 | halt x w' => simp only [Oper.quietUpon] at h3
theorem Qe8 {i : Nat} {a : Act} {K : Act → Prop} {K' : Act → World → Prop} {Q' : Exit → Act → World → Prop} {w : World} (hnd : ops.all Kx = true) (hC : C w) (h : ∀ a w', C w' → K a → K' a w') (hh : qOp P ops C i K a) :
  wpOpIn (Fence.wide.inRound l) n P ops Q' i K' a w := by
 unfold qOp at hh
 unfold wpOpIn
 split
 ·rename_i ho; simp only [ho] at hh; exact h _ _ hC hh
 ·rename_i o ho
  simp only [ho] at hh
  split
  ·rename_i hw
   simp only [hw, if_true] at hh
   exact Qe7 (Array.all_eq_true_iff_forall_mem.1 hnd o (Array.mem_of_getElem? ho)) hC h hh
  ·rename_i hw; simp only [hw] at hh; exact ⟨fun _ _ => trivial, h _ _ hC hh⟩
theorem Cv {Q : Act → Prop} {Q' : Exit → Act → World → Prop} (hnd : ops.all Kx = true) (hQ : ∀ a w, C w → Q a → Q' .normal a w) : ∀ (fuel : Nat) (listed : Array Bool) (a : Act) (w : World), C w →
  wpAnyQ P md ops C Q fuel listed a → wpAnyIn (Fence.wide.inRound l) n P md ops Q' fuel listed a w
 | 0, _, _, _, hw, h => ⟨h.1, hQ _ _ hw h.2⟩
 | fuel + 1, _, _, _, hw, h => ⟨fun h0 => hQ _ _ hw (h.1 h0), fun i hi => Qe8 hnd hw (fun a' w' hw' => Cv hnd hQ fuel _ a' w' hw') (h.2 i hi)⟩
end
section
variable {P : Program} {id k n : Nat} {Q : Exit → Act → World → Prop} {a : Act} {w : World} {l : List Oper}
theorem Fg (w₀ : World) (hm : P.follows .mixedOrders = true) (hB : Lw l.toArray = true) (hnd : l.toArray.all Kx = true) (he : Qa w₀ w)
  (h : Nonempty (XW w) → (∀ (u : XW w) b o, b < w.heap.size → u.w.cell? ⟨b, o, none⟩ = w.cell? ⟨b, o, none⟩) → (∀ (u : XW w) b o, b < w₀.heap.size → u.w.cell? ⟨b, o, none⟩ = w₀.cell? ⟨b, o, none⟩) →
   wpQuiet P l.toArray (fun w' => ∃ u : XW w, w' = u.w) (fun a' => ∀ w', Qa w w' → Q .normal a' w') l a) : (Code.region id l.toArray true).wpIn (Fence.wide.inRound k) n P Q a w := by
 have hB' := S7 hB
 simp only [Region.lexB, Bool.and_eq_true] at hB'
 have H := wpAnyQ_lex (C := fun w' => ∃ u : XW w, w' = u.w) (md := .any) hB'.1 l 0 (Array.replicate l.toArray.size false) a (by simp) (by simpa using hB'.2) (h (XW.some w) (fun u => u.cell) (fun u => u.from he))
 exact wpIn_region_any hm (Cv (C := fun w' => ∃ u : XW w, w' = u.w) (Q := fun a' => ∀ w', Qa w w' → Q .normal a' w') hnd (fun a' w' hu h' => h' w' (by obtain ⟨u, rfl⟩ := hu; exact u.e)) _ _ _ _ (XW.drawn w) (by simpa using H))
end
end
section
theorem O5 (y : Yr) : ∀ l l' : List (Int × Bool), y.lens (l ++ l') = y.lens l + y.lens l'
 | [], l' => by simp [Yr.lens]
 | p :: l, l' => by rw [List.cons_append, Yr.lens, Yr.lens, O5 y l l']; omega
theorem La (i : Nat) (y : Yr) : ∀ (l l' : List (Int × Bool)) (d : Int), Jj i y d (l ++ l') = Jj i y d l ++ Jj i y (d + y.lens l) l'
 | [], l', d => by simp [Jj, Yr.lens]
 | p :: l, l', d => by
  rw [List.cons_append, Jj, Jj, La i y l l', List.cons_append, Yr.lens]
  congr 3; omega
theorem Bf (i : Nat) (y : Yr) : ∀ (l : List (Int × Bool)) (d : Int), (Jj i y d l).length = l.length
 | [], _ => rfl
 | p :: l, d => by rw [Jj, List.length_cons, List.length_cons, Bf i y l]
theorem Qch (lg : Int) (b : Nat) : 29 ≤ Xr lg b ∧ Xr lg b ≤ 30 := by unfold Xr; split <;> omega
theorem Ws (y : Yr) (n : Int) (s : Bool) : 29 ≤ y.len n s ∧ y.len n s ≤ 30 := Qch _ _
theorem Mg (y : Yr) : ∀ l : List (Int × Bool), 29 * (l.length : Int) ≤ y.lens l ∧ y.lens l ≤ 30 * (l.length : Int)
 | [] => by simp [Yr.lens]
 | p :: l => by
  have := Mg y l
  have h := Ws y p.1 p.2
  rw [Yr.lens, List.length_cons]
  omega
theorem Wu (y : Yr) (k : Nat) : y.moTo (k + 1) = y.moTo k ++ (((k : Int) + 1, false) :: (if y.db = (k : Int) + 1 then [((k : Int) + 1, true)] else [])) := rfl
theorem Hi (y : Yr) : ∀ k : Nat, (y.moTo k).length = k + (if 1 ≤ y.db ∧ y.db ≤ (k : Int) then 1 else 0)
 | 0 => by
  have : ¬ (1 ≤ y.db ∧ y.db ≤ ((0 : Nat) : Int)) := by omega
  rw [if_neg this]; rfl
 | k + 1 => by
  rw [Wu, List.length_append, List.length_cons, Hi y k]
  by_cases h : y.db = (k : Int) + 1
  ·rw [if_pos h, if_neg (by omega), if_pos (by omega)]; simp
  ·rw [if_neg h]
   by_cases h2 : 1 ≤ y.db ∧ y.db ≤ (k : Int)
   ·rw [if_pos h2, if_pos (by omega)]; simp
   ·rw [if_neg h2, if_neg (by omega)]; simp
theorem Pt (y : Yr) : 12 ≤ y.mos.length ∧ y.mos.length ≤ 13 := by
 rw [Yr.mos, Hi]; split <;> omega
theorem Tb (y : Yr) : 348 ≤ y.days ∧ y.days ≤ 390 := by
 have h := Mg y y.mos
 have h2 := Pt y
 unfold Yr.days; omega
theorem Vn (c : Qc) : ∀ i : Nat, 1 + 348 * (i : Int) ≤ c.dayAt i ∧ c.dayAt i ≤ 1 + 390 * (i : Int)
 | 0 => by simp [Qc.dayAt]
 | i + 1 => by
  have := Vn c i
  have := Tb (c.yr i)
  rw [Qc.dayAt]; omega
/-- What came till month k + 1 of year i. -/
def Qc.upTo (c : Qc) (i k : Nat) : List It := c.itemsTo i ++ Jj i (c.yr i) (c.dayAt i) ((c.yr i).moTo k)
def Qc.dayTo (c : Qc) (i k : Nat) : Int := c.dayAt i + (c.yr i).lens ((c.yr i).moTo k)
theorem Qew (c : Qc) (i : Nat) : c.upTo i 0 = c.itemsTo i := by simp [Qc.upTo, Yr.moTo, Jj]
theorem Iu (c : Qc) (i : Nat) : c.dayTo i 0 = c.dayAt i := by simp [Qc.dayTo, Yr.moTo, Yr.lens]
/-- The first month k + 1 of year i, and the second one. -/
def Qc.it1 (c : Qc) (i k : Nat) : It := ⟨i, (k : Int) + 1, false, c.dayTo i k⟩
def Qc.it2 (c : Qc) (i k : Nat) : It := ⟨i, (k : Int) + 1, true, c.dayTo i k + (c.yr i).len ((k : Int) + 1) false⟩
theorem Ck {c : Qc} {i k : Nat} (h : (c.yr i).db ≠ (k : Int) + 1) : c.upTo i (k + 1) = c.upTo i k ++ [c.it1 i k] := by
 rw [Qc.upTo, Wu, if_neg h, La, ← List.append_assoc]; rfl
theorem Fa {c : Qc} {i k : Nat} (h : (c.yr i).db = (k : Int) + 1) : c.upTo i (k + 1) = c.upTo i k ++ [c.it1 i k] ++ [c.it2 i k] := by
 rw [Qc.upTo, Wu, if_pos h, La, ← List.append_assoc, List.append_assoc (c.upTo i k)]; rfl
theorem Iq {c : Qc} {i k : Nat} (h : (c.yr i).db ≠ (k : Int) + 1) : c.dayTo i (k + 1) = c.dayTo i k + (c.yr i).len ((k : Int) + 1) false := by
 rw [Qc.dayTo, Wu, if_neg h, O5, ← Int.add_assoc]
 show _ + (_ + 0) = _ + _; rw [Int.add_zero]; rfl
theorem Ir {c : Qc} {i k : Nat} (h : (c.yr i).db = (k : Int) + 1) : c.dayTo i (k + 1) = c.dayTo i k + (c.yr i).len ((k : Int) + 1) false + (c.yr i).len ((k : Int) + 1) true := by
 rw [Qc.dayTo, Wu, if_pos h, O5, ← Int.add_assoc]
 show _ + (_ + (_ + 0)) = _ + _ + _; rw [Int.add_zero, ← Int.add_assoc]; rfl
theorem Qbo (c : Qc) {i j : Nat} (h : i ≤ j) : c.itemsTo i <+: c.itemsTo j := by
 induction j with
 | zero => obtain rfl : i = 0 := by omega
           exact List.prefix_rfl
 | succ j ih =>
  rcases Nat.lt_or_ge j i with h' | h'
  ·obtain rfl : i = j + 1 := by omega
   exact List.prefix_rfl
  ·exact (ih h').trans (List.prefix_append _ _)
theorem Qci (y : Yr) {i j : Nat} (h : i ≤ j) : y.moTo i <+: y.moTo j := by
 induction j with
 | zero => obtain rfl : i = 0 := by omega
           exact List.prefix_rfl
 | succ j ih =>
  rcases Nat.lt_or_ge j i with h' | h'
  ·obtain rfl : i = j + 1 := by omega
   exact List.prefix_rfl
  ·exact (ih h').trans (List.prefix_append _ _)
theorem G9 {c : Qc} {i k : Nat} (hi : i < c.ny) (hk : k ≤ 12) : c.upTo i k <+: c.items := by
 refine List.IsPrefix.trans ?_ (Qbo c (show i + 1 ≤ c.ny from hi))
 obtain ⟨t, ht⟩ := Qci (c.yr i) hk
 show c.itemsTo i ++ _ <+: c.itemsTo i ++ Jj i (c.yr i) (c.dayAt i) ((c.yr i).moTo 12)
 rw [← ht, La, ← List.append_assoc]
 exact List.prefix_append _ _
theorem Dg {c : Qc} {i k : Nat} (hi : i < c.ny) (hk : k < 12) : c.upTo i k ++ [c.it1 i k] <+: c.items := by
 by_cases h : (c.yr i).db = (k : Int) + 1
 ·refine List.IsPrefix.trans ?_ (G9 hi (show k + 1 ≤ 12 from hk))
  rw [Fa h]; exact List.prefix_append _ _
 ·rw [← Ck h]; exact G9 hi hk
theorem Cg {c : Qc} {i k : Nat} (hi : i < c.ny) (hk : k < 12) (h : (c.yr i).db = (k : Int) + 1) : c.upTo i k ++ [c.it1 i k] ++ [c.it2 i k] <+: c.items := by
 rw [← Fa h]; exact G9 hi hk
theorem Pj {α : Type} {Qw l : List α} {x : α} (h : Qw ++ [x] <+: l) : Qw.length < l.length := by
 have := h.length_le; simp at this; omega
theorem Ol (c : Qc) {i k : Nat} (hk : k ≤ 12) : 1 + 348 * (i : Int) ≤ c.dayTo i k ∧ c.dayTo i k ≤ 1 + 390 * (i : Int) + 390 := by
 have h1 := Vn c i
 have h2 := Mg (c.yr i) ((c.yr i).moTo k)
 have h3 : ((c.yr i).moTo k).length ≤ 13 := by rw [Hi]; split <;> omega
 unfold Qc.dayTo; omega
/-- What a month that comes is, whatever its place. -/
structure Qc.okIt (c : Qc) (x : It) : Prop where
 y : x.y < c.ny
 n1 : 1 ≤ x.n
 n12 : x.n ≤ 12
 f1 : 1 ≤ x.first
 f2 : x.first ≤ 390 * (c.ny : Int) + 391
theorem L9 {c : Qc} {i k : Nat} (hi : i < c.ny) (hk : k < 12) : c.okIt (c.it1 i k) := by
 have h := Ol c (i := i) (k := k) (by omega)
 exact ⟨hi, by show 1 ≤ (k : Int) + 1; omega, by show (k : Int) + 1 ≤ 12; omega, by show 1 ≤ c.dayTo i k; omega, by show c.dayTo i k ≤ _; omega⟩
theorem Sj {c : Qc} {i k : Nat} (hi : i < c.ny) (hk : k < 12) : c.okIt (c.it2 i k) := by
 have h := Ol c (i := i) (k := k) (by omega)
 have h2 := Ws (c.yr i) ((k : Int) + 1) false
 exact ⟨hi, by show 1 ≤ (k : Int) + 1; omega, by show (k : Int) + 1 ≤ 12; omega, by show 1 ≤ c.dayTo i k + _; omega, by show c.dayTo i k + _ ≤ _; omega⟩
theorem Mb (c : Qc) : ∀ i : Nat, (c.itemsTo i).length ≤ 13 * i
 | 0 => by simp [Qc.itemsTo]
 | i + 1 => by
  have := Mb c i
  have := Pt (c.yr i)
  rw [Qc.itemsTo, List.length_append, Bf]; omega
end
section
open Go Go.RowKit
attribute [local go_sem] Oper.semAt_some
/-- What a round of a loop over the months keeps: what lay in w₀, and each block of years. -/
structure Ju (n₀ : Nat) (W W' : World) : Prop where
 below : Below n₀ W W'
 years : ∀ (k : Nat) (cs : Array Value) (f : Nat × Nat), W.heap[k]? = some (.cells cs 57 f) → W'.heap[k]? = some (.cells cs 57 f)
namespace Ju
variable {n₀ : Nat} {A B C : World}
theorem refl (n₀ : Nat) (W : World) : Ju n₀ W W := ⟨Below.refl _ _, fun _ _ _ h => h⟩
theorem trans (h : Ju n₀ A B) (k : Ju n₀ B C) : Ju n₀ A C := ⟨h.below.trans k.below, fun i cs f hi => k.years i cs f (h.years i cs f hi)⟩
theorem of_ext (e : Qa A B) (hn : n₀ ≤ A.heap.size) : Ju n₀ A B := ⟨e.below.mono hn, fun _ _ _ hi => (e.block (Array.getElem?_eq_some_iff.1 hi).1).trans hi⟩
theorem grown {row : Option Nat} (hg : A.grownBy B row) (hn : n₀ ≤ A.heap.size) (hr : ∀ r, row = some r → n₀ ≤ r ∧ ∃ o, A.heap[r]? = some o ∧ ∀ cs f, o ≠ .cells cs 57 f) : Ju n₀ A B := by
 refine ⟨(Below.refl n₀ A).grown hg hn (fun r e => (hr r e).1), fun i cs f hi => (hg.block i (Array.getElem?_eq_some_iff.1 hi).1 (fun e => ?_)).trans hi⟩
 obtain ⟨_, o, ho, hne⟩ := hr i e.symm
 rw [hi] at ho; cases ho
 exact hne cs f rfl
theorem box {b : Nat} {t : TypeId} {v : Value} (hb : Boxed A b t v) (ht : t ≠ 57) (hn : n₀ ≤ b) (u : Value) : Ju n₀ A (A.setCell ⟨b, 0, none⟩ u) :=
 grown (grownBy_setCell' A b u) (Nat.le_of_lt (Nat.lt_of_le_of_lt hn hb.lt)) (fun r e => by
  cases e; exact ⟨hn, _, hb, fun cs f h => ht (by injection h)⟩)
theorem turn {w : World} (hn : n₀ ≤ w.heap.size) (W : World) (l : Nat) (o o' : Obj) (hl : w.heap.size ≤ l) (h : W.heap[l]? = some o) (hc : o.isCells = false) (_ : o.isWalk = false) : Ju n₀ W (W.putObj l o') :=
 grown (grownBy_putObj' W l o') (by have := (Array.getElem?_eq_some_iff.1 h).1; omega) (fun r e => by
  cases e; exact ⟨by omega, _, h, fun cs f hh => by rw [hh] at hc; cases hc⟩)
end Ju
theorem Ly {A B : World} (e : Qa A B) : A.grownBy B none := ⟨e.below.os, e.below.tape, e.below.output, e.size, fun _ hk _ => e.block hk⟩
theorem AbidesFrom.ext {β : Type} {B : Nat} {J : β → World → Prop} (h : AbidesFrom B J) {s : β} {W W' : World} (hs : J s W) (e : Qa W W') : J s W' := h s W W' none hs (Ly e) (fun r h => by cases h)
theorem OwnFrom.ext {β : Type} {B : Nat} {J : β → World → Prop} (h : OwnFrom B J) {s : β} {W W' : World} (hs : J s W) (e : Qa W W') : J s W' := h s W W' none hs (Ly e) (fun r h => by cases h)
/-- A month that a loop is handed. -/
abbrev Mo (c : Qc) := { x : It // c.okIt x }
def Mo.its {c : Qc} (l : List (Mo c)) : List It := l.map (·.1)
def Mo.enc {c : Qc} (x : Mo c) : Array Value := #[.agg #[.int .i64 (x.1.y : Int), .int .i64 x.1.n, .bool x.1.s], .int .i64 x.1.first]
theorem Xn {c : Qc} (l : List (Mo c)) (x : Mo c) : Mo.its (l ++ [x]) = Mo.its l ++ [x.1] := by simp [Mo.its]
theorem O0 {c : Qc} (l : List (Mo c)) : (Mo.its l).length = l.length := by simp [Mo.its]
theorem Ps (A A' : Option Addr) (ca cb : Nat) (c : Qc) (w : World) :
  Calls Tryd.prog 51 #[.agg #[.slice A c.nk ca, .slice A' c.ny cb]] w fun e w' => e = .returned (.func (.func 76) #[] #[.pointer (some ⟨w.heap.size, 0, none⟩)]) ∧ w.alloc (.cells #[.slice A c.nk ca, .slice A' c.ny cb] 25) = w' := by
 go_enter Tryd.func51, Tryd.ntmps51
 go_wp2
 go_ret
 exact ⟨rfl, rfl⟩
theorem Kt {w : World} {Y : Nat} {t : TypeId} {v0 v1 v2 v3 : Value} (h : w.heap[Y]? = some (.cells #[v0, v1, v2, v3] t (0, 0))) :
  w.cell? ⟨Y, 0, none⟩ = some v0 ∧ w.cell? ⟨Y, 1, none⟩ = some v1 ∧ w.cell? ⟨Y, 2, none⟩ = some v2 ∧ w.cell? ⟨Y, 3, none⟩ = some v3 := by
 refine ⟨?_, ?_, ?_, ?_⟩ <;> simp [World.cell?, h]
theorem Qcj (A A' : Option Addr) (ca cb : Nat) (c : Qc) (B n : Nat) (w₀ w : World) (hC : Q8 w₀ A ca A' cb c) (hlg : ∀ i, i < c.ny → 0 ≤ (c.yr i).lg ∧ (c.yr i).lg ≤ 8191) (hny : c.ny ≤ 400) (hn : 1 ≤ n) (he : Qa w₀ w)
  (hB : w.cell? ⟨B, 1, none⟩ = some (.slice A' c.ny cb)) (hBl : B < w.heap.size) :
  SeqStopsK Fence.wide n Tryd.prog 76 #[.pointer (some ⟨B, 0, none⟩)] (Mo.enc (c := c)) (Ju w₀.heap.size) (fun xs => Mo.its xs = c.items) (fun Qw => Mo.its Qw <+: c.items) c.items.length w := by
 intro l J Jx W hW hJ hJx hY h0
 have hWe : Qa w₀ W := he.trans hW
 have hB' : W.cell? ⟨B, 1, none⟩ = some (.slice A' c.ny cb) := (hW.cell (p := ⟨B, 1, none⟩) hBl).trans hB
 clear hB hBl he
 refine callsIn_of_wp Tryd.func76 rfl trivial ?_ rfl
 simp only [Tryd.ntmps76, List.size_toArray, List.length_cons, List.length_nil, Nat.reduceAdd, Nat.reduceSub, Array.replicate_succ, Array.replicate_zero, List.push_toArray, List.append_toArray, List.nil_append, List.cons_append]
 gi_wp2
 gi_loopw [3, 10] (fun d i wr => ∃ k : Nat, k ≤ c.ny ∧ i = .int .i64 k ∧ d = .int .i64 (c.dayAt k) ∧ ∃ Qw : List (Mo c), Mo.its Qw = c.itemsTo k ∧ J Qw wr ∧ Qa w₀ wr) (fun _ i _ => c.ny - (intOf i).toNat)
 case atStart => exact ⟨0, Nat.zero_le _, rfl, rfl, [], rfl, h0, hWe⟩
 case round =>
  obtain ⟨k, hk, rfl, rfl, Qw, hpre, hJp, hE⟩ := hrel
  obtain ⟨wo, rfl⟩ := Qg wr
  by_cases hlt : k < c.ny
  ·obtain ⟨b, off, rfl, hb, c0, c1, c2, c3⟩ := (hC.ext hE).year hlt
   gi_wp2
   have hlgk := hlg k hlt
   have hE2 : Qa w₀ (wo.alloc (.cells #[.int .i64 (c.yr k).k, .string (c.yr k).nm, .int .i64 (c.yr k).lg, .int .i64 (c.yr k).db] 57)) := hE.alloc _
   have hY0 := World.alloc_heap_new wo (.cells #[.int .i64 (c.yr k).k, .string (c.yr k).nm, .int .i64 (c.yr k).lg, .int .i64 (c.yr k).db] 57)
   have hJ0 := AbidesFrom.ext hJ hJp ((Qa.refl wo).alloc (.cells #[.int .i64 (c.yr k).k, .string (c.yr k).nm, .int .i64 (c.yr k).lg, .int .i64 (c.yr k).db] 57))
   generalize hyb : wo.heap.size = Y at *
   clear hyb c0 c1 c2 c3 hb
   gi_loopw [3, 6] (fun d m wq => ∃ j : Nat, j ≤ 12 ∧ m = .int .i64 (j + 1) ∧ d = .int .i64 (c.dayTo k j) ∧ ∃ Qw : List (Mo c), Mo.its Qw = c.upTo k j ∧ J Qw wq ∧ Qa w₀ wq ∧
    wq.heap[Y]? = some (.cells #[.int .i64 (c.yr k).k, .string (c.yr k).nm, .int .i64 (c.yr k).lg, .int .i64 (c.yr k).db] 57 (0, 0))) (fun _ m _ => 13 - (intOf m).toNat)
   case atStart => exact ⟨0, Nat.zero_le _, rfl, by rw [Iu], Qw, by rw [Qew, hpre], hJ0, hE2, hY0⟩
   case round =>
    clear hE hE2 hY0 hJ0 hJp hpre Qw
    obtain ⟨j, hj, rfl, rfl, Qw, hpre, hJp, hE, hYb⟩ := hrel
    by_cases hlj : j < 12
    ·obtain ⟨y0, y1, y2, y3⟩ := Kt hYb
     have hx := hY Qw ⟨_, L9 hlt hlj⟩ wr hJp (by have := Pj (hpre ▸ Dg hlt hlj); rw [O0] at this; exact this)
     obtain ⟨fn, tmps, assign, body, hy, hR⟩ := hx
     simp only [Mo.enc, Qc.it1] at hy
     gi_wp2
     refine hR.mono ?_
     rintro e W3 (⟨rfl, hJ3, hk3⟩ | ⟨rfl, hJx3⟩)
     ·clear hR hy
      have hYb3 := hk3.years _ _ _ hYb
      have hE3 : Qa w₀ W3 := Below.trans hE hk3.below
      obtain ⟨z0, z1, z2, z3⟩ := Kt hYb3
      have hbd := Ol c (i := k) (k := j) (by omega)
      have hbl := Ws (c.yr k) ((j : Int) + 1) false
      by_cases hdb : (c.yr k).db = (j : Int) + 1
      ·have hd1 : ((c.yr k).db != (j : Int) + 1) = false := bne_eq_false_iff_eq.2 hdb
       have HD := Lib.hid hdb
       clear hdb y0 y1 y2 y3
       gi_wp2_with (refine ⟨trivial, ?_⟩; gi_at_call 75; refine (callsIn_wide.2 (Vv (c.yr k) _ _ _ (by omega) (by omega) hlgk.1 hlgk.2)).mono ?_; rintro e w4 ⟨rfl, hb4⟩; obtain ⟨fn2, tmps2, assign2, body2, hy2, hR2⟩ := hY _ ⟨_, Sj hlt hlj⟩ w4 (AbidesFrom.ext hJ hJ3 hb4) (by have := Pj (Cg hlt hlj HD.out); rwa [← hpre, ← Xn Qw ⟨c.it1 k j, L9 hlt hlj⟩, O0] at this); simp only [Mo.enc, Qc.it2] at hy2; have hYb4 := (hb4.block (Array.getElem?_eq_some_iff.1 hYb3).1).trans hYb3; obtain ⟨x0, x1, x2, x3⟩ := Kt hYb4; clear z0 z1 z2 z3)
       refine hR2.mono ?_
       rintro e W5 (⟨rfl, hJ5, hk5⟩ | ⟨rfl, hJx5⟩)
       ·clear hR2 hy2
        have hYb5 := hk5.years _ _ _ hYb4
        have hE5 : Qa w₀ W5 := Below.trans (hE3.trans hb4) hk5.below
        obtain ⟨s0, s1, s2, s3⟩ := Kt hYb5
        clear x0 x1 x2 x3 hd1
        have hbl2 := Ws (c.yr k) ((j : Int) + 1) true
        gi_wp2_with (refine ⟨trivial, ?_⟩; gi_at_call 75; refine (callsIn_wide.2 (Vv (c.yr k) _ _ _ (by omega) (by omega) hlgk.1 hlgk.2)).mono ?_; rintro e w6 ⟨rfl, hb6⟩)
        exact ⟨⟨j + 1, by omega, by go_num, by rw [Ir HD.out], _, by rw [Xn, Xn, hpre, Fa HD.out], AbidesFrom.ext hJ hJ5 hb6, hE5.trans hb6, (hb6.block (Array.getElem?_eq_some_iff.1 hYb5).1).trans hYb5⟩, by simp [intOf]; omega⟩
       ·gi_wp2
        refine bodyPost_ret (results_none rfl _ _ _) rfl ?_
        exact ⟨⟨_, rfl⟩, .inr ⟨_, by rw [Xn, Xn, hpre]; exact Cg hlt hlj HD.out, hJx5⟩⟩
      ·have hd1 : ((c.yr k).db != (j : Int) + 1) = true := bne_iff_ne.2 hdb
       have HD := Lib.hid hdb
       clear hdb y0 y1 y2 y3
       gi_wp2_with (refine ⟨trivial, ?_⟩; gi_at_call 75; refine (callsIn_wide.2 (Vv (c.yr k) _ _ _ (by omega) (by omega) hlgk.1 hlgk.2)).mono ?_; rintro e w4 ⟨rfl, hb4⟩; have hYb4 := (hb4.block (Array.getElem?_eq_some_iff.1 hYb3).1).trans hYb3; obtain ⟨x0, x1, x2, x3⟩ := Kt hYb4; clear z0 z1 z2 z3)
       exact ⟨⟨j + 1, by omega, by go_num, by rw [Iq HD.out], _, by rw [Xn, hpre, Ck HD.out], AbidesFrom.ext hJ hJ3 hb4, hE3.trans hb4, (hb4.block (Array.getElem?_eq_some_iff.1 hYb3).1).trans hYb3⟩, by simp [intOf]; omega⟩
     ·gi_wp2
      refine bodyPost_ret (results_none rfl _ _ _) rfl ?_
      exact ⟨⟨_, rfl⟩, .inr ⟨_, by rw [Xn, hpre]; exact Dg hlt hlj, hJx3⟩⟩
    ·obtain rfl : j = 12 := by omega
     gi_wp2
     exact ⟨⟨k + 1, by omega, by go_num, rfl, Qw, by rw [hpre]; rfl, hJp, hE⟩, by simp [intOf]; omega⟩
  ·gi_wp2
   go_end0
   exact ⟨⟨_, rfl⟩, .inl ⟨Qw, by rw [hpre, show k = c.ny from by omega]; rfl, hJp⟩⟩
end
section
open Go Go.RowKit
theorem Qao (w : World) (x0 y0 : Int) (x1 y1 : Int) (x2 y2 : Bool) : (Op.equalIn 10000 117 (.agg #[.int .i64 x0, .int .i64 x1, .bool x2]) (.agg #[.int .i64 y0, .int .i64 y1, .bool y2])).run Tryd.prog w = .ok ((x0 == y0) && ((x1 == y1) && (x2 == y2))) w := by
 go_simp
 by_cases h0 : x0 = y0
 rotate_left
 ·simp [h0]
 by_cases h1 : x1 = y1
 rotate_left
 ·simp [h1]
 by_cases h2 : x2 = y2
 rotate_left
 ·simp [h2]
 simp [h0, h1, h2]
theorem Qaq (w : World) (x0 y0 : Int) (x1 y1 : Int) (x2 y2 : Bool) : (binOp .eql 117 (.agg #[.int .i64 x0, .int .i64 x1, .bool x2]) (.agg #[.int .i64 y0, .int .i64 y1, .bool y2])).run Tryd.prog w = .ok (.bool ((x0 == y0) && ((x1 == y1) && (x2 == y2)))) w := by rw [run_eql_struct, Qao]; rfl
theorem Tf (w : World) (x0 y0 : Int) (x1 y1 : Int) (x2 y2 : Bool) (x3 y3 : Int) : (Op.equalIn 10000 27 (.agg #[.int .i64 x0, .int .i64 x1, .bool x2, .int .i64 x3]) (.agg #[.int .i64 y0, .int .i64 y1, .bool y2, .int .i64 y3])).run Tryd.prog w = .ok ((x0 == y0) && ((x1 == y1) && ((x2 == y2) && (x3 == y3)))) w := by
 go_simp
 by_cases h0 : x0 = y0
 rotate_left
 ·simp [h0]
 by_cases h1 : x1 = y1
 rotate_left
 ·simp [h1]
 by_cases h2 : x2 = y2
 rotate_left
 ·simp [h2]
 by_cases h3 : x3 = y3
 rotate_left
 ·simp [h3]
 simp [h0, h1, h2, h3]
theorem Qap (w : World) (x0 y0 : Int) (x1 y1 : Int) (x2 y2 : Bool) (x3 y3 : Int) : (binOp .eql 27 (.agg #[.int .i64 x0, .int .i64 x1, .bool x2, .int .i64 x3]) (.agg #[.int .i64 y0, .int .i64 y1, .bool y2, .int .i64 y3])).run Tryd.prog w = .ok (.bool ((x0 == y0) && ((x1 == y1) && ((x2 == y2) && (x3 == y3))))) w := by rw [run_eql_struct, Tf]; rfl
theorem Py (w : World) (x0 y0 : Int) (x1 y1 : Int) (x2 y2 : Bool) (x3 y3 : Int) : (binOp .neq 27 (.agg #[.int .i64 x0, .int .i64 x1, .bool x2, .int .i64 x3]) (.agg #[.int .i64 y0, .int .i64 y1, .bool y2, .int .i64 y3])).run Tryd.prog w = .ok (.bool (!((x0 == y0) && ((x1 == y1) && ((x2 == y2) && (x3 == y3)))))) w := by rw [run_neq_struct, Tf]; rfl
end
section
open Go Go.RowKit
attribute [local go_sem] Zi
set_option maxHeartbeats 1000000 in
theorem Sf (A A' : Option Addr) (ca cb : Nat) (c : Qc) (d : Dt) (w : World) (hC : Q8 w A ca A' cb c) (hlg : ∀ i, i < c.ny → 0 ≤ (c.yr i).lg ∧ (c.yr i).lg ≤ 8191) :
  Calls Tryd.prog 50 #[.agg #[.slice A c.nk ca, .slice A' c.ny cb], .agg #[.int .i64 d.y, .int .i64 d.m, .bool d.s, .int .i64 d.d]] w fun e w' => e = .returned (.bool (c.has d)) ∧ Qa w w' := by
 have hny := hC.ny_le
 have H : Hid (c.has d = (!(decide (d.y < 0) || decide ((c.ny : Int) ≤ d.y) || decide (d.m < 1) || decide (12 < d.m)) && ((!d.s || ((c.yrI d.y).db == d.m)) && decide (1 ≤ d.d) && decide (d.d ≤ (c.yrI d.y).len d.m d.s)))) := by
  unfold Hid Qc.has
  rw [Bool.eq_iff_iff]
  cases d.s <;> simp <;> omega
 generalize c.has d = r at *
 go_enter Tryd.func50, Tryd.ntmps50
 go_upto_region 1 with (fail)
 refine Uu w (by repeat (first | exact Qa.refl _ | (refine Qa.alloc ?_ _) | (refine Qa.trans ?_ (by assumption)))) ?_
 intro hne hrx hry
 try simp only []
 try simp only [List.append_eq, List.cons_append, List.nil_append]
 have hrx0 := fun u o => hrx u (w.heap.size) o (by first | omega | (simp; done) | (simp; omega))
 have hrx1 := fun u o => hrx u (w.heap.size + 1) o (by first | omega | (simp; done) | (simp; omega))
 skip
 repeat (first
  | go_big_quiet_skip
  | ((with_reducible apply X8)
     ·exact rfl
     ·exact rfl
     ·exact rfl
     intro K hK
     unfold Q3; go_big_quiet_op; (with_reducible refine hK _ ?_); clear hK K)
  | ((with_reducible apply Wb)
     ·exact rfl
     ·exact rfl
     ·exact rfl
     intro K hK
     unfold Q3; go_big_quiet_op; (with_reducible refine hK _ ?_); clear hK K)
  | (go_big_quiet_want; go_big_quiet_op; go_big_quiet_on)
  | ((with_reducible apply X9)
     ·first | exact Z7 rfl rfl rfl | exact Z6 rfl rfl rfl | exact Z5 rfl rfl rfl | exact Z4 rfl rfl rfl
     ·exact rfl
     ·exact rfl
     ·exact rfl
     intro K hK
     unfold Q3; go_big_quiet_op; (with_reducible refine hK _ ?_); clear hK K)
  | ((with_reducible apply Wc)
     ·first | exact Z7 rfl rfl rfl | exact Z6 rfl rfl rfl | exact Z5 rfl rfl rfl | exact Z4 rfl rfl rfl
     ·exact rfl
     ·exact rfl
     ·exact rfl
     intro K hK
     unfold Q3; go_big_quiet_op; (with_reducible refine hK _ ?_); clear hK K)
  | ((with_reducible apply Xh)
     ·first | exact Z7 rfl rfl rfl | exact Z6 rfl rfl rfl | exact Z5 rfl rfl rfl | exact Z4 rfl rfl rfl
     apply Exists.intro
     refine And.intro (fun hgb => ?_) ?_
     ·intro u
      try simp at hgb
      go_simp
      try simp only [if_pos hsl]
      try simp only [if_pos (hin (by omega))]
      try (simp only [hd0 (by omega)]; go_simp)
      try (rw [hlook _ (Qa.trans (by repeat (first | exact Qa.refl _ | (refine Qa.alloc ?_ _) | (refine Qa.trans ?_ (by assumption)))) u.e) (hlk0 hgb)]; go_simp)
      first
       | (with_reducible exact rfl)
     intro K hK
     unfold Q3; go_big_quiet_op; (with_reducible refine hK _ ?_); clear hK K))
 clear hne hry hrx hrx0 hrx1
 refine wpQuiet_nil ?_
 intro wp hp
 obtain ⟨hcwp, hfwp, hzwp⟩ := Qa.rules hp
 try simp only [World.size_alloc] at hzwp
 have hk0wp := fun o => hcwp (w.heap.size) o (by first | omega | (simp; done) | (simp; omega))
 have hj0wp := fun o => hfwp (w.heap.size) o (by first | omega | (simp; done) | (simp; omega))
 have hl0wp : w.heap.size < wp.heap.size := (by first | omega | (simp; done) | (simp; omega))
 have hk1wp := fun o => hcwp (w.heap.size + 1) o (by first | omega | (simp; done) | (simp; omega))
 have hj1wp := fun o => hfwp (w.heap.size + 1) o (by first | omega | (simp; done) | (simp; omega))
 have hl1wp : w.heap.size + 1 < wp.heap.size := (by first | omega | (simp; done) | (simp; omega))
 obtain ⟨hcbwp, hfbwp, hzbwp⟩ := Qa.rules (show Qa w wp from (by repeat (first | exact Qa.refl _ | (refine Qa.alloc ?_ _) | (refine Qa.trans ?_ (by assumption)))))
 clear hcwp hfwp
 generalize hf : (decide (d.y < 0) || decide ((c.ny : Int) ≤ d.y) || decide (d.m < 1) || decide (12 < d.m)) = f at *
 cases f
 ·have hb4 : 0 ≤ d.y ∧ d.y < c.ny ∧ 1 ≤ d.m ∧ d.m ≤ 12 := by simp only [Bool.or_eq_false_iff, decide_eq_false_iff_not] at hf; omega
  obtain ⟨hy0, hy1, hm0, hm1⟩ := hb4
  clear hf
  obtain ⟨b, off, rfl, hb, c0, c1, c2, c3⟩ := hC.yearI hy0 hy1
  obtain ⟨hl, hl'⟩ : 0 ≤ (c.yrI d.y).lg ∧ (c.yrI d.y).lg ≤ 8191 := hlg _ (by omega)
  clear hlg hC
  generalize c.yrI d.y = yy at *
  go_upto_region 4 with (fail)
  refine Zr w Qr (by kernel_rfl) (by repeat (first | exact Qa.refl _ | (refine Qa.alloc ?_ _) | (refine Qa.trans ?_ (by assumption)))) ?_
  intro hne hrx hry
  try simp only []
  try simp only [List.append_eq, List.cons_append, List.nil_append]
  have hrx0 := fun u o => hrx u (w.heap.size) o (by first | omega | (simp; done) | (simp; omega))
  have hrx1 := fun u o => hrx u (w.heap.size + 1) o (by first | omega | (simp; done) | (simp; omega))
  skip
  repeat (first
   | go_big_quiet_skip
   | ((with_reducible apply X8)
      ·exact rfl
      ·exact rfl
      ·exact rfl
      intro K hK
      unfold Q3; go_big_quiet_op; (with_reducible refine hK _ ?_); clear hK K)
   | ((with_reducible apply Wb)
      ·exact rfl
      ·exact rfl
      ·exact rfl
      intro K hK
      unfold Q3; go_big_quiet_op; (with_reducible refine hK _ ?_); clear hK K)
   | (go_big_quiet_want; go_big_quiet_op; go_big_quiet_on)
   | (go_big_quiet_want; go_big_quiet_op; apply Exists.intro; refine ⟨fun u => ?_, ?_⟩
      ·first
        | (go_at_call 75; refine (Vv yy _ _ _ hm0 hm1 hl hl').mono ?_; rintro e w' ⟨rfl, hb⟩; exact ⟨rfl, u.back hb⟩)
      go_big_quiet_on)
   | ((with_reducible apply X9)
      ·first | exact Z7 rfl rfl rfl | exact Z6 rfl rfl rfl | exact Z5 rfl rfl rfl | exact Z4 rfl rfl rfl
      ·exact rfl
      ·exact rfl
      ·exact rfl
      intro K hK
      unfold Q3; go_big_quiet_op; (with_reducible refine hK _ ?_); clear hK K)
   | ((with_reducible apply Wc)
      ·first | exact Z7 rfl rfl rfl | exact Z6 rfl rfl rfl | exact Z5 rfl rfl rfl | exact Z4 rfl rfl rfl
      ·exact rfl
      ·exact rfl
      ·exact rfl
      intro K hK
      unfold Q3; go_big_quiet_op; (with_reducible refine hK _ ?_); clear hK K)
   | ((with_reducible apply Xh)
      ·first | exact Z7 rfl rfl rfl | exact Z6 rfl rfl rfl | exact Z5 rfl rfl rfl | exact Z4 rfl rfl rfl
      apply Exists.intro
      refine And.intro (fun hgb => ?_) ?_
      ·intro u
       try simp at hgb
       go_simp
       try simp only [if_pos hsl]
       try simp only [if_pos (hin (by omega))]
       try (simp only [hd0 (by omega)]; go_simp)
       try (rw [hlook _ (Qa.trans (by repeat (first | exact Qa.refl _ | (refine Qa.alloc ?_ _) | (refine Qa.trans ?_ (by assumption)))) u.e) (hlk0 hgb)]; go_simp)
       first
        | (with_reducible exact rfl)
        | (go_at_call 75; refine (Vv yy _ _ _ hm0 hm1 hl hl').mono ?_; rintro e w' ⟨rfl, hb⟩; exact ⟨rfl, u.back hb⟩)
      intro K hK
      unfold Q3; go_big_quiet_op; (with_reducible refine hK _ ?_); clear hK K))
  clear hne hry hrx hrx0 hrx1
  refine wpQuiet_nil ?_
  intro wq hq
  obtain ⟨hcwq, hfwq, hzwq⟩ := Qa.rules hq
  try simp only [World.size_alloc] at hzwq
  have hk0wq := fun o => hcwq (w.heap.size) o (by first | omega | (simp; done) | (simp; omega))
  have hj0wq := fun o => hfwq (w.heap.size) o (by first | omega | (simp; done) | (simp; omega))
  have hl0wq : w.heap.size < wq.heap.size := (by first | omega | (simp; done) | (simp; omega))
  have hk1wq := fun o => hcwq (w.heap.size + 1) o (by first | omega | (simp; done) | (simp; omega))
  have hj1wq := fun o => hfwq (w.heap.size + 1) o (by first | omega | (simp; done) | (simp; omega))
  have hl1wq : w.heap.size + 1 < wq.heap.size := (by first | omega | (simp; done) | (simp; omega))
  obtain ⟨hcbwq, hfbwq, hzbwq⟩ := Qa.rules (show Qa w wq from (by repeat (first | exact Qa.refl _ | (refine Qa.alloc ?_ _) | (refine Qa.trans ?_ (by assumption)))))
  clear hcwq hfwq
  go_wp2
  go_ret
  refine ⟨J1 ?_, (by repeat (first | exact Qa.refl _ | (refine Qa.alloc ?_ _) | (refine Qa.trans ?_ (by assumption))))⟩
  rw [H.out]
  rfl
 ·go_wp2
  go_ret
  exact ⟨J1 (by rw [H.out]; rfl), (by repeat (first | exact Qa.refl _ | (refine Qa.alloc ?_ _) | (refine Qa.trans ?_ (by assumption))))⟩
def Kf (f : Nat → ByteArray) (s : ByteArray) (k : Nat) : Prop := ∀ j, j < k → f j ≠ s
theorem Qea {a b : ByteArray} (h : (a.toList == b.toList) = true) : a = b := by rw [← Lc] at h; simpa using h
theorem Qd9 {a b : ByteArray} (h : (a.toList == b.toList) = false) : a ≠ b := by rw [← Lc] at h; simpa using h
def X2 (f : Nat → Yr) (y : Yr) (n : Nat) : Bool := (List.range n).any fun j => (f j).alike y
def Lk (f : Nat → ByteArray) (k : Nat) : Prop := ∀ i j, j < i → i < k → f j ≠ f i
def Wd (f : Nat → ByteArray) (k : Nat) : Bool := (List.range k).all fun i => Zw (f i)
theorem Qb0 {c : Qc} {j k : Nat} (hk : k < c.nk) (hj : j < k) (h : c.kg j = c.kg k) : c.kingsOk = false := by
 rw [Bool.eq_false_iff]
 intro hh
 simp only [Qc.kingsOk, Bool.and_eq_true, List.all_eq_true, List.mem_range] at hh
 have h1 := hh.2 k hk
 simp only [Qc.kingOk, Bool.and_eq_true, List.all_eq_true, List.mem_range, decide_eq_true_eq] at h1
 exact h1.2 j hj h
theorem Qbz {c : Qc} (h : Lk c.kg c.nk) : c.kingsOk = (decide (1 ≤ (c.nk : Int)) && decide ((c.nk : Int) ≤ 40) && Wd c.kg c.nk) := by
 have e : (List.range c.nk).all c.kingOk = Wd c.kg c.nk := by
  rw [Wd, Bool.eq_iff_iff]
  simp only [List.all_eq_true, List.mem_range, Qc.kingOk, Bool.and_eq_true, decide_eq_true_eq]
  exact ⟨fun hh i hi => (hh i hi).1, fun hh i hi => ⟨hh i hi, fun j hj => h i j hj hi⟩⟩
 rw [Qc.kingsOk, e]
 congr 2 <;> simp <;> omega
theorem Qc4 {f : Nat → ByteArray} {s : ByteArray} {k : Nat} (h : Kf f s k) (hk : f k ≠ s) : Kf f s (k + 1) := fun j hj => by
 rcases Nat.lt_or_ge j k with h' | h'
 ·exact h j h'
 ·rw [show j = k from by omega]; exact hk
theorem Qc2 {f : Nat → ByteArray} {k : Nat} (h : Lk f k) (hk : Kf f (f k) k) : Lk f (k + 1) := fun i j hj hi => by
 rcases Nat.lt_or_ge i k with h' | h'
 ·exact h i j hj h'
 ·obtain rfl : i = k := by omega
  exact hk j hj
theorem Qcm (f : Nat → ByteArray) (k : Nat) : Wd f (k + 1) = (Wd f k && Zw (f k)) := by
 rw [Wd, Wd, List.range_succ, List.all_append]; simp
set_option maxHeartbeats 1000000 in
theorem Cr (A : Option Addr) (ca : Nat) (c : Qc) (w : World) (hA : Qo w A c.nk 1 (fun i => [.string (c.kg i)])) (hn : c.nk ≤ 9223372036854775807) (hcap : c.nk ≤ ca) :
  Calls Tryd.prog 73 #[.slice A c.nk ca] w fun e w' => e = .returned (.bool c.kingsOk) ∧ Qa w w' := by
 go_enter Tryd.func73, Tryd.ntmps73
 go_upto_region 1 with (fail)
 go_step3
 go_upto_region 1 with (fail)
 refine Uu w (by repeat (first | exact Qa.refl _ | (refine Qa.alloc ?_ _) | (refine Qa.trans ?_ (by assumption)))) ?_
 intro hne hrx hry
 try simp only []
 try simp only [List.append_eq, List.cons_append, List.nil_append]
 skip
 repeat (first
  | go_big_quiet_skip
  | ((with_reducible apply X8)
     ·exact rfl
     ·exact rfl
     ·exact rfl
     intro K hK
     unfold Q3; go_big_quiet_op; (with_reducible refine hK _ ?_); clear hK K)
  | ((with_reducible apply Wb)
     ·exact rfl
     ·exact rfl
     ·exact rfl
     intro K hK
     unfold Q3; go_big_quiet_op; (with_reducible refine hK _ ?_); clear hK K)
  | (go_big_quiet_want; go_big_quiet_op; go_big_quiet_on)
  | ((with_reducible apply X9)
     ·first | exact Z7 rfl rfl rfl | exact Z6 rfl rfl rfl | exact Z5 rfl rfl rfl | exact Z4 rfl rfl rfl
     ·exact rfl
     ·exact rfl
     ·exact rfl
     intro K hK
     unfold Q3; go_big_quiet_op; (with_reducible refine hK _ ?_); clear hK K)
  | ((with_reducible apply Wc)
     ·first | exact Z7 rfl rfl rfl | exact Z6 rfl rfl rfl | exact Z5 rfl rfl rfl | exact Z4 rfl rfl rfl
     ·exact rfl
     ·exact rfl
     ·exact rfl
     intro K hK
     unfold Q3; go_big_quiet_op; (with_reducible refine hK _ ?_); clear hK K)
  | ((with_reducible apply Xh)
     ·first | exact Z7 rfl rfl rfl | exact Z6 rfl rfl rfl | exact Z5 rfl rfl rfl | exact Z4 rfl rfl rfl
     apply Exists.intro
     refine And.intro (fun hgb => ?_) ?_
     ·intro u
      try simp at hgb
      go_simp
      try simp only [if_pos hsl]
      try simp only [if_pos (hin (by omega))]
      try (simp only [hd0 (by omega)]; go_simp)
      try (rw [hlook _ (Qa.trans (by repeat (first | exact Qa.refl _ | (refine Qa.alloc ?_ _) | (refine Qa.trans ?_ (by assumption)))) u.e) (hlk0 hgb)]; go_simp)
      first
       | (with_reducible exact rfl)
     intro K hK
     unfold Q3; go_big_quiet_op; (with_reducible refine hK _ ?_); clear hK K))
 clear hne hry hrx
 refine wpQuiet_nil ?_
 intro wq hq
 obtain ⟨hcwq, hfwq, hzwq⟩ := Qa.rules hq
 try simp only [World.size_alloc] at hzwq
 obtain ⟨hcbwq, hfbwq, hzbwq⟩ := Qa.rules (show Qa w wq from (by repeat (first | exact Qa.refl _ | (refine Qa.alloc ?_ _) | (refine Qa.trans ?_ (by assumption)))))
 clear hcwq hfwq
 go_wp2
 go_step3
 go_wp2
 go_loopw [3, 18] (fun o i wr => ∃ k : Nat, k ≤ c.nk ∧ i = .int .i64 k ∧ o = .bool (decide (1 ≤ (c.nk : Int)) && decide ((c.nk : Int) ≤ 40) && Wd c.kg k) ∧ Lk c.kg k ∧ Qa w wr) (fun _ i _ => c.nk - (intOf i).toNat)
 case atStart => exact ⟨0, Nat.zero_le _, rfl, by simp [Wd], (fun i j _ h => absurd h (by omega)), hq⟩
 case round =>
  obtain ⟨k, hk, rfl, rfl, hN, hB⟩ := hrel
  clear hq hzwq hcbwq hfbwq hzbwq
  obtain ⟨wo, rfl⟩ := Qg wr
  obtain ⟨hcwo, hfwo, hzwo⟩ := Qa.rules hB
  try simp only [World.size_alloc] at hzwo
  obtain ⟨hcbwo, hfbwo, hzbwo⟩ := Qa.rules (show Qa w wo from (by repeat (first | exact Qa.refl _ | (refine Qa.alloc ?_ _) | (refine Qa.trans ?_ (by assumption)))))
  clear hcwo hfwo
  by_cases hlt : k < c.nk
  ·obtain ⟨b, off, rfl, hb, hc⟩ := hA (by omega)
   have hc' : ∀ j, j < c.nk → w.cell? ⟨b, off + j, none⟩ = some (.string (c.kg j)) := fun j hj => by simpa using hc j 0 _ hj rfl
   have c0 := hc' k hlt
   clear hc hA
   go_wp2
   go_loop [3, 27] (fun o i => ∃ j : Nat, j ≤ k ∧ i = .int .i64 j ∧ o = .bool (decide (1 ≤ (c.nk : Int)) && decide ((c.nk : Int) ≤ 40) && Wd c.kg k) ∧ Kf c.kg (c.kg k) j) (fun _ i => k - (intOf i).toNat)
   case atStart => exact ⟨0, Nat.zero_le _, rfl, rfl, fun j h => absurd h (by omega)⟩
   case round =>
    obtain ⟨j, hj, rfl, rfl, hT⟩ := hrel
    by_cases hlj : j < k
    ·have c1 := hc' j (by omega)
     go_wp2
     ·go_ret
      exact ⟨J1 (Qb0 hlt hlj (Qea ‹_›)).symm, (by repeat (first | exact Qa.refl _ | (refine Qa.alloc ?_ _) | (refine Qa.trans ?_ (by assumption))))⟩
     ·have hne := Qd9 (a := c.kg j) (b := c.kg k) ‹_›
      exact ⟨⟨j + 1, by omega, by go_num, rfl, Qc4 hT hne⟩, by simp [intOf]; omega⟩
    ·have hTk : Kf c.kg (c.kg k) k := fun i hi => hT i (by omega)
     go_upto_region 11 with (fail)
     refine Uu w (by repeat (first | exact Qa.refl _ | (refine Qa.alloc ?_ _) | (refine Qa.trans ?_ (by assumption)))) ?_
     intro hne hrx hry
     try simp only []
     try simp only [List.append_eq, List.cons_append, List.nil_append]
     skip
     repeat (first
      | go_big_quiet_skip
      | ((with_reducible apply X8)
         ·exact rfl
         ·exact rfl
         ·exact rfl
         intro K hK
         unfold Q3; go_big_quiet_op; (with_reducible refine hK _ ?_); clear hK K)
      | ((with_reducible apply Wb)
         ·exact rfl
         ·exact rfl
         ·exact rfl
         intro K hK
         unfold Q3; go_big_quiet_op; (with_reducible refine hK _ ?_); clear hK K)
      | (go_big_quiet_want; go_big_quiet_op; go_big_quiet_on)
      | (go_big_quiet_want; go_big_quiet_op; apply Exists.intro; refine ⟨fun u => ?_, ?_⟩
         ·first
           | (go_at_call 74; refine (Ul _ _).mono ?_; rintro e w' ⟨rfl, rfl⟩; exact ⟨rfl, u, rfl⟩)
         go_big_quiet_on)
      | ((with_reducible apply X9)
         ·first | exact Z7 rfl rfl rfl | exact Z6 rfl rfl rfl | exact Z5 rfl rfl rfl | exact Z4 rfl rfl rfl
         ·exact rfl
         ·exact rfl
         ·exact rfl
         intro K hK
         unfold Q3; go_big_quiet_op; (with_reducible refine hK _ ?_); clear hK K)
      | ((with_reducible apply Wc)
         ·first | exact Z7 rfl rfl rfl | exact Z6 rfl rfl rfl | exact Z5 rfl rfl rfl | exact Z4 rfl rfl rfl
         ·exact rfl
         ·exact rfl
         ·exact rfl
         intro K hK
         unfold Q3; go_big_quiet_op; (with_reducible refine hK _ ?_); clear hK K)
      | ((with_reducible apply Xh)
         ·first | exact Z7 rfl rfl rfl | exact Z6 rfl rfl rfl | exact Z5 rfl rfl rfl | exact Z4 rfl rfl rfl
         apply Exists.intro
         refine And.intro (fun hgb => ?_) ?_
         ·intro u
          try simp at hgb
          go_simp
          try simp only [if_pos hsl]
          try simp only [if_pos (hin (by omega))]
          try (simp only [hd0 (by omega)]; go_simp)
          try (rw [hlook _ (Qa.trans (by repeat (first | exact Qa.refl _ | (refine Qa.alloc ?_ _) | (refine Qa.trans ?_ (by assumption)))) u.e) (hlk0 hgb)]; go_simp)
          first
           | (with_reducible exact rfl)
           | (go_at_call 74; refine (Ul _ _).mono ?_; rintro e w' ⟨rfl, rfl⟩; exact ⟨rfl, u, rfl⟩)
         intro K hK
         unfold Q3; go_big_quiet_op; (with_reducible refine hK _ ?_); clear hK K))
     clear hne hry hrx
     refine wpQuiet_nil ?_
     intro wn hwn
     obtain ⟨hcwn, hfwn, hzwn⟩ := Qa.rules hwn
     try simp only [World.size_alloc] at hzwn
     obtain ⟨hcbwn, hfbwn, hzbwn⟩ := Qa.rules (show Qa w wn from (by repeat (first | exact Qa.refl _ | (refine Qa.alloc ?_ _) | (refine Qa.trans ?_ (by assumption)))))
     clear hcwn hfwn
     go_wp2
     exact ⟨⟨k + 1, by omega, by go_num, by simp only [Qcm, Bool.and_assoc], Qc2 hN hTk, (by repeat (first | exact Qa.refl _ | (refine Qa.alloc ?_ _) | (refine Qa.trans ?_ (by assumption))))⟩, by simp [intOf]; omega⟩
  ·go_wp2
   rw [Exit.noGoto_ret]
   go_ret
   exact ⟨J1 (by rw [Qbz (fun i j hj hi => hN i j hj (by omega)), show c.nk = k from by omega]), (by repeat (first | exact Qa.refl _ | (refine Qa.alloc ?_ _) | (refine Qa.trans ?_ (by assumption))))⟩
def Uz (c : Qc) (k : Nat) : Prop := ∀ i, i < k → c.yearOk i = true
theorem Qa3 (c : Qc) (y : Yr) (k : Nat) : c.hadTo y k = X2 c.yr y k := rfl
theorem Qdw {c : Qc} {k : Nat} (h : Uz c k) : 0 ≤ c.prevK k ∧ (0 < k → c.prevK k = (c.yr (k - 1)).k) := by
 induction k with
 | zero => exact ⟨Int.le_refl _, fun h => absurd h (by omega)⟩
 | succ k ih =>
  have h1 := ih (fun i hi => h i (by omega))
  have h2 := h k (by omega)
  simp only [Qc.yearOk, Bool.and_eq_true, decide_eq_true_eq] at h2
  refine ⟨?_, fun _ => rfl⟩
  show 0 ≤ (c.yr k).k
  omega
theorem Bl (y : Yr) : y.shapeOk = !(decide (y.db < 0) || decide (12 < y.db) || decide (y.lg < 0) || decide (8191 < y.lg) || (y.db == 0 && decide (4096 ≤ y.lg))) := by
 rw [Yr.shapeOk, Bool.eq_iff_iff]; simp; omega
theorem Qez {c : Qc} {k : Nat} (hk : k < c.ny) (h : c.yearOk k = false) : c.valid = false := by
 rw [Bool.eq_false_iff]; intro hh
 simp only [Qc.valid, Bool.and_eq_true, List.all_eq_true, List.mem_range] at hh
 rw [hh.2 k hk] at h; cases h
theorem B8 {p : Nat → Bool} {k : Nat} (h : ∀ i, i < k → p i = true) (hk : p k = true) : ∀ i, i < k + 1 → p i = true := fun i hi => by
 rcases Nat.lt_or_ge i k with h' | h'
 ·exact h i h'
 ·rw [show i = k from by omega]; exact hk
end
section
open Go Go.RowKit
open Go.Maps
theorem Pw : (143 : TypeId) < Tryd.prog.types.size := of_decide_eq_true (by kernel_rfl)
theorem Qcu : (match Tryd.prog.underlying 143 with | some (.array _ _) | some (.struct _) => true | _ => false) = true := by kernel_rfl
theorem Qdz : laidOutB Tryd.prog = true := by kernel_rfl
theorem Mm : Keyed Tryd.prog 143 := Keyed.of_law (Go.deep_law_laid Qdz (m := 2) (by omega) Pw (by kernel_rfl) Qcu)
theorem Pv : Tryd.prog.underlying 140 = some (.map 143 4) := by kernel_rfl
theorem Qcv (w : World) : (zeroValue 4).run Tryd.prog w = .ok (.bool false) w := by kernel_rfl
theorem Oa : Tryd.prog.underlying 4 = some .bool := by kernel_rfl
def Lx : Option TypeDesc → Array Field
 | some (.struct fs) => fs
 | _ => #[]
theorem Qct : Tryd.prog.underlying 143 = some (.struct (Lx (Tryd.prog.underlying 143))) := by kernel_rfl
theorem Qcq : (Lx (Tryd.prog.underlying 143)).toList.map (fun f => (f.type, f.offset)) = [(3, 0), (9, 1)] := by kernel_rfl
theorem Qcs : (Lx (Tryd.prog.underlying 143)).all (·.name != "_") = true := by kernel_rfl
theorem Pu : Tryd.prog.cellsOf 143 = 2 := by kernel_rfl
theorem Qcr : Tryd.prog.keyType 143 = true := by kernel_rfl
theorem Qer : ∃ m, Tryd.prog.types.size = m + 1 + 1 := by
 have h : (2 : Nat) ≤ Tryd.prog.types.size := Nat.le_trans (show (2 : Nat) ≤ 143 by decide) (Nat.le_of_lt Pw)
 exact ⟨Tryd.prog.types.size - 2, by omega⟩
/-- What the pair of a king's place and a name reads as. -/
def Nq (k : Int) (nm : ByteArray) : Lit := .string (keyBytes [.int .i64 k, .string nm.data.toList])
theorem Mc {k : Int} {nm : ByteArray} (hk : (Lit.int .i64 k).wf = true) (hn : nm.size ≤ maxLen) : keyOf Tryd.prog 143 (.agg #[.int .i64 k, .string nm]) = some (Nq k nm) := by
 obtain ⟨m, hm⟩ := Qer
 have hf := Qcq
 have hN := Qcs
 have hU := Qct
 generalize Lx (Tryd.prog.underlying 143) = fs at hf hN hU
 obtain ⟨l⟩ := fs
 simp only [List.map_eq_cons_iff, List.map_eq_nil_iff] at hf
 obtain ⟨f0, _, rfl, e0, f1, _, rfl, e1, rfl⟩ := hf
 simp only [Prod.mk.injEq] at e0 e1
 unfold keyOf
 simp only [hU]
 rw [if_pos (by simp [Qcr, Value.formed, hU, Pu]), hm]
 unfold Program.keyLits
 simp only [hU, Value.cells]
 rw [if_pos ⟨by rw [Pu]; rfl, hN⟩, List.mapM_cons, List.mapM_cons, List.mapM_nil]
 rw [e0.1, e0.2, e1.1, e1.2]
 have c3 : Tryd.prog.cellsOf 3 = 1 := by kernel_rfl
 have c9 : Tryd.prog.cellsOf 9 = 1 := by kernel_rfl
 simp [c3, c9, Program.keyLits, hk, hn, Nq]
/-- What the map holds after the first n years. -/
def U8 {H : Type} (f : Nat → Yr) : Nat → DataW H
 | 0 => .map []
 | n + 1 => (U8 f n).put (Nq (f n).k (f n).nm) (.lit (.bool true))
theorem Tu {H : Type} (f : Nat → Yr) : ∀ n, IsMap (U8 (H := H) f n)
 | 0 => isMap_empty
 | n + 1 => (Tu f n).put _ _
def Wo (y : Yr) : Prop := (Lit.int .i64 y.k).wf = true ∧ y.nm.size ≤ maxLen
theorem Tt {H : Type} {f : Nat → Yr} {y : Yr} (hy : Wo y) : ∀ n, (∀ j, j < n → Wo (f j)) → (U8 (H := H) f n).atKey (Nq y.k y.nm) (.lit (.bool false)) = .lit (.bool (X2 f y n))
 | 0, _ => rfl
 | n + 1, h => by
  have ih := Tt (H := H) hy n (fun j hj => h j (by omega))
  have kf := Mc (h n (by omega)).1 (h n (by omega)).2
  have ky := Mc hy.1 hy.2
  have e : X2 f y (n + 1) = (X2 f y n || (f n).alike y) := by rw [X2, X2, List.range_succ, List.any_append]; simp
  rw [e]
  by_cases he : (f n).alike y = true
  ·have h1 : (f n).k = y.k ∧ (f n).nm = y.nm := by simpa [Yr.alike] using he
   rw [he, Bool.or_true, U8, h1.1, h1.2]
   exact atKey_put_same (Tu f n) (Mm.key ky) _ _
  ·rw [Bool.not_eq_true] at he
   rw [he, Bool.or_false, ← ih, U8]
   refine atKey_put_other (fun hl => ?_) _ _
   have h2 := Mm.inj ky (by rw [hl]; exact kf)
   simp at h2
   rw [Yr.alike, h2.1, h2.2] at he
   simp at he
/-- The lookup in the walk. -/
theorem Qa4 {H : Type} {w : World} {b m n : Nat} {f : Nat → Yr} {y : Yr} (hm : w.ownsMap Tryd.prog 143 (plainElem (H := H) Tryd.prog 4) b m (U8 f n)) (hy : Wo y) (hf : ∀ j, j < n → Wo (f j)) :
  (Instr.lookup 140 (.map (some b)) (.agg #[.int .i64 y.k, .string y.nm]) false).run Tryd.prog w = .ok (.bool (X2 f y n)) w := by
 obtain ⟨v, ps, hrun, hv⟩ := hm.lookup Mm Pv (Qcv w) (plainElem_bool Oa false) (Mc hy.1 hy.2)
 rw [Tt hy n hf] at hv
 rw [hrun]
 simp only [plainElem, Oa] at hv
 split at hv <;> simp_all
end
section
open Go Go.RowKit
open Go.Maps
attribute [local go_sem] Zi
theorem Dk {H : Type} {P : Program} {k : TypeId} {R : Value → Option (DataW H × List MemPlace)} {w w' : World} {b n : Nat} {D : DataW H} (h : w.ownsMap P k R b n D) (e : Qa w w') : w'.ownsMap P k R b n D := by
 have hlt := h.lt
 obtain ⟨es, clock, hb, F, hs, hD⟩ := h
 exact ⟨es, clock, (e.block hlt).trans hb, F, hs, hD⟩
theorem Sz {y : Yr} {n : Int} (h0 : 0 ≤ y.k) (h1 : y.k < n) (hn : n ≤ 9223372036854775807) (hs : Zw y.nm = true) : Wo y := by
 refine ⟨?_, ?_⟩
 ·simp [Lit.wf, IntKind.min, IntKind.max, IntKind.signed, IntKind.bits]; omega
 ·simp only [Zw, Bool.and_eq_true, decide_eq_true_eq] at hs
  have : maxLen = 9223372036854775807 := rfl
  omega
theorem Dz {c : Qc} {k : Nat} (h : Uz c k) : 0 ≤ c.prevK k := (Qdw h).1
theorem S0 {c : Qc} {k : Nat} (h : Uz c k) (hn : c.nk ≤ 9223372036854775807) : ∀ j, j < k → Wo (c.yr j) := fun j hj => by
 have h1 := h j hj
 have h2 := Dz (c := c) (k := j) (fun i hi => h i (by omega))
 simp only [Qc.yearOk, Bool.and_eq_true, decide_eq_true_eq] at h1
 exact Sz (n := c.nk) (by omega) (by omega) (by omega) (by simp_all)
theorem Qfe (c : Qc) (k : Nat) : c.yearOk k =
  !(decide ((c.yr k).k < c.prevK k) || decide ((c.nk : Int) ≤ (c.yr k).k) || !Zw (c.yr k).nm || X2 c.yr (c.yr k) k || decide ((c.yr k).db < 0) || decide (12 < (c.yr k).db) || decide ((c.yr k).lg < 0) || decide (8191 < (c.yr k).lg) || ((c.yr k).db == 0 && decide (4096 ≤ (c.yr k).lg))) := by
 rw [Qc.yearOk, Qa3, Bl, Bool.eq_iff_iff]
 cases Zw (c.yr k).nm <;> cases X2 c.yr (c.yr k) k <;> simp <;> omega
theorem Qex {c : Qc} (h : (!c.kingsOk || decide ((c.ny : Int) < 1) || decide (400 < (c.ny : Int))) = true) : c.valid = false := by
 rw [Bool.eq_false_iff]; intro hh
 simp only [Qc.valid, Bool.and_eq_true, decide_eq_true_eq] at hh
 simp only [Bool.or_eq_true, decide_eq_true_eq, Bool.not_eq_true'] at h
 rcases h with (h | h) | h
 ·rw [hh.1.1.1] at h; cases h
 ·omega
 ·omega
theorem Qe0 {c : Qc} (h : (!c.kingsOk || decide ((c.ny : Int) < 1) || decide (400 < (c.ny : Int))) = false) (hy : Uz c c.ny) : c.valid = true := by
 simp only [Bool.or_eq_false_iff, decide_eq_false_iff_not, Bool.not_eq_false'] at h
 simp only [Qc.valid, Bool.and_eq_true, List.all_eq_true, List.mem_range, decide_eq_true_eq]
 exact ⟨⟨⟨h.1.1, by omega⟩, by omega⟩, hy⟩
theorem Nm (A A' : Option Addr) (ca cb : Nat) (c : Qc) (w : World) (hC : Q8 w A ca A' cb c) :
  Calls Tryd.prog 49 #[.agg #[.slice A c.nk ca, .slice A' c.ny cb]] w fun e w' => e = .returned (.bool c.valid) ∧ Qa w w' := by
 have hnk := hC.nk_le
 have hny := hC.ny_le
 have hcapk := hC.nk_cap
 have hcapy := hC.ny_cap
 have hmm := @run_makeMap Tryd.prog
 go_enter Tryd.func49, Tryd.ntmps49
 go_upto_region 1 with (fail)
 refine Uu w (by repeat (first | exact Qa.refl _ | (refine Qa.alloc ?_ _) | (refine Qa.trans ?_ (by assumption)))) ?_
 intro hne hrx hry
 try simp only []
 try simp only [List.append_eq, List.cons_append, List.nil_append]
 have hrx0 := fun u o => hrx u (w.heap.size) o (by first | omega | (simp; done) | (simp; omega))
 skip
 repeat (first
  | go_big_quiet_skip
  | ((with_reducible apply X8)
     ·exact rfl
     ·exact rfl
     ·exact rfl
     intro K hK
     unfold Q3; go_big_quiet_op; (with_reducible refine hK _ ?_); clear hK K)
  | ((with_reducible apply Wb)
     ·exact rfl
     ·exact rfl
     ·exact rfl
     intro K hK
     unfold Q3; go_big_quiet_op; (with_reducible refine hK _ ?_); clear hK K)
  | (go_big_quiet_want; go_big_quiet_op; go_big_quiet_on)
  | (go_big_quiet_want; go_big_quiet_op; apply Exists.intro; refine ⟨fun u => ?_, ?_⟩
     ·first
       | (go_at_call 73; refine (Cr _ _ c _ (hC.kings.ext (Qa.trans (by repeat (first | exact Qa.refl _ | (refine Qa.alloc ?_ _) | (refine Qa.trans ?_ (by assumption)))) u.e)) (by omega) (by omega)).mono ?_; rintro e w' ⟨rfl, hb⟩; exact ⟨rfl, u.back hb⟩)
     go_big_quiet_on)
  | ((with_reducible apply X9)
     ·first | exact Z7 rfl rfl rfl | exact Z6 rfl rfl rfl | exact Z5 rfl rfl rfl | exact Z4 rfl rfl rfl
     ·exact rfl
     ·exact rfl
     ·exact rfl
     intro K hK
     unfold Q3; go_big_quiet_op; (with_reducible refine hK _ ?_); clear hK K)
  | ((with_reducible apply Wc)
     ·first | exact Z7 rfl rfl rfl | exact Z6 rfl rfl rfl | exact Z5 rfl rfl rfl | exact Z4 rfl rfl rfl
     ·exact rfl
     ·exact rfl
     ·exact rfl
     intro K hK
     unfold Q3; go_big_quiet_op; (with_reducible refine hK _ ?_); clear hK K)
  | ((with_reducible apply Xh)
     ·first | exact Z7 rfl rfl rfl | exact Z6 rfl rfl rfl | exact Z5 rfl rfl rfl | exact Z4 rfl rfl rfl
     apply Exists.intro
     refine And.intro (fun hgb => ?_) ?_
     ·intro u
      try simp at hgb
      go_simp
      try simp only [if_pos hsl]
      try simp only [if_pos (hin (by omega))]
      try (simp only [hd0 (by omega)]; go_simp)
      try (rw [hlook _ (Qa.trans (by repeat (first | exact Qa.refl _ | (refine Qa.alloc ?_ _) | (refine Qa.trans ?_ (by assumption)))) u.e) (hlk0 hgb)]; go_simp)
      first
       | (with_reducible exact rfl)
       | (go_at_call 73; refine (Cr _ _ c _ (hC.kings.ext (Qa.trans (by repeat (first | exact Qa.refl _ | (refine Qa.alloc ?_ _) | (refine Qa.trans ?_ (by assumption)))) u.e)) (by omega) (by omega)).mono ?_; rintro e w' ⟨rfl, hb⟩; exact ⟨rfl, u.back hb⟩)
     intro K hK
     unfold Q3; go_big_quiet_op; (with_reducible refine hK _ ?_); clear hK K))
 clear hne hry hrx hrx0
 refine wpQuiet_nil ?_
 intro wq hq
 obtain ⟨hcwq, hfwq, hzwq⟩ := Qa.rules hq
 try simp only [World.size_alloc] at hzwq
 have hk0wq := fun o => hcwq (w.heap.size) o (by first | omega | (simp; done) | (simp; omega))
 have hj0wq := fun o => hfwq (w.heap.size) o (by first | omega | (simp; done) | (simp; omega))
 have hl0wq : w.heap.size < wq.heap.size := (by first | omega | (simp; done) | (simp; omega))
 obtain ⟨hcbwq, hfbwq, hzbwq⟩ := Qa.rules (show Qa w wq from (by repeat (first | exact Qa.refl _ | (refine Qa.alloc ?_ _) | (refine Qa.trans ?_ (by assumption)))))
 clear hcwq hfwq
 generalize hf : (!c.kingsOk || decide ((c.ny : Int) < 1) || decide (400 < (c.ny : Int))) = f at *
 have HF : Hid (_ = f) := hf
 clear hf
 cases f
 ·go_wp2
  have hB0 : Qa (w.alloc (.cells #[.slice A c.nk ca, .slice A' c.ny cb] 25)) wq := hq
  go_loopw [4, 27] (fun kg i wr => ∃ k : Nat, k ≤ c.ny ∧ i = .int .i64 k ∧ kg = .int .i64 (c.prevK k) ∧ Uz c k ∧ Qa (w.alloc (.cells #[.slice A c.nk ca, .slice A' c.ny cb] 25)) wr ∧
   wr.ownsMap Tryd.prog 143 (plainElem (H := Unit) Tryd.prog 4) wq.heap.size k (U8 c.yr k)) (fun _ i _ => c.ny - (intOf i).toNat)
  case atStart => exact ⟨0, Nat.zero_le _, rfl, rfl, (fun i h => absurd h (by omega)), Qa.alloc hq _, World.ownsMap_made _ _ _ _⟩
  case round =>
   obtain ⟨k, hk, rfl, rfl, hY, hB, hM⟩ := hrel
   clear hzwq hk0wq hj0wq hl0wq hcbwq hfbwq hzbwq
   obtain ⟨wo, rfl⟩ := Qg wr
   obtain ⟨hcwo, hfwo, hzwo⟩ := Qa.rules hB
   try simp only [World.size_alloc] at hzwo
   have hk0wo := fun o => hcwo (w.heap.size) o (by first | omega | (simp; done) | (simp; omega))
   have hj0wo := fun o => hfwo (w.heap.size) o (by first | omega | (simp; done) | (simp; omega))
   have hl0wo : w.heap.size < wo.heap.size := (by first | omega | (simp; done) | (simp; omega))
   obtain ⟨hcbwo, hfbwo, hzbwo⟩ := Qa.rules (show Qa w wo from (by repeat (first | exact Qa.refl _ | (refine Qa.alloc ?_ _) | (refine Qa.trans ?_ (by assumption)))))
   clear hcwo hfwo
   by_cases hlt : k < c.ny
   ·obtain ⟨b, off, rfl, hb, c0, c1, c2, c3⟩ := hC.year hlt
    have HY : Hid (c.yearOk k = _) := Qfe c k
    have hbo : b < wo.heap.size := by omega
    have h0 := Dz hY
    have hlook : ∀ w', Qa wo w' → Wo (c.yr k) → (Instr.lookup 140 (.map (some wq.heap.size)) (.agg #[.int .i64 (c.yr k).k, .string (c.yr k).nm]) false).run Tryd.prog w' = .ok (.bool (X2 c.yr (c.yr k) k)) w' :=
     fun w' e hy => Qa4 (Dk hM e) hy (S0 hY hnk)
    have hlk0 : (c.prevK k ≤ (c.yr k).k ∧ (c.yr k).k < c.nk) ∧ Zw (c.yr k).nm = true → Wo (c.yr k) := fun h => Sz (by omega) h.1.2 (by omega) h.2
    go_upto_region 8 with (fail)
    refine Uu wo (by repeat (first | exact Qa.refl _ | (refine Qa.alloc ?_ _) | (refine Qa.trans ?_ (by assumption)))) ?_
    intro hne hrx hry
    try simp only []
    try simp only [List.append_eq, List.cons_append, List.nil_append]
    have hrx0 := fun u o => hrx u (wo.heap.size) o (by first | omega | (simp; done) | (simp; omega))
    skip
    repeat (first
     | go_big_quiet_skip
     | ((with_reducible apply X8)
        ·exact rfl
        ·exact rfl
        ·exact rfl
        intro K hK
        unfold Q3; go_big_quiet_op; (with_reducible refine hK _ ?_); clear hK K)
     | ((with_reducible apply Wb)
        ·exact rfl
        ·exact rfl
        ·exact rfl
        intro K hK
        unfold Q3; go_big_quiet_op; (with_reducible refine hK _ ?_); clear hK K)
     | (go_big_quiet_want; go_big_quiet_op; go_big_quiet_on)
     | (go_big_quiet_want; go_big_quiet_op; apply Exists.intro; refine ⟨fun u => ?_, ?_⟩
        ·first
          | (go_at_call 74; refine (Ul _ _).mono ?_; rintro e w' ⟨rfl, rfl⟩; exact ⟨rfl, u, rfl⟩)
        go_big_quiet_on)
     | ((with_reducible apply X9)
        ·first | exact Z7 rfl rfl rfl | exact Z6 rfl rfl rfl | exact Z5 rfl rfl rfl | exact Z4 rfl rfl rfl
        ·exact rfl
        ·exact rfl
        ·exact rfl
        intro K hK
        unfold Q3; go_big_quiet_op; (with_reducible refine hK _ ?_); clear hK K)
     | ((with_reducible apply Wc)
        ·first | exact Z7 rfl rfl rfl | exact Z6 rfl rfl rfl | exact Z5 rfl rfl rfl | exact Z4 rfl rfl rfl
        ·exact rfl
        ·exact rfl
        ·exact rfl
        intro K hK
        unfold Q3; go_big_quiet_op; (with_reducible refine hK _ ?_); clear hK K)
     | ((with_reducible apply Xh)
        ·first | exact Z7 rfl rfl rfl | exact Z6 rfl rfl rfl | exact Z5 rfl rfl rfl | exact Z4 rfl rfl rfl
        apply Exists.intro
        refine And.intro (fun hgb => ?_) ?_
        ·intro u
         try simp at hgb
         go_simp
         try simp only [if_pos hsl]
         try simp only [if_pos (hin (by omega))]
         try (simp only [hd0 (by omega)]; go_simp)
         try (rw [hlook _ (Qa.trans (by repeat (first | exact Qa.refl _ | (refine Qa.alloc ?_ _) | (refine Qa.trans ?_ (by assumption)))) u.e) (hlk0 hgb)]; go_simp)
         first
          | (with_reducible exact rfl)
          | (go_at_call 74; refine (Ul _ _).mono ?_; rintro e w' ⟨rfl, rfl⟩; exact ⟨rfl, u, rfl⟩)
        intro K hK
        unfold Q3; go_big_quiet_op; (with_reducible refine hK _ ?_); clear hK K))
    clear hne hry hrx hrx0
    refine wpQuiet_nil ?_
    intro wn hwn
    obtain ⟨hcwn, hfwn, hzwn⟩ := Qa.rules hwn
    try simp only [World.size_alloc] at hzwn
    have hk0wn := fun o => hcwn (wo.heap.size) o (by first | omega | (simp; done) | (simp; omega))
    have hj0wn := fun o => hfwn (wo.heap.size) o (by first | omega | (simp; done) | (simp; omega))
    have hl0wn : wo.heap.size < wn.heap.size := (by first | omega | (simp; done) | (simp; omega))
    obtain ⟨hcbwn, hfbwn, hzbwn⟩ := Qa.rules (show Qa wo wn from (by repeat (first | exact Qa.refl _ | (refine Qa.alloc ?_ _) | (refine Qa.trans ?_ (by assumption)))))
    clear hcwn hfwn
    generalize hs : (decide ((c.yr k).k < c.prevK k) || decide ((c.nk : Int) ≤ (c.yr k).k) || !Zw (c.yr k).nm || X2 c.yr (c.yr k) k || decide ((c.yr k).db < 0) || decide (12 < (c.yr k).db) || decide ((c.yr k).lg < 0) || decide (8191 < (c.yr k).lg) || ((c.yr k).db == 0 && decide (4096 ≤ (c.yr k).lg))) = s at *
    have HS : Hid (c.yearOk k = !s) := HY.out
    clear hs HY
    cases s
    ·have hY1 : Uz c (k + 1) := B8 hY HS.out
     have hyk : Wo (c.yr k) := S0 hY1 hnk k (by omega)
     have hMn := Dk hM (w' := wn) (Qa.trans (by repeat (first | exact Qa.refl _ | (refine Qa.alloc ?_ _) | (refine Qa.trans ?_ (by assumption)))) hwn)
     obtain ⟨w1, hrun1, hM1, hg1⟩ := hMn.update Mm Pv (show k < 9223372036854775807 by omega) (Mc hyk.1 hyk.2) (plainElem_bool Oa true)
     have hsz : (w.alloc (.cells #[.slice A c.nk ca, .slice (some ⟨b, off, none⟩) c.ny cb] 25)).heap.size ≤ wq.heap.size := hB0.size
     have hE1 : Qa (w.alloc (.cells #[.slice A c.nk ca, .slice (some ⟨b, off, none⟩) c.ny cb] 25)) w1 := Qa.grown (w := wn) (by repeat (first | exact Qa.refl _ | (refine Qa.alloc ?_ _) | (refine Qa.trans ?_ (by assumption)))) hg1 (fun j hj => by cases hj; exact hsz)
     go_wp2
     exact ⟨⟨k + 1, by omega, by go_num, rfl, hY1, hE1, hM1⟩, by simp [intOf]; omega⟩
    ·go_wp2
     go_ret
     exact ⟨J1 (Qez hlt HS.out).symm, (by repeat (first | exact Qa.refl _ | (refine Qa.alloc ?_ _) | (refine Qa.trans ?_ (by assumption))))⟩
   ·have hY' : Uz c c.ny := fun i hi => hY i (by omega)
    go_wp2
    go_ret
    exact ⟨J1 (Qe0 HF.out hY').symm, (by repeat (first | exact Qa.refl _ | (refine Qa.alloc ?_ _) | (refine Qa.trans ?_ (by assumption))))⟩
 ·go_wp2
  go_ret
  exact ⟨J1 (Qex HF.out).symm, (by repeat (first | exact Qa.refl _ | (refine Qa.alloc ?_ _) | (refine Qa.trans ?_ (by assumption))))⟩
end
section
open Go Go.RowKit
attribute [local go_sem] Zi
theorem Rr {c : Qc} (h : c.valid = true) : c.chk = 0 := by simp [Qc.chk, h]
theorem Rq {c : Qc} (h : c.valid = false) : c.chk = 70 := by simp [Qc.chk, h]
set_option maxHeartbeats 1000000 in
theorem Ew (A A' : Option Addr) (ca cb : Nat) (c : Qc) (w : World) (hC : Q8 w A ca A' cb c) :
  Calls Tryd.prog 67 #[.agg #[.slice A c.nk ca, .slice A' c.ny cb]] w fun e w' => e = .returned (.int .i64 c.chk) ∧ Qa w w' := by
 go_enter Tryd.func67, Tryd.ntmps67
 go_upto_region 1 with (fail)
 refine Uu w (by repeat (first | exact Qa.refl _ | (refine Qa.alloc ?_ _) | (refine Qa.trans ?_ (by assumption)))) ?_
 intro hne hrx hry
 try simp only []
 try simp only [List.append_eq, List.cons_append, List.nil_append]
 have hrx0 := fun u o => hrx u (w.heap.size) o (by first | omega | (simp; done) | (simp; omega))
 skip
 repeat (first
  | go_big_quiet_skip
  | ((with_reducible apply X8)
     ·exact rfl
     ·exact rfl
     ·exact rfl
     intro K hK
     unfold Q3; go_big_quiet_op; (with_reducible refine hK _ ?_); clear hK K)
  | ((with_reducible apply Wb)
     ·exact rfl
     ·exact rfl
     ·exact rfl
     intro K hK
     unfold Q3; go_big_quiet_op; (with_reducible refine hK _ ?_); clear hK K)
  | (go_big_quiet_want; go_big_quiet_op; go_big_quiet_on)
  | (go_big_quiet_want; go_big_quiet_op; apply Exists.intro; refine ⟨fun u => ?_, ?_⟩
     ·first
       | (go_at_call 49; refine (Nm _ _ _ _ c _ (hC.ext (Qa.trans (by repeat (first | exact Qa.refl _ | (refine Qa.alloc ?_ _) | (refine Qa.trans ?_ (by assumption)))) u.e))).mono ?_; rintro e w' ⟨rfl, hb⟩; exact ⟨rfl, u.back hb⟩)
     go_big_quiet_on)
  | ((with_reducible apply X9)
     ·first | exact Z7 rfl rfl rfl | exact Z6 rfl rfl rfl | exact Z5 rfl rfl rfl | exact Z4 rfl rfl rfl
     ·exact rfl
     ·exact rfl
     ·exact rfl
     intro K hK
     unfold Q3; go_big_quiet_op; (with_reducible refine hK _ ?_); clear hK K)
  | ((with_reducible apply Wc)
     ·first | exact Z7 rfl rfl rfl | exact Z6 rfl rfl rfl | exact Z5 rfl rfl rfl | exact Z4 rfl rfl rfl
     ·exact rfl
     ·exact rfl
     ·exact rfl
     intro K hK
     unfold Q3; go_big_quiet_op; (with_reducible refine hK _ ?_); clear hK K)
  | ((with_reducible apply Xh)
     ·first | exact Z7 rfl rfl rfl | exact Z6 rfl rfl rfl | exact Z5 rfl rfl rfl | exact Z4 rfl rfl rfl
     apply Exists.intro
     refine And.intro (fun hgb => ?_) ?_
     ·intro u
      try simp at hgb
      go_simp
      try simp only [if_pos hsl]
      try simp only [if_pos (hin (by omega))]
      try (simp only [hd0 (by omega)]; go_simp)
      try (rw [hlook _ (Qa.trans (by repeat (first | exact Qa.refl _ | (refine Qa.alloc ?_ _) | (refine Qa.trans ?_ (by assumption)))) u.e) (hlk0 hgb)]; go_simp)
      first
       | (with_reducible exact rfl)
       | (go_at_call 49; refine (Nm _ _ _ _ c _ (hC.ext (Qa.trans (by repeat (first | exact Qa.refl _ | (refine Qa.alloc ?_ _) | (refine Qa.trans ?_ (by assumption)))) u.e))).mono ?_; rintro e w' ⟨rfl, hb⟩; exact ⟨rfl, u.back hb⟩)
     intro K hK
     unfold Q3; go_big_quiet_op; (with_reducible refine hK _ ?_); clear hK K))
 clear hne hry hrx hrx0
 refine wpQuiet_nil ?_
 intro wq hq
 obtain ⟨hcwq, hfwq, hzwq⟩ := Qa.rules hq
 try simp only [World.size_alloc] at hzwq
 have hk0wq := fun o => hcwq (w.heap.size) o (by first | omega | (simp; done) | (simp; omega))
 have hj0wq := fun o => hfwq (w.heap.size) o (by first | omega | (simp; done) | (simp; omega))
 have hl0wq : w.heap.size < wq.heap.size := (by first | omega | (simp; done) | (simp; omega))
 obtain ⟨hcbwq, hfbwq, hzbwq⟩ := Qa.rules (show Qa w wq from (by repeat (first | exact Qa.refl _ | (refine Qa.alloc ?_ _) | (refine Qa.trans ?_ (by assumption)))))
 clear hcwq hfwq
 generalize hv : c.valid = v at *
 cases v
 ·go_wp2
  go_ret
  exact ⟨Wx (Rq hv).symm, (by repeat (first | exact Qa.refl _ | (refine Qa.alloc ?_ _) | (refine Qa.trans ?_ (by assumption))))⟩
 ·go_wp2
  go_ret
  exact ⟨Wx (Rr hv).symm, (by repeat (first | exact Qa.refl _ | (refine Qa.alloc ?_ _) | (refine Qa.trans ?_ (by assumption))))⟩
end
end Go.Proofs.YtneiofnlmblglaaDoor
