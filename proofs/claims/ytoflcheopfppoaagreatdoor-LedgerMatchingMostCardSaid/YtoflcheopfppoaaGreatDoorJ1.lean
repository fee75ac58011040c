/- Walks of the program's functions and plain facts, packed; proved: the lemmas below; no conditions but those that each states. -/
import Derived.WalkKit
import Derived.WalkSpells
import Derived.Deep.Quiet
import Derived.Deep.QuietTactic
import Derived.Deep.LoopGhost
import Derived.BigQuiet
import Derived.Deep.Cut
import Derived.Test.YtoflcheopfppoaaGreatDoorProg
import Derived.Test.YtoflcheopfppoaaGreatDoorRows
import Derived.Deep.Slices
import Derived.Deep.Fields
import Derived.Below
import Derived.ReadAgain
import Derived.ChangeSame
import Derived.ProofKit
import Derived.OpenShut
import Derived.SizedLaws
import Derived.Outline
import Derived.StillTail
import Derived.OrdersIn
import Derived.TacticsIn
import Derived.RangeFuncNested
import Derived.RangeFuncBound
import Derived.RangeFuncLeaves
import Derived.OwnWalkIn
import Derived.TacticsInMore
import Derived.LoopNIn
import Derived.LoopIn
import Derived.Lib.Hide
import Derived.Laws.StructEq
import Derived.Maps.Own
import Derived.Maps.Views
import Derived.DeepKeys4
set_option maxRecDepth 100000
set_option maxHeartbeats 4000000
namespace Go.Proofs.YtoflcheopfppoaaGreatDoor
section
theorem Qc {α : Type _} {xs : List α} {i : Nat} (h : i < xs.toArray.size) : xs.toArray[i] = xs[i]'(by simpa using h) := List.getElem_toArray h
theorem Qd {α : Type _} {a : α} {l : List α} {i : Nat} (h : i + 1 < (a :: l).length) : (a :: l)[i + 1] = l[i]'(Nat.lt_of_succ_lt_succ h) := List.getElem_cons_succ a l i h
theorem Qg {α : Sort _} (a : α) : ∃ b, b = a := ⟨a, rfl⟩
theorem Qe {α : Type _} {a : α} {l : List α} (h : 0 < (a :: l).length) : (a :: l)[0] = a := rfl
end
section
open Go Go.RowKit
/-- w is W and new blocks: what lay in W lies as it lay. -/
def Qa (W w : World) : Prop := Below W.heap.size W w
namespace Qa
theorem refl (W : World) : Qa W W := Below.refl _ _
theorem trans {a b c : World} (h : Qa a b) (k : Qa b c) : Qa a c := Below.trans h (Below.mono k (Below.size h))
theorem alloc {W w : World} (h : Qa W w) (o : Obj) : Qa W (w.alloc o) := Below.alloc h (Below.size h) o
theorem drew {W w : World} (h : Qa W w) : Qa W w.drew := Below.drew h
theorem size {W w : World} (h : Qa W w) : W.heap.size ≤ w.heap.size := Below.size h
theorem setCell {W w : World} (h : Qa W w) {p : Addr} (hp : W.heap.size ≤ p.block) (u : Value) : Qa W (w.setCell p u) := Below.setCell h hp u
theorem grown {W w w' : World} {row : Option Nat} (h : Qa W w) (hg : w.grownBy w' row) (hr : ∀ k, row = some k → W.heap.size ≤ k) : Qa W w' := Below.grown h hg (Below.size h) hr
theorem below {W w : World} (h : Qa W w) : Below W.heap.size W w := h
theorem cell {W w : World} (h : Qa W w) {p : Addr} (hp : p.block < W.heap.size) : w.cell? p = W.cell? p := Below.cell h hp
theorem block {W w : World} (h : Qa W w) {k : Nat} (hk : k < W.heap.size) : w.heap[k]? = W.heap[k]? := Below.block h k hk
/-- The rules that the walk uses. -/
theorem rules {W w : World} (h : Qa W w) : (∀ b o, b < W.heap.size → w.cell? ⟨b, o, none⟩ = W.cell? ⟨b, o, none⟩) ∧ (∀ b o, b < W.heap.size → w.frozen? ⟨b, o, none⟩ = W.frozen? ⟨b, o, none⟩) ∧ W.heap.size ≤ w.heap.size :=
 ⟨fun b o hb => Below.cell h (p := ⟨b, o, none⟩) hb, fun b o hb => Below.frozen h (p := ⟨b, o, none⟩) hb, Below.size h⟩
end Qa
section
variable {P : Program} {ops : Array Oper} {C : World → Prop} {Q : Act → Prop} {a : Act} {o : Oper} {rest : List Oper}
end
/-! ### A quicker check that the Ua of the text serves every Ua -/
def G3 (ops : Array Oper) (k j : Nat) : Bool :=
 match ops[k]?, ops[j]? with
 | some ok, some oj => oj.after.any (fun e => Region.binds .any e && e.on == k) || ok.apart ops oj
 | _, _ => true
def G4 (ops : Array Oper) (k : Nat) : Bool :=
 match ops[k]? with
 | some ok => ok.after.all (fun e => !Region.binds .any e || decide (e.on < k))
 | none => true
def M4 (ops : Array Oper) : Bool :=
 Region.noSelect ops && (List.range ops.size).all fun j => G4 ops j && (List.range j).all fun k => G3 ops k j
theorem Nk {n k i : Nat} {L : Array Bool} (hL : L.size = n ∧ ∀ i, i < n → L[i]? = some (decide (i < k))) (hi : i < n) (d : Bool) : L.getD i d = decide (i < k) := by
 simp [Array.getD_eq_getD_getElem?, hL.2 i hi]
theorem Dg {ops : Array Oper} (h : ∀ j, j < ops.size → G4 ops j = true ∧ ∀ k, k < j → G3 ops k j = true) : ∀ (m k : Nat) (L : Array Bool), k + m = ops.size →
  (L.size = ops.size ∧ ∀ i, i < ops.size → L[i]? = some (decide (i < k))) → Region.lexFrom .any ops m k L = true
 | 0, k, L, hk, hL => by
  simp only [Region.lexFrom, List.isEmpty_iff]
  apply List.eq_nil_iff_forall_not_mem.2
  intro i hi
  rw [mem_ready] at hi
  obtain ⟨h0, o, ho, _⟩ := hi
  have hlt : i < ops.size := (Array.getElem?_eq_some_iff.1 ho).1
  rw [Nk hL hlt] at h0
  simp at h0; omega
 | m + 1, k, L, hk, hL => by
  have hkn : k < ops.size := by omega
  simp only [Region.lexFrom, Bool.and_eq_true]
  refine ⟨⟨?_, ?_⟩, ?_⟩
  ·rw [List.contains_iff_mem, mem_ready]
   have hok : ops[k]? = some ops[k] := Array.getElem?_eq_getElem hkn
   refine ⟨by rw [Nk hL hkn]; simp, _, hok, fun e he hb => ?_⟩
   have hr := (h k hkn).1
   simp only [G4, hok] at hr
   have := Array.all_eq_true_iff_forall_mem.1 hr e he
   simp only [hb, Bool.not_true, Bool.false_or, decide_eq_true_eq] at this
   rw [Nk hL (by omega)]; simpa using this
  ·have hok : ops[k]? = some ops[k] := Array.getElem?_eq_getElem hkn
   simp only [Region.free, hok, List.all_eq_true, List.mem_range]
   intro j hj
   by_cases hjk : j = k
   ·simp [hjk]
   ·by_cases hlt : j < k
    ·have := Nk hL hj true
     simp only [hlt, decide_true] at this
     simp [this]
    ·have hp := (h j hj).2 k (by omega)
     have hoj : ops[j]? = some ops[j] := Array.getElem?_eq_getElem hj
     simp only [G3, hok, hoj] at hp
     simp only [hoj]
     rw [Bool.or_eq_true]
     exact .inr hp
  ·refine Dg h m (k + 1) _ (by omega) ⟨by simp [hL.1], fun i hi => ?_⟩
   rw [Array.getElem?_setIfInBounds]
   by_cases hki : k = i
   ·subst hki; simp [hL.1, hi]
   ·rw [if_neg hki, hL.2 i hi]
    congr 1; simp; omega
theorem Df {ops : Array Oper} (h : M4 ops = true) : Region.lexB .any ops = true := by
 simp only [M4, Bool.and_eq_true, List.all_eq_true, List.mem_range] at h
 simp only [Region.lexB, Bool.and_eq_true]
 refine ⟨h.1, Dg (fun j hj => ⟨(h.2 j hj).1, fun k hk => (h.2 j hj).2 k hk⟩) _ 0 _ (by simp) ⟨by simp, fun i hi => ?_⟩⟩
 simp [hi]
/-- A world that is W and new blocks. -/
structure XW (W : World) where
 w : World
 e : Qa W w
theorem XW.some (W : World) : Nonempty (XW W) := ⟨⟨W, Qa.refl W⟩⟩
theorem XW.cell {W : World} (u : XW W) (b o : Nat) (h : b < W.heap.size) : u.w.cell? ⟨b, o, none⟩ = W.cell? ⟨b, o, none⟩ := u.e.cell (p := ⟨b, o, none⟩) h
theorem XW.from {W w : World} (u : XW W) (h : Qa w W) (b o : Nat) (hb : b < w.heap.size) : u.w.cell? ⟨b, o, none⟩ = w.cell? ⟨b, o, none⟩ := (h.trans u.e).cell (p := ⟨b, o, none⟩) hb
/-- A region that draws its Ua: one walk in the Ua of the text, each operation in whatever world is w and new blocks. -/
theorem Zb {P : Program} {id : Nat} {Q : Exit → Act → World → Prop} {a : Act} {w : World} {l : List Oper} (w₀ : World) (hm : P.follows .mixedOrders = true) (hB : M4 l.toArray = true) (he : Qa w₀ w)
  (h : Nonempty (XW w) → (∀ (u : XW w) b o, b < w.heap.size → u.w.cell? ⟨b, o, none⟩ = w.cell? ⟨b, o, none⟩) → (∀ (u : XW w) b o, b < w₀.heap.size → u.w.cell? ⟨b, o, none⟩ = w₀.cell? ⟨b, o, none⟩) →
   wpQuiet P l.toArray (fun w' => ∃ u : XW w, w' = u.w) (fun a' => ∀ w', Qa w w' → Q .normal a' w') l a) : (Code.region id l.toArray true).wp P Q a w := by
 refine wp_region_quiet (C := fun w' => ∃ u : XW w, w' = u.w) hm (Df hB) ⟨⟨{ w with drawn := w.drawn + 1 }, ⟨rfl, rfl, rfl, Nat.le_refl _, fun _ _ => rfl⟩⟩, rfl⟩ ?_
 have e : (fun a' => ∀ w', (∃ u : XW w, w' = u.w) → Q .normal a' w') = (fun a' => ∀ w', Qa w w' → Q .normal a' w') := by
  funext a'
  exact propext ⟨fun h w' he => h w' ⟨⟨w', he⟩, rfl⟩, fun h w' ⟨u, hu⟩ => by subst hu; exact h _ u.e⟩
 rw [e]
 simpa using h (XW.some w) (fun u => u.cell) (fun u => u.from he)
/-- A callee's contract, met in such a world. -/
theorem XW.back {W : World} (u : XW W) {w' : World} (h : Qa u.w w') : ∃ v : XW W, w' = v.w := ⟨⟨w', u.e.trans h⟩, rfl⟩
/-- The same for a region that draws nothing. -/
theorem Tn {P : Program} {ops : Array Oper} {C : World → Prop} {Q : Exit → Act → World → Prop} {Q' : Act → Prop} (hQ : ∀ a w, C w → Q' a → Q .normal a w) :
  ∀ (l : List Oper) (a : Act) (w : World), C w → wpQuiet P ops C Q' l a → wpList P ops Q l a w
 | [], a, w, hw, h => hQ a w hw h
 | o :: l, a, w, hw, h => by
  unfold wpQuiet at h
  unfold wpList
  split
  ·rename_i hc
   rw [if_pos hc] at h
   exact .inl (Oper.wp_of_quiet hw (fun a' w' hw' h' => Tn hQ l a' w' hw' h') h)
  ·rename_i hc
   rw [if_neg hc] at h
   exact Tn hQ l _ w hw h
theorem Vh {P : Program} {id : Nat} {Q : Exit → Act → World → Prop} {a : Act} {w : World} {l : List Oper} (w₀ : World) (he : Qa w₀ w)
  (h : Nonempty (XW w) → (∀ (u : XW w) b o, b < w.heap.size → u.w.cell? ⟨b, o, none⟩ = w.cell? ⟨b, o, none⟩) → (∀ (u : XW w) b o, b < w₀.heap.size → u.w.cell? ⟨b, o, none⟩ = w₀.cell? ⟨b, o, none⟩) →
   wpQuiet P l.toArray (fun w' => ∃ u : XW w, w' = u.w) (fun a' => ∀ w', Qa w w' → Q .normal a' w') l a) : (Code.region id l.toArray false).wp P Q a w :=
 wp_region_lit (Tn (C := fun w' => ∃ u : XW w, w' = u.w) (Q' := fun a' => ∀ w', Qa w w' → Q .normal a' w') (fun _ w' ⟨u, hu⟩ h => h w' (hu ▸ u.e)) l a w ⟨⟨w, Qa.refl w⟩, rfl⟩
  (h (XW.some w) (fun u => u.cell) (fun u => u.from he)))
/-! ### Guards that stay open -/
/-- A slot that was written under the guard b. -/
def gv (b : Bool) (v : Value) : Value := if b then v else undef
theorem Zq {b : Bool} {v : Value} (h : b = true) : gv b v = v := by rw [h]; rfl
section
variable {P : Program} {ops : Array Oper} {W : World} {Q : Act → Prop} {a : Act} {rest : List Oper} {d : Option Tmp} {op : Op} {ty : TypeId} {pos : String} {after : Array Edge} {gd : Option (Nat × Bool)}
/-- What follows, asked as of a 'move' of the value that is known: so that the frame is written out cheaply. -/
def Q0 (P : Program) (W : World) (d : Option Tmp) (v : Value) (a : Act) (K : Act → Prop) : Prop := Oper.quiet P ⟨d, .move (.const v), 0, "", #[], none⟩ a (fun w' => ∃ u : XW W, w' = u.w) K
theorem Q0.out {v : Value} {K : Act → Prop} (h : Q0 P W d v a K) : K (a.put d v) := by
 obtain ⟨v', h1, h2⟩ := h
 have h3 := h1 W ⟨⟨W, Qa.refl W⟩, rfl⟩
 unfold Oper.quietAt at h3
 rw [BigFrame.run_move (.const v) rfl] at h3
 obtain ⟨_, rfl⟩ := h3
 exact h2
theorem Xv {b : Bool} (hw : Region.wanted ⟨d, op, ty, pos, after, gd⟩ (yielded ops a.tmps) = b)
  (hg : ∃ v, (b = true → ∀ u : XW W, Oper.quietAt P ⟨d, op, ty, pos, after, gd⟩ a (fun w' => ∃ u : XW W, w' = u.w) u.w v) ∧
   (∀ K : Act → Prop, (∀ a, wpQuiet P ops (fun w' => ∃ u : XW W, w' = u.w) Q rest a → K a) → Q0 P W d (gv b v) a K)) :
  wpQuiet P ops (fun w' => ∃ u : XW W, w' = u.w) Q (⟨d, op, ty, pos, after, gd⟩ :: rest) a := by
 obtain ⟨v, h1, h2⟩ := hg
 have h3 := (h2 _ (fun _ h => h)).out
 unfold wpQuiet
 cases b
 ·rw [if_neg (by simp [hw])]; exact h3
 ·rw [if_pos hw]; exact ⟨v, fun w ⟨u, hu⟩ => by subst hu; exact h1 rfl u, h3⟩
theorem Ot {o : Oper} {c x y : Operand} {w : World} {b : Bool} (ho : o.op = .pick c x y) (h1 : a.eval c = .bool b) : (execOp a.eval o).run P w = .ok (.value (if b then a.eval x else a.eval y)) w := by
 simp only [execOp, ho, h1]; cases b <;> rfl
theorem Cj {v : Value} (hw : Region.wanted ⟨d, op, ty, pos, after, gd⟩ (yielded ops a.tmps) = true) (hv : ∀ w, (execOp a.eval ⟨d, op, ty, pos, after, gd⟩).run P w = .ok (.value v) w)
  (hK : ∀ K : Act → Prop, (∀ a, wpQuiet P ops (fun w' => ∃ u : XW W, w' = u.w) Q rest a → K a) → Q0 P W d v a K) : wpQuiet P ops (fun w' => ∃ u : XW W, w' = u.w) Q (⟨d, op, ty, pos, after, gd⟩ :: rest) a := by
 unfold wpQuiet
 rw [if_pos hw]
 exact ⟨v, fun w _ => by unfold Oper.quietAt; rw [hv w]; exact ⟨rfl, rfl⟩, (hK _ (fun _ h => h)).out⟩
theorem Wr {c x y : Operand} {b z : Bool} (h1 : a.eval c = .bool b) (h2 : a.eval x = gv b (.bool z)) (h3 : a.eval y = .bool false)
  (hK : ∀ K : Act → Prop, (∀ a, wpQuiet P ops (fun w' => ∃ u : XW W, w' = u.w) Q rest a → K a) → Q0 P W d (.bool (b && z)) a K) :
  wpQuiet P ops (fun w' => ∃ u : XW W, w' = u.w) Q (⟨d, .pick c x y, ty, pos, after, none⟩ :: rest) a :=
 Cj rfl (fun w => by rw [Ot rfl h1, h2, h3]; cases b <;> rfl) hK
theorem Wu {c x y : Operand} {b z : Bool} (h1 : a.eval c = .bool b) (h2 : a.eval x = .bool true) (h3 : a.eval y = gv (!b) (.bool z))
  (hK : ∀ K : Act → Prop, (∀ a, wpQuiet P ops (fun w' => ∃ u : XW W, w' = u.w) Q rest a → K a) → Q0 P W d (.bool (b || z)) a K) :
  wpQuiet P ops (fun w' => ∃ u : XW W, w' = u.w) Q (⟨d, .pick c x y, ty, pos, after, none⟩ :: rest) a :=
 Cj rfl (fun w => by rw [Ot rfl h1, h2, h3]; cases b <;> rfl) hK
theorem Ws {c x y : Operand} {g b z : Bool} (hw : Region.wanted ⟨d, .pick c x y, ty, pos, after, gd⟩ (yielded ops a.tmps) = g) (h1 : a.eval c = gv g (.bool b)) (h2 : a.eval x = gv (g && b) (.bool z)) (h3 : a.eval y = .bool false)
  (hK : ∀ K : Act → Prop, (∀ a, wpQuiet P ops (fun w' => ∃ u : XW W, w' = u.w) Q rest a → K a) → Q0 P W d (gv g (.bool (b && z))) a K) :
  wpQuiet P ops (fun w' => ∃ u : XW W, w' = u.w) Q (⟨d, .pick c x y, ty, pos, after, gd⟩ :: rest) a := by
 refine Xv hw ⟨.bool (b && z), fun hg u => ?_, hK⟩
 subst hg
 unfold Oper.quietAt
 rw [Ot rfl h1, h2, h3]; cases b <;> exact ⟨rfl, rfl⟩
theorem Wv {c x y : Operand} {g b z : Bool} (hw : Region.wanted ⟨d, .pick c x y, ty, pos, after, gd⟩ (yielded ops a.tmps) = g) (h1 : a.eval c = gv g (.bool b)) (h2 : a.eval x = .bool true) (h3 : a.eval y = gv (g && !b) (.bool z))
  (hK : ∀ K : Act → Prop, (∀ a, wpQuiet P ops (fun w' => ∃ u : XW W, w' = u.w) Q rest a → K a) → Q0 P W d (gv g (.bool (b || z))) a K) :
  wpQuiet P ops (fun w' => ∃ u : XW W, w' = u.w) Q (⟨d, .pick c x y, ty, pos, after, gd⟩ :: rest) a := by
 refine Xv hw ⟨.bool (b || z), fun hg u => ?_, hK⟩
 subst hg
 unfold Oper.quietAt
 rw [Ot rfl h1, h2, h3]; cases b <;> exact ⟨rfl, rfl⟩
variable {o : Oper} {j t : Nat} {x g : Bool}
theorem Je (hg : o.guard = some (j, true)) (hd : (ops[j]?).bind (·.dst) = some t) (hv : a.tmps[t]? = some (.bool x)) : Region.wanted o (yielded ops a.tmps) = x := by
 simp only [Region.wanted, hg, yielded, hd, Option.bind_some, hv]; cases x <;> rfl
theorem Jd (hg : o.guard = some (j, false)) (hd : (ops[j]?).bind (·.dst) = some t) (hv : a.tmps[t]? = some (.bool x)) : Region.wanted o (yielded ops a.tmps) = !x := by
 simp only [Region.wanted, hg, yielded, hd, Option.bind_some, hv]; cases x <;> rfl
theorem Jc (hg : o.guard = some (j, true)) (hd : (ops[j]?).bind (·.dst) = some t) (hv : a.tmps[t]? = some (gv g (.bool x))) : Region.wanted o (yielded ops a.tmps) = (g && x) := by
 simp only [Region.wanted, hg, yielded, hd, Option.bind_some, hv]; cases g <;> cases x <;> rfl
theorem Jb (hg : o.guard = some (j, false)) (hd : (ops[j]?).bind (·.dst) = some t) (hv : a.tmps[t]? = some (gv g (.bool x))) : Region.wanted o (yielded ops a.tmps) = (g && !x) := by
 simp only [Region.wanted, hg, yielded, hd, Option.bind_some, hv]; cases g <;> cases x <;> rfl
end
/-! ### Slices that read as lists -/
/-- The slice value '.slice A n _' reads in w as n elements of sz cells: element i's cell j is (f i)[j]. -/
def Qo (w : World) (A : Option Addr) (n sz : Nat) (f : Nat → List Value) : Prop :=
 0 < n → ∃ b off, A = some ⟨b, off, none⟩ ∧ b < w.heap.size ∧ ∀ i j v, i < n → (f i)[j]? = some v → w.cell? ⟨b, off + i * sz + j, none⟩ = some v
theorem Qo.ext {w w' : World} {A : Option Addr} {n sz : Nat} {f : Nat → List Value} (h : Qo w A n sz f) (e : Qa w w') : Qo w' A n sz f := fun hn => by
 obtain ⟨b, off, hA, hb, hc⟩ := h hn
 exact ⟨b, off, hA, Nat.lt_of_lt_of_le hb e.size, fun i j v hi hv => (e.cell (p := ⟨b, _, none⟩) hb).trans (hc i j v hi hv)⟩
theorem Qo.nil {w : World} {A : Option Addr} {sz : Nat} {f : Nat → List Value} : Qo w A 0 sz f := fun h => absurd h (by omega)
theorem Qo.take {w : World} {A : Option Addr} {n m sz : Nat} {f : Nat → List Value} (h : Qo w A n sz f) (hm : m ≤ n) : Qo w A m sz f := fun h0 => by
 obtain ⟨b, off, hA, hb, hc⟩ := h (by omega)
 exact ⟨b, off, hA, hb, fun i j v hi hv => hc i j v (by omega) hv⟩
theorem Qo.congr {w : World} {A : Option Addr} {n sz : Nat} {f g : Nat → List Value} (h : Qo w A n sz f) (hg : ∀ i, i < n → f i = g i) : Qo w A n sz g := fun h0 => by
 obtain ⟨b, off, hA, hb, hc⟩ := h h0
 exact ⟨b, off, hA, hb, fun i j v hi hv => hc i j v hi (by rw [hg i hi]; exact hv)⟩
/-! ### What a call hands back -/
theorem Yc {a b : Bool} (h : a = b) : Ending.returned (.bool a) = .returned (.bool b) := by rw [h]
theorem Uv {k : IntKind} {a b : Int} (h : a = b) : Ending.returned (.int k a) = .returned (.int k b) := by rw [h]
end
section
/-! ### Names -/
def Ur (c : UInt8) : Bool := decide (97 ≤ c.toNat) && decide (c.toNat ≤ 122)
def digB (c : UInt8) : Bool := decide (48 ≤ c.toNat) && decide (c.toNat ≤ 57)
def Vb (c : UInt8) : Bool := Ur c || digB c || decide (c.toNat = 95)
def U3 (s : ByteArray) : Bool := s.data.toList.all Vb
def Ja (s : ByteArray) : Bool := decide (1 ≤ s.size) && decide (s.size ≤ 16) && Ur (s.data.toList.headD 0) && U3 s
/-! ### Data -/
structure Yr where
 k : Int
 nm : ByteArray
 lg : Int
 db : Int
/-- nk kings kg 0 .., ny years yr 0 .. -/
structure Qf where
 nk : Nat
 kg : Nat → ByteArray
 ny : Nat
 yr : Nat → Yr
structure Dt where
 y : Int
 m : Int
 s : Bool
 d : Int
 deriving DecidableEq
structure Tr where
 d : Int
 more : Bool
 m : Int
 s : Bool
 nm : ByteArray
 af : Int
 kg : ByteArray
structure Sp where
 a : Int
 b : Int
 deriving DecidableEq
/-- A month of a calendar and the number of its first day. -/
structure It where
 y : Nat
 n : Int
 s : Bool
 first : Int
/-! ### Validity -/
def Yr.alike (x y : Yr) : Bool := decide (x.k = y.k) && decide (x.nm = y.nm)
def Qf.hadTo (c : Qf) (y : Yr) (i : Nat) : Bool := (List.range i).any fun j => (c.yr j).alike y
def Qf.prevK (c : Qf) : Nat → Int
 | 0 => 0
 | i + 1 => (c.yr i).k
def Yr.shapeOk (y : Yr) : Bool := decide (0 ≤ y.db ∧ y.db ≤ 12 ∧ 0 ≤ y.lg ∧ y.lg ≤ 8191 ∧ ¬ (y.db = 0 ∧ 4096 ≤ y.lg))
def Qf.yearOk (c : Qf) (i : Nat) : Bool :=
 decide (c.prevK i ≤ (c.yr i).k) && decide ((c.yr i).k < c.nk) && Ja (c.yr i).nm && !c.hadTo (c.yr i) i && (c.yr i).shapeOk
def Qf.kingOk (c : Qf) (i : Nat) : Bool := Ja (c.kg i) && (List.range i).all fun j => decide (c.kg j ≠ c.kg i)
def Qf.kingsOk (c : Qf) : Bool := decide (1 ≤ c.nk) && decide (c.nk ≤ 40) && (List.range c.nk).all c.kingOk
def Qf.valid (c : Qf) : Bool := c.kingsOk && decide (1 ≤ c.ny) && decide (c.ny ≤ 400) && (List.range c.ny).all c.yearOk
/-! ### Months and days -/
def Gf (lg : Int) (b : Nat) : Bool := decide (lg / 2 ^ b % 2 = 1)
def X4 (lg : Int) (b : Nat) : Int := if Gf lg b then 30 else 29
def Yr.len (y : Yr) (n : Int) (s : Bool) : Int := X4 y.lg (if s then 12 else n.toNat - 1)
/-- The months 1 to k of a year. -/
def Yr.moTo (y : Yr) : Nat → List (Int × Bool)
 | 0 => []
 | k + 1 => y.moTo k ++ (((k : Int) + 1, false) :: (if y.db = (k : Int) + 1 then [((k : Int) + 1, true)] else []))
def Yr.mos (y : Yr) : List (Int × Bool) := y.moTo 12
def Yr.lens (y : Yr) : List (Int × Bool) → Int
 | [] => 0
 | p :: l => y.len p.1 p.2 + y.lens l
def Yr.days (y : Yr) : Int := y.lens y.mos
def Ju (i : Nat) (y : Yr) : Int → List (Int × Bool) → List It
 | _, [] => []
 | day, p :: l => ⟨i, p.1, p.2, day⟩ :: Ju i y (day + y.len p.1 p.2) l
/-- The number of the first day of year i. -/
def Qf.dayAt (c : Qf) : Nat → Int
 | 0 => 1
 | i + 1 => c.dayAt i + (c.yr i).days
def Qf.itemsTo (c : Qf) : Nat → List It
 | 0 => []
 | i + 1 => c.itemsTo i ++ Ju i (c.yr i) (c.dayAt i) (c.yr i).mos
def Qf.items (c : Qf) : List It := c.itemsTo c.ny
def Qf.all (c : Qf) : Int := c.dayAt c.ny - 1
def Qf.yrI (c : Qf) (y : Int) : Yr := c.yr y.toNat
/-- Is a date in the calendar? -/
def Qf.has (c : Qf) (d : Dt) : Bool :=
 decide (0 ≤ d.y ∧ d.y < c.ny) && decide (1 ≤ d.m ∧ d.m ≤ 12) && (!d.s || decide ((c.yrI d.y).db = d.m)) && decide (1 ≤ d.d ∧ d.d ≤ (c.yrI d.y).len d.m d.s)
def It.of (x : It) (d : Dt) : Bool := decide ((x.y : Int) = d.y) && decide (x.n = d.m) && (x.s == d.s)
/-- The number of a day, and of its month; k months lie before l. -/
def Ya (d : Dt) : List It → Int → Int × Int
 | [], _ => (0, 0)
 | x :: l, k => if x.of d then (x.first + d.d - 1, k + 1) else Ya d l (k + 1)
def Qf.num (c : Qf) (d : Dt) : Int × Int := Ya d c.items 0
def It.len (c : Qf) (x : It) : Int := (c.yr x.y).len x.n x.s
/-- The date of a day. -/
def Qf.atFrom (c : Qf) (n : Int) : List It → Option Dt
 | [] => none
 | x :: l => if x.first ≤ n ∧ n - x.first < x.len c then some ⟨x.y, x.n, x.s, n - x.first + 1⟩ else c.atFrom n l
def Qf.at? (c : Qf) (n : Int) : Option Dt := c.atFrom n c.items
/-! ### Results -/
def Qf.chk (c : Qf) : Int := if c.valid then 0 else 70
def Qf.inE (c : Qf) (d : Dt) : Int := if c.valid then (if c.has d then 0 else 71) else 70
def Qf.in2E (c : Qf) (a b : Dt) : Int := if c.valid then (if c.has a && c.has b then 0 else 71) else 70
def Qf.numV (c : Qf) (d : Dt) : Int := if c.inE d = 0 then (c.num d).1 else 0
def Qf.betV (c : Qf) (a b : Dt) : Int := if c.in2E a b = 0 then (c.num b).1 - (c.num a).1 else 0
def Qf.schV (c : Qf) (a b : Dt) : Int := if c.in2E a b = 0 then 30 * ((c.num b).2 - (c.num a).2) + b.d - a.d else 0
/-! ### Traces -/
def G0 (s : ByteArray) : Bool := s.data.toList.isEmpty
def Tr.ok (t : Tr) : Bool :=
 decide (0 ≤ t.d) && decide (t.d ≤ 30) && (!t.more || decide (0 < t.d)) && decide (0 ≤ t.m) && decide (t.m ≤ 12) && (!t.s || decide (0 < t.m)) && (G0 t.nm || Ja t.nm) && decide (0 ≤ t.af) && decide (t.af ≤ 3) &&
  (!G0 t.nm || decide (t.af = 0)) && (G0 t.kg || Ja t.kg)
end
section
open Go Go.RowKit
def Yr.cells (y : Yr) : List Value := [.int .i64 y.k, .string y.nm, .int .i64 y.lg, .int .i64 y.db]
def Sp.cells (s : Sp) : List Value := [.int .i64 s.a, .int .i64 s.b]
def Tr.cells (t : Tr) : List Value := [.int .i64 t.d, .bool t.more, .int .i64 t.m, .bool t.s, .string t.nm, .int .i64 t.af, .string t.kg]
/-- The calendar c lies in w: its kings at A, its years at A'. -/
structure Zg (w : World) (A : Option Addr) (ca : Nat) (A' : Option Addr) (cb : Nat) (c : Qf) : Prop where
 kings : Qo w A c.nk 1 (fun i => [.string (c.kg i)])
 years : Qo w A' c.ny 4 (fun i => (c.yr i).cells)
 nk_le : c.nk ≤ 9223372036854775807
 ny_le : c.ny ≤ 9223372036854775807
 nk_cap : c.nk ≤ ca
 ny_cap : c.ny ≤ cb
theorem Zg.ext {w w' : World} {A A' : Option Addr} {ca cb : Nat} {c : Qf} (h : Zg w A ca A' cb c) (e : Qa w w') : Zg w' A ca A' cb c := ⟨h.kings.ext e, h.years.ext e, h.nk_le, h.ny_le, h.nk_cap, h.ny_cap⟩
theorem Zg.alloc {w : World} {A A' : Option Addr} {ca cb : Nat} {c : Qf} (h : Zg w A ca A' cb c) (o : Obj) : Zg (w.alloc o) A ca A' cb c := h.ext ((Qa.refl w).alloc o)
theorem Zg.year {w : World} {A A' : Option Addr} {ca cb : Nat} {c : Qf} (h : Zg w A ca A' cb c) {i : Nat} (hi : i < c.ny) :
  ∃ b off, A' = some ⟨b, off, none⟩ ∧ b < w.heap.size ∧ w.cell? ⟨b, off + i * 4, none⟩ = some (.int .i64 (c.yr i).k) ∧ w.cell? ⟨b, off + i * 4 + 1, none⟩ = some (.string (c.yr i).nm) ∧
   w.cell? ⟨b, off + i * 4 + 2, none⟩ = some (.int .i64 (c.yr i).lg) ∧ w.cell? ⟨b, off + i * 4 + 3, none⟩ = some (.int .i64 (c.yr i).db) := by
 obtain ⟨b, off, hA, hb, hc⟩ := h.years (by omega)
 exact ⟨b, off, hA, hb, by simpa using hc i 0 _ hi rfl, hc i 1 _ hi rfl, hc i 2 _ hi rfl, hc i 3 _ hi rfl⟩
/-- The same at an index that is an int. -/
theorem Zg.yearI {w : World} {A A' : Option Addr} {ca cb : Nat} {c : Qf} (h : Zg w A ca A' cb c) {y : Int} (h0 : 0 ≤ y) (h1 : y < c.ny) :
  ∃ b off, A' = some ⟨b, off, none⟩ ∧ b < w.heap.size ∧ w.cell? ⟨b, off + y.toNat * 4, none⟩ = some (.int .i64 (c.yrI y).k) ∧ w.cell? ⟨b, off + y.toNat * 4 + 1, none⟩ = some (.string (c.yrI y).nm) ∧
   w.cell? ⟨b, off + y.toNat * 4 + 2, none⟩ = some (.int .i64 (c.yrI y).lg) ∧ w.cell? ⟨b, off + y.toNat * 4 + 3, none⟩ = some (.int .i64 (c.yrI y).db) := h.year (by omega)
end
section
open Go Go.ChangeShapes Go.WideShapes Go.ChangeAt Go.RowKit Go.Deep
theorem Qe0 : ownKnob Tryz.prog.godebug = none := by kernel_rfl
theorem Qcz : Kids Tryz.prog (· < Tryz.prog.types.size) := kids_rows (by kernel_rfl) (by kernel_rfl)
theorem Qbx : ∀ t e, t < Tryz.prog.types.size → Tryz.prog.underlying t = some (.slice e) → 0 < Tryz.prog.cellsOf e := slices_full_of Tryz.prog (by kernel_rfl)
theorem Xp : Tryz.prog.cellsOf 3 = 1 := by kernel_rfl
theorem Sh : Tryz.prog.cellsOf 4 = 1 := by kernel_rfl
theorem Lj : Tryz.prog.cellsOf 9 = 1 := by kernel_rfl
theorem So : Tryz.prog.cellsOf 148 = 4 := by kernel_rfl
theorem Mx : Tryz.prog.cellsOf 51 = 4 := by kernel_rfl
theorem Qae : Tryz.prog.cellsOf 25 = 2 := by kernel_rfl
section
variable {H : Type} {enc : TypeId × Value → H} {w W W' : World} {base : Nat} {spare : Nat → Bool} {held : Bool}
theorem Jv {P : Program} {m k : Nat} {t : TypeId} {cs : List Value} {o : Nat} {xs : List (DataW H × List MemPlace)} {n i : Nat} (hxl : xs.length = k) (hi : i < k) (h : DataW.trod enc P w base spare held m t ((cs.drop o).take (P.cellsOf t)) = xs[i]?) (hn : P.cellsOf t = n) :
  ∃ y, DataW.trod enc P w base spare held m t ((cs.drop o).take n) = some y := by
 rw [hn] at h
 rw [List.getElem?_eq_getElem (by omega)] at h
 exact ⟨_, h⟩
theorem Wn {m : Nat} {v : Value} (h : ∃ y, DataW.trod enc Tryz.prog w base spare held m 3 [v] = some y) : ∃ z : Int, v = .int .i64 z ∧ -9223372036854775808 ≤ z ∧ z ≤ 9223372036854775807 := by
 obtain ⟨y, h⟩ := h
 obtain ⟨z, h1, _, h2⟩ := DataW.trod_int Tryz.underlying3 h
 have e1 : IntKind.i64.min = -9223372036854775808 := rfl
 have e2 : IntKind.i64.max = 9223372036854775807 := rfl
 simp only [Lit.wf, Bool.and_eq_true, decide_eq_true_eq] at h2
 exact ⟨z, by simpa using h1, by omega, by omega⟩
theorem Sf {m : Nat} {v : Value} (h : ∃ y, DataW.trod enc Tryz.prog w base spare held m 4 [v] = some y) : ∃ z : Bool, v = .bool z := by
 obtain ⟨y, h⟩ := h
 obtain ⟨z, h1, _⟩ := DataW.trod_bool Tryz.underlying4 h
 exact ⟨z, by simpa using h1⟩
theorem Ox {m : Nat} {v : Value} (h : ∃ y, DataW.trod enc Tryz.prog w base spare held m 9 [v] = some y) : ∃ z : ByteArray, v = .string z ∧ z.size ≤ maxLen := by
 obtain ⟨y, h⟩ := h
 obtain ⟨z, h1, _, h2⟩ := DataW.trod_string Tryz.underlying9 h
 exact ⟨z, by simpa using h1, h2⟩
theorem Qha {n : Nat} {cs : List Value} {x : DataW H × List MemPlace} (h : DataW.trod enc Tryz.prog w base spare held n 148 cs = some x) : ∃ y : Yr, cs = y.cells ∧ True := by
 obtain ⟨xs, m, _, _, hlen, hxl, hf⟩ := DataW.trod_struct Tryz.underlying148 h
 rw [So] at hlen
 match cs, hlen with
 | [a, b, c, d], _ =>
  obtain ⟨z0, rfl, _⟩ := Wn (Jv hxl (by decide) (hf 0 _ rfl) Xp)
  obtain ⟨z1, rfl, _⟩ := Ox (Jv hxl (by decide) (hf 1 _ rfl) Lj)
  obtain ⟨z2, rfl, _⟩ := Wn (Jv hxl (by decide) (hf 2 _ rfl) Xp)
  obtain ⟨z3, rfl, _⟩ := Wn (Jv hxl (by decide) (hf 3 _ rfl) Xp)
  exact ⟨⟨z0, z1, z2, z3⟩, rfl, trivial⟩
theorem Gv {n : Nat} {cs : List Value} {x : DataW H × List MemPlace} (h : DataW.trod enc Tryz.prog w base spare held n 51 cs = some x) : ∃ d : Dt, cs = [.int .i64 d.y, .int .i64 d.m, .bool d.s, .int .i64 d.d] := by
 obtain ⟨xs, m, _, _, hlen, hxl, hf⟩ := DataW.trod_struct Tryz.underlying51 h
 rw [Mx] at hlen
 match cs, hlen with
 | [a, b, c, d], _ =>
  obtain ⟨z0, rfl, _⟩ := Wn (Jv hxl (by decide) (hf 0 _ rfl) Xp)
  obtain ⟨z1, rfl, _⟩ := Wn (Jv hxl (by decide) (hf 1 _ rfl) Xp)
  obtain ⟨z2, rfl⟩ := Sf (Jv hxl (by decide) (hf 2 _ rfl) Sh)
  obtain ⟨z3, rfl, _⟩ := Wn (Jv hxl (by decide) (hf 3 _ rfl) Xp)
  exact ⟨⟨z0, z1, z2, z3⟩, rfl⟩
/-- A slice whose elements are each read as some α. -/
theorem Rv {P : Program} {α : Type} {t e : TypeId} {sz m : Nat} {v : Value} {f : α → List Value} {p : α → Prop} (d0 : α) (ht : P.underlying t = some (.slice e)) (hC : P.cellsOf e = sz) (hsz : 0 < sz) (hl : ∀ y, (f y).length = sz)
  (hone : ∀ n cs x, DataW.trod enc P w base spare held n e cs = some x → ∃ y, cs = f y ∧ p y) (h : ∃ y, DataW.trod enc P w base spare held m t [v] = some y) :
  ∃ (A : Option Addr) (n cap : Nat) (g : Nat → α), v = .slice A n cap ∧ Qo w A n sz (fun i => f (g i)) ∧ n ≤ cap ∧ cap ≤ maxLen ∧ ∀ i, i < n → p (g i) := by
 obtain ⟨x, h⟩ := h
 rcases open_slice ht h with ⟨hcs, _⟩ | ⟨a, len, cap, k, n, D, Pl, hcs, hb, hlc, hcm, hk, hx, hi⟩
 ·exact ⟨none, 0, 0, fun _ => d0, by simpa using hcs, Qo.nil, Nat.le_refl _, Nat.zero_le _, fun i hi => absurd hi (by omega)⟩
 ·have hlk : len ≤ k := by rw [hk]; split <;> omega
  have each : ∀ i, ∃ y : α, i < len → (p y ∧ ∀ j u, (f y)[j]? = some u → w.cell? (a.add (i * sz + j)) = some u) := fun i => by
   by_cases hil : i < len
   ·obtain ⟨cs', hc, htr⟩ := hi i (by omega)
    rw [hC] at hc
    obtain ⟨y, rfl, hp⟩ := hone _ _ _ htr
    obtain ⟨_, _, hat⟩ := World.cells?_some hc
    refine ⟨y, fun _ => ⟨hp, fun j u hu => ?_⟩⟩
    have hj : j < sz := by have := (List.getElem?_eq_some_iff.1 hu).1; rw [hl] at this; exact this
    rw [← Go.Deep.add_add, hat j hj, hu]
   ·exact ⟨d0, fun h => absurd h hil⟩
  obtain ⟨g, hg⟩ := Classical.axiomOfChoice each
  refine ⟨some a, len, cap, g, by simpa using hcs, fun hn => ?_, hlc, hcm, fun i hi => (hg i hi).1⟩
  obtain ⟨b, off, spot⟩ := a
  have h00 : ((f (g 0))[0]?).isSome := by rw [List.getElem?_eq_getElem (by rw [hl]; exact hsz)]; rfl
  obtain ⟨u, hu⟩ := Option.isSome_iff_exists.1 h00
  have hc0 := (hg 0 hn).2 0 u hu
  have hspot : spot = none := by simpa [Addr.add] using World.cell?_spot hc0
  subst hspot
  have hc0' : w.cell? ⟨b, off, none⟩ = some u := by simpa [add_plain] using hc0
  refine ⟨b, off, rfl, ?_, fun i j v hi hv => ?_⟩
  ·rcases Nat.lt_or_ge b w.heap.size with h1 | h1
   ·exact h1
   ·simp [World.cell?, Array.getElem?_eq_none h1] at hc0'
  ·have := (hg i hi).2 j v hv
   rw [add_plain, ← Nat.add_assoc] at this
   exact this
theorem I9 {r : Reach} {b0 : Nat} {v : Value} {d : DataW H} {p : List MemPlace} (hv : Value.okWide Tryz.prog w r b0 25 v) (h : DataW.Trod enc Tryz.prog w base spare held 25 v d p) :
  ∃ A A' ca cb c, v = .agg #[.slice A c.nk ca, .slice A' c.ny cb] ∧ Zg w A ca A' cb c := by
 obtain ⟨cs, rfl, hsz⟩ := okWide_struct Tryz.underlying25 hv
 obtain ⟨fuel, hf⟩ := h
 obtain ⟨xs, m, _, _, hlen, hxl, hf⟩ := DataW.trod_struct Tryz.underlying25 hf
 obtain ⟨cs⟩ := cs
 rw [Qae] at hsz
 match cs, hsz with
 | [a, b], _ =>
  have h0 := Jv hxl (by decide) (hf 0 _ rfl) (n := 1) (by kernel_rfl)
  have h1 := Jv hxl (by decide) (hf 1 _ rfl) (n := 1) (by kernel_rfl)
  obtain ⟨A, nk, ca, kg, rfl, r0, c0, m0, _⟩ := Rv (f := fun s : ByteArray => [.string s]) (p := fun _ => True) ByteArray.empty Tryz.underlying22 Lj (by decide) (fun _ => rfl) (fun n cs x hx => by
   obtain ⟨s, h1, _⟩ := DataW.trod_string Tryz.underlying9 hx
   exact ⟨s, h1, trivial⟩) h0
  obtain ⟨A', ny, cb, yr, rfl, r1, c1, m1, _⟩ := Rv (f := fun y : Yr => y.cells) (p := fun _ => True) ⟨0, ByteArray.empty, 0, 0⟩ Tryz.underlying23 So (by decide) (fun _ => rfl) (fun n cs x hx => Qha hx) h1
  have hm : maxLen ≤ 9223372036854775807 := by decide
  exact ⟨A, A', ca, cb, ⟨nk, kg, ny, yr⟩, rfl, r0, r1, by show nk ≤ _; omega, by show ny ≤ _; omega, c0, c1⟩
/-! ### The row's last step -/
theorem Ap (hx : Qa W W') : ∀ {ts : List TypeId} {vs : List Value} {ds : List (DataW H)} {ps : List MemPlace}, DataW.TrodAll enc Tryz.prog W base spare held ts vs ds ps → (∀ p ∈ ps, p.block < W.heap.size) → DataW.TrodAll enc Tryz.prog W' base spare held ts vs ds ps
 | [], [], [], _, h, _ => h
 | _ :: _, _ :: _, _ :: _, _, ⟨p, q, ⟨n, h1⟩, h2, e⟩, hs => ⟨p, q, ⟨n, DataW.trod_carry _ _ _ _ h1 (fun x hx' => Below.same hx (hs x (by rw [e]; exact List.mem_append_left _ hx')))⟩, Ap hx h2 (fun x hx' => hs x (by rw [e]; exact List.mem_append_right _ hx')), e⟩
/-- A law has returned true, and the world is the old one and new blocks. -/
theorem Qc2 {fn : Func} {s : ChangeSpec} {args : Array Value} {ds : List (DataW H)} {p : List MemPlace} (hp : ∀ t ∈ fn.params.toList, t < Tryz.prog.types.size) (hr : fn.resultTypes = #[4]) (hvars : s.vars = [])
  (hfn : (s.fn H ds).results = [.lit (.bool true)]) (hfa : (s.fn H ds).args = ds) (hfv : (s.fn H ds).vars = [])
  (hA : DataW.TrodAll enc Tryz.prog W 0 (fun _ => true) true fn.params.toList args.toList ds p)
  (hW : DataW.Whole enc Tryz.prog fn.params.toList s.vars false W args.toList ds [] p) (hx : Qa W W') : s.post enc Tryz.prog fn false true false false W args (.bool true) W' := by
 have hlt : ∀ x ∈ p, x.block < W.heap.size := fun x hx => hW.lt x hx
 have hold : ∀ x ∈ p, (fun b => decide (b < W.heap.size)) x.block = true := fun x hx => by simpa using hlt x hx
 have e0 : ds ++ ([] : List (DataW H)) = ds := List.append_nil _
 have hargs : ∀ sp : Nat → Bool, (∀ x ∈ p, sp x.block = true) → DataW.TrodAll enc Tryz.prog W' 0 sp true fn.params.toList args.toList (s.fn H (ds ++ [])).args p := fun sp hsp => by
  rw [e0, hfa]
  exact DataW.TrodAll.respare Qcz Qbx hp (Ap hx hA hlt) hsp
 have hvs : ∀ sp : Nat → Bool, DataW.TrodVars enc Tryz.prog W' sp s.vars (s.fn H (ds ++ [])).vars [] := fun sp => by
  rw [e0, hfv, hvars]; rfl
 have hres : ∀ (b : Nat) (sp : Nat → Bool) (hd : Bool), DataW.TrodAll enc Tryz.prog W' b sp hd fn.resultTypes.toList ((Value.bool true).resultList fn.resultTypes.size) (s.fn H (ds ++ [])).results [] := fun b sp hd => by
  rw [e0, hfn, hr]
  exact trodAll_cons_mk (shut_bool Tryz.underlying4 _) trodAll_mk0
 refine ⟨ds, [], p, [], p, [], hW, hres _ _ _, hargs _ hold, hvs _, World.keptBut_mono (fun x hx' => ⟨hx', .inr (.inl hx')⟩) ((Qa.below hx).frame (· ∈ p)), fun _ => ?_⟩
 ·obtain ⟨_, _, _, _, _, hz, hn⟩ := hW
  refine ⟨ok_one hr rfl (okWide_bool_mk Tryz.underlying4 _), _, _, ([] ++ p) ++ [], ⟨[] ++ p, [], trodAll_append (hargs _ (fun _ _ => rfl)) (hres _ _ _), hvs _, rfl, ?_, ?_⟩, ?_⟩
  ·intro b off hp
   have hin : MemPlace.cell b off ∈ p := by simpa using hp
   rw [Below.frozen hx (hlt _ hin)]
   exact hz b off hin
  ·intro ha; cases ha
  ·intro x hp _
   simpa using hp
end
section
variable {H : Type} {enc : TypeId × Value → H} {w : World} {base : Nat} {spare : Nat → Bool} {held : Bool} {r : Reach} {b0 : Nat} {v : Value} {d : DataW H} {p : List MemPlace}
end
section
variable {H : Type} {enc : TypeId × Value → H} {w : World} {base : Nat} {spare : Nat → Bool} {held : Bool} {r : Reach} {b0 : Nat} {v : Value} {d : DataW H} {p : List MemPlace}
theorem Qf0 {P : Program} {ts : List TypeId} {ds : List (DataW H)} {j : Nat} {t : TypeId} (h : (DataW.weightsEach P ts ds).all (· ≤ reachBytes) = true) (ht : ts[j]? = some t) (hd : ds[j]? = some d) : ∀ n ∈ d.weights P t, n ≤ reachBytes := fun n hn => by
 have := List.all_eq_true.1 h _ (DataW.weights_mem_each ht hd n hn)
 simpa using this
theorem K5 {P : Program} {m : Nat} {t : TypeId} {cs : List Value} {o : Nat} {xs : List (DataW H × List MemPlace)} {n i : Nat} (hi : i < xs.length) (h : DataW.trod enc P w base spare held m t ((cs.drop o).take (P.cellsOf t)) = xs[i]?) (hn : P.cellsOf t = n) :
  DataW.trod enc P w base spare held m t ((cs.drop o).take n) = some xs[i] := by
 rw [hn] at h
 rw [h, List.getElem?_eq_getElem hi]
theorem Rm : reachBytes = 140737488351232 := rfl
end
end
section
open Go Go.RowKit
theorem Qq : Tryz.prog.follows .mixedOrders = true := by kernel_rfl
theorem Qgb (s : ByteArray) (k : Nat) (h : k < s.size) : s.data.toList.take (k + 1) = s.data.toList.take k ++ [s[k]] := by
 rw [List.take_succ_eq_append_getElem (by simpa using h)]; rfl
/-- The first k bytes may stand in a name. -/
def Ke (s : ByteArray) (k : Nat) : Prop := (s.data.toList.take k).all Vb = true
theorem Fu (s : ByteArray) (k : Nat) (h : k < s.size) (hp : Ke s k) (hc : Vb s[k] = true) : Ke s (k + 1) := by
 unfold Ke at *
 rw [Qgb s k h, List.all_append, hp]; simp [hc]
theorem Qd5 (s : ByteArray) (k : Nat) (h : s.size ≤ k) (hp : Ke s k) : U3 s = true := by
 unfold Ke at hp
 rw [List.take_of_length_le (by simp; omega)] at hp
 exact hp
theorem Hv (s : ByteArray) (k : Nat) (h : k < s.size) (hc : Vb s[k] = false) : U3 s = false := by
 unfold U3
 rw [List.all_eq_false]
 exact ⟨s[k], by show s.data[k] ∈ _; simp, by simp [hc]⟩
theorem Ft {c : UInt8} (h : c.toNat = 95 ∨ (97 ≤ c.toNat ∧ c.toNat ≤ 122) ∨ (48 ≤ c.toNat ∧ c.toNat ≤ 57)) : Vb c = true := by
 simp only [Vb, Ur, digB, Bool.or_eq_true, Bool.and_eq_true, decide_eq_true_eq]; omega
theorem Fs {c : UInt8} (h : ¬ (c.toNat = 95 ∨ (97 ≤ c.toNat ∧ c.toNat ≤ 122) ∨ (48 ≤ c.toNat ∧ c.toNat ≤ 57))) : Vb c = false := by
 rw [Bool.eq_false_iff]
 simp only [Vb, Ur, digB, ne_eq, Bool.or_eq_true, Bool.and_eq_true, decide_eq_true_eq]; omega
theorem Qdh {c : UInt8} (h1 : 97 ≤ c.toNat) (h2 : c.toNat ≤ 122) : Ur c = true := by simp [Ur, h1, h2]
theorem low_no {c : UInt8} (h : ¬ (97 ≤ c.toNat ∧ c.toNat ≤ 122)) : Ur c = false := by
 rw [Bool.eq_false_iff]; simp only [Ur, ne_eq, Bool.and_eq_true, decide_eq_true_eq]; exact h
theorem Qcu (s : ByteArray) (h1 : 1 ≤ s.size) (h2 : s.size ≤ 16) : Ja s = (Ur (s[0]'h1) && U3 s) := by
 have h0 : s.data.toList.headD 0 = s[0]'h1 := by
  rw [List.headD_eq_head?_getD, List.head?_eq_getElem?, List.getElem?_eq_getElem (by simp; omega)]; rfl
 rw [Ja, h0, decide_eq_true h1, decide_eq_true h2]; rfl
theorem P0 (s : ByteArray) (h : s.size < 1 ∨ 16 < s.size) : Ja s = false := by
 rw [Ja]
 rcases h with h | h
 ·rw [decide_eq_false (by omega : ¬ 1 ≤ s.size)]; rfl
 ·rw [decide_eq_false (by omega : ¬ s.size ≤ 16)]; simp
set_option maxHeartbeats 1000000 in
theorem U7 (s : ByteArray) (w : World) :
  Calls Tryz.prog 120 #[.string s] w fun e w' => e = .returned (.bool (Ja s)) ∧ w = w' := by
 by_cases h0 : s.size < 1
 ·rw [P0 s (.inl h0)]
  have z0 : ((s.size : Int) == 0) = true := beq_iff_eq.2 (by omega)
  go_enter Tryz.func120, Tryz.ntmps120
  go_wp2
  go_ret
  exact ⟨rfl, rfl⟩
 by_cases h1 : 16 < s.size
 ·rw [P0 s (.inr h1)]
  have z0 : ((s.size : Int) == 0) = false := beq_eq_false_iff_ne.2 (by omega)
  go_enter Tryz.func120, Tryz.ntmps120
  go_wp2
  go_ret
  exact ⟨rfl, rfl⟩
 have g1 : 1 ≤ s.size := by omega
 have g2 : s.size ≤ 16 := by omega
 rw [Qcu s g1 g2]
 have z0 : ((s.size : Int) == 0) = false := beq_eq_false_iff_ne.2 (by omega)
 clear h0 h1
 by_cases hb : 97 ≤ s[0].toNat ∧ s[0].toNat ≤ 122
 ·obtain ⟨hb1, hb2⟩ := hb
  rw [Qdh hb1 hb2]
  go_enter Tryz.func120, Tryz.ntmps120
  go_wp2
  go_loop [25] (fun i => ∃ k : Nat, k ≤ s.size ∧ i = .int .i64 k ∧ Ke s k) (fun i => s.size - (intOf i).toNat)
  case atStart => exact ⟨0, Nat.zero_le _, rfl, rfl⟩
  case round =>
   obtain ⟨k, hk, rfl, hp⟩ := hrel
   by_cases hlt : k < s.size
   ·have hcl : s[k].toNat = 95 ∨ (97 ≤ s[k].toNat ∧ s[k].toNat ≤ 122) ∨ (48 ≤ s[k].toNat ∧ s[k].toNat ≤ 57) ∨ s[k].toNat < 48 ∨ (57 < s[k].toNat ∧ s[k].toNat < 97 ∧ s[k].toNat ≠ 95) ∨ 122 < s[k].toNat := by omega
    rcases hcl with h | h | h | h | h | h
    ·have hn := Fu s k hlt hp (Ft (.inl h))
     have b1 : ((s[k].toNat : Int) != 95) = false := bne_eq_false_iff_eq.2 (by omega)
     have h1 : 95 ≤ s[k].toNat := by omega
     have h2 : s[k].toNat ≤ 95 := by omega
     clear h
     go_wp2
     exact ⟨⟨k + 1, by omega, by go_num, hn⟩, by simp [intOf]; omega⟩
    ·have hn := Fu s k hlt hp (Ft (by omega))
     have b1 : ((s[k].toNat : Int) != 95) = true := bne_iff_ne.2 (by omega)
     obtain ⟨h1, h2⟩ := h
     go_wp2
     exact ⟨⟨k + 1, by omega, by go_num, hn⟩, by simp [intOf]; omega⟩
    ·have hn := Fu s k hlt hp (Ft (by omega))
     have b1 : ((s[k].toNat : Int) != 95) = true := bne_iff_ne.2 (by omega)
     obtain ⟨h1, h2⟩ := h
     go_wp2
     exact ⟨⟨k + 1, by omega, by go_num, hn⟩, by simp [intOf]; omega⟩
    ·have hn : Hid (U3 s = false) := Hv s k hlt (Fs (by omega))
     have b1 : ((s[k].toNat : Int) != 95) = true := bne_iff_ne.2 (by omega)
     go_wp2
     all_goals first
      | (go_ret; exact ⟨Yc hn.out.symm, rfl⟩)
      | (exfalso; simp only [Bool.not_eq_false', decide_eq_true_eq] at *; omega)
    ·have hn : Hid (U3 s = false) := Hv s k hlt (Fs (by omega))
     obtain ⟨h1, h2, h3⟩ := h
     have b1 : ((s[k].toNat : Int) != 95) = true := bne_iff_ne.2 (by omega)
     go_wp2
     all_goals first
      | (go_ret; exact ⟨Yc hn.out.symm, rfl⟩)
      | (exfalso; simp only [Bool.not_eq_false', decide_eq_true_eq] at *; omega)
    ·have hn : Hid (U3 s = false) := Hv s k hlt (Fs (by omega))
     have b1 : ((s[k].toNat : Int) != 95) = true := bne_iff_ne.2 (by omega)
     go_wp2
     all_goals first
      | (go_ret; exact ⟨Yc hn.out.symm, rfl⟩)
      | (exfalso; simp only [Bool.not_eq_false', decide_eq_true_eq] at *; omega)
   ·go_wp2
    go_ret
    exact ⟨Yc (Qd5 s k (by omega) hp).symm, rfl⟩
 ·rw [low_no hb]
  by_cases hb1 : 97 ≤ s[0].toNat
  all_goals
   go_enter Tryz.func120, Tryz.ntmps120
   go_wp2
   go_ret
   exact ⟨rfl, rfl⟩
theorem Ts (n : Int) : bits .and .i64 n 1 = n % 2 := by
 have h1 : (BitVec.ofInt 64 1).toNat = 2 ^ 1 - 1 := by decide
 have key : (BitVec.ofInt 64 n &&& BitVec.ofInt 64 1).toNat = (n % ((2 ^ 64 : Nat) : Int)).toNat % 2 ^ 1 := by
  rw [BitVec.toNat_and, BitVec.toNat_ofInt, h1, Nat.and_two_pow_sub_one_eq_mod]
 show IntKind.i64.wrap ((BitVec.ofInt 64 n &&& BitVec.ofInt 64 1).toNat : Nat) = n % 2
 rw [key, IntKind.wrap_i64]
 omega
theorem Dr {lg : Int} {b : Nat} (h : (bits .and .i64 (lg / 2 ^ b) 1 == 1) = true) : X4 lg b = 30 := by
 rw [Ts] at h; simp only [X4, Gf]; simp at h; simp [h]
theorem Dq {lg : Int} {b : Nat} (h : (bits .and .i64 (lg / 2 ^ b) 1 == 1) = false) : X4 lg b = 29 := by
 rw [Ts] at h; simp only [X4, Gf]; simp at h; simp [h]
theorem Qdv (lg : Int) (h : (bits .and .i64 (lg / 4096) 1 == 1) = true) : X4 lg 12 = 30 := Dr (b := 12) h
theorem Qdw (lg : Int) (h : (bits .and .i64 (lg / 4096) 1 == 1) = false) : X4 lg 12 = 29 := Dq (b := 12) h
set_option maxHeartbeats 400000 in
theorem Lx (y : Yr) (n : Int) (s : Bool) (w : World) (_h1 : 1 ≤ n) (_h2 : n ≤ 12) (_hl : 0 ≤ y.lg) (_hl' : y.lg ≤ 8191) :
  Calls Tryz.prog 173 #[.agg #[.int .i64 y.k, .string y.nm, .int .i64 y.lg, .int .i64 y.db], .int .i64 n, .bool s] w fun e w' =>
   e = .returned (.int .i64 (y.len n s)) ∧ Qa w w' := by
 cases s
 ·have H : Hid (y.len n false = X4 y.lg (n.toNat - 1)) := rfl
  generalize y.len n false = r at *
  go_enter Tryz.func173, Tryz.ntmps173
  go_wp2
  all_goals
   go_ret
   refine ⟨Uv ?_, (Qa.refl w).alloc _⟩
   rw [H.out]
   first | exact (Dr ‹_›).symm | exact (Dq ‹_›).symm
 ·have H : Hid (y.len n true = X4 y.lg 12) := rfl
  generalize y.len n true = r at *
  go_enter Tryz.func173, Tryz.ntmps173
  go_wp2
  all_goals
   go_ret
   refine ⟨Uv ?_, (Qa.refl w).alloc _⟩
   rw [H.out]
   first | exact (Qdv _ ‹_›).symm | exact (Qdw _ ‹_›).symm
set_option maxHeartbeats 400000 in
theorem Dw (d : Dt) (w : World) :
  Calls Tryz.prog 144 #[.agg #[.int .i64 d.y, .int .i64 d.m, .bool d.s, .int .i64 d.d]] w fun e w' => e = .returned (.agg #[.int .i64 d.y, .int .i64 d.m, .bool d.s]) ∧ Qa w w' := by
 go_enter Tryz.func144, Tryz.ntmps144
 go_wp2
 refine bodyPost_ret (v := .agg #[.int .i64 d.y, .int .i64 d.m, .bool d.s]) (by simp [results, Tryz.results144, go_sem]) rfl ⟨rfl, (by repeat (first | exact Qa.refl _ | (refine Qa.alloc ?_ _) | (refine Qa.trans ?_ (by assumption))))⟩
theorem Ov (a b : ByteArray) : decide (a = b) = (a.toList == b.toList) := by
 rw [Go.ByteArray.toList_eq, Go.ByteArray.toList_eq, Bool.eq_iff_iff]
 simp only [decide_eq_true_eq, beq_iff_eq]
 exact ⟨fun h => by rw [h], fun h => by cases a; cases b; simp at h; simp [h]⟩
section
variable {P : Program} {ops : Array Oper} {md : Region.Mode} {C : World → Prop}
/-! ### A head that is quiet in a class of worlds, and a tail in its Ua -/
def Kn (P : Program) (md : Region.Mode) (ops : Array Oper) (C : World → Prop) (n : Nat) (L : Array Bool → Act → Prop) : Nat → Array Bool → Act → Prop
 | 0, listed, a => L listed a
 | f + 1, listed, a => Region.ready md ops listed ≠ [] ∧ ∀ i ∈ Region.ready md ops listed, i < n ∧ qOp P ops C i (Kn P md ops C n L f (listed.setIfInBounds i true)) a
theorem En {n g : Nat} {L : Array Bool → Act → Prop} {Q' : Exit → Act → World → Prop} (hL : ∀ listed a w, C w → L listed a → wpAny P md ops Q' g listed a w) :
  ∀ (f : Nat) (listed : Array Bool) (a : Act) (w : World), C w → Kn P md ops C n L f listed a → wpAny P md ops Q' (f + g) listed a w
 | 0, _, _, _, hw, h => by rw [Nat.zero_add]; exact hL _ _ _ hw h
 | f + 1, _, _, _, hw, h => by
  rw [show f + 1 + g = (f + g) + 1 by omega]
  exact ⟨fun h0 => absurd h0 h.1, fun i hi => wpOp_of_qOp hw (fun a' w' hw' h' => En hL f _ a' w' hw' h') (h.2 i hi).2⟩
theorem Qb9 {n i : Nat} {oi : Oper} {v : Value} {L : Array Bool → Act → Prop} (hi : ops[i]? = some oi) (hsel : ∀ (j : Nat) (o : Oper) cs b, ops[j]? = some o → o.op ≠ .select cs b)
  (hs : Region.sinkB md ops n = true) (hc : Region.chainB md ops n = true) (hn : n < ops.size) (hin : i < n) (hdone : ∀ listed a, L listed a → ∀ j ∈ Region.ready md ops listed, n ≤ j) :
  ∀ (f : Nat) (listed : Array Bool) (a : Act), HeadInv md ops n listed →
   (∀ j oj, ops[j]? = some oj → j ≠ i → listed.getD j true = false → (∀ e ∈ oj.after, Region.binds md e = true → e.on ≠ i) → oi.apart ops oj = true) →
   i ∈ Region.ready md ops listed → YieldsIn P ops C oi v a →
   Kn P md ops C n L f (listed.setIfInBounds i true) (a.put oi.dst v) → Kn P md ops C n L (f + 1) listed a := by
 intro f
 induction f with
 | zero =>
  intro listed a inv _ hr hy H
  refine ⟨List.ne_nil_of_mem hr, fun j hj => ?_⟩
  have hjn : j < n := Nat.lt_of_not_le fun h => tail_waits hs hc hn inv _ i rfl hin (mem_ready.1 hr).1 j h hj
  refine ⟨hjn, ?_⟩
  by_cases hji : j = i
  ·subst hji; exact hy.qOp hi H
  ·exact absurd (hdone _ _ H j (ready_mono hj hji)) (by omega)
 | succ f ih =>
  intro listed a inv hfree hr hy H
  refine ⟨List.ne_nil_of_mem hr, fun j hj => ?_⟩
  have hjn : j < n := Nat.lt_of_not_le fun h => tail_waits hs hc hn inv _ i rfl hin (mem_ready.1 hr).1 j h hj
  refine ⟨hjn, ?_⟩
  by_cases hji : j = i
  ·subst hji; exact hy.qOp hi H
  ·obtain ⟨hjun, oj, hoj, hall⟩ := mem_ready.1 hj
   have hnot : ∀ e ∈ oj.after, Region.binds md e = true → e.on ≠ i := fun e he hb heq => by
    have h1 := hall e he hb
    rw [heq, getD_both (mem_ready.1 hr).1] at h1
    cases h1
   have h2 := qOp_put hoj (hfree j oj hoj hji hjun hnot) (fun cs b => hsel i oi cs b hi) (fun cs b => hsel j oj cs b hoj) hy (H.2 j (ready_mono hj hji)).2
   refine qOp_mono (fun a' h3 => ih (listed.setIfInBounds j true) a' (inv.set hj hjn) (fun k ok hk hki hun hno => hfree k ok hk hki ?_ hno) (ready_mono hr (Ne.symm hji)) h3.1 ?_) h2
   ·by_cases hjk : j = k
    ·subst hjk; exact hjun
    ·rwa [getD_set_ne true hjk] at hun
   ·rw [Array.setIfInBounds_comm _ _ hji]; exact h3.2
theorem Pr {n g : Nat} {Lq : Act → Prop} (hsel : Region.noSelect ops = true) (hs : Region.sinkB md ops n = true) (hc : Region.chainB md ops n = true) (hn : n < ops.size) :
  ∀ (l : List Oper) (k : Nat) (listed : Array Bool) (a : Act), (∀ j, j < l.length → l[j]? = ops[k + j]?) → k + l.length = n → HeadInv md ops n listed →
  Region.lexHead md ops g l.length k listed = true → wpQuiet P ops C Lq l a → Kn P md ops C n (fun listed' a' => Region.seqB md ops g n listed' = true ∧ Lq a') l.length listed a
 | [], k, listed, a, _, hk, _, hB, h => by
  obtain rfl : k = n := by simpa using hk
  exact ⟨by simpa [Region.lexHead] using hB, h⟩
 | o :: l, k, listed, a, hl, hk, inv, hB, h => by
  have h0 : ops[k]? = some o := by simpa using (hl 0 (by simp)).symm
  simp only [List.length_cons, Region.lexHead, Bool.and_eq_true] at hB
  obtain ⟨⟨hr, hf⟩, hB'⟩ := hB
  have hkn : k < n := by simp only [List.length_cons] at hk; omega
  have hr' : k ∈ Region.ready md ops listed := by simpa using hr
  have hst : qOp P ops C k (wpQuiet P ops C Lq l) a := by unfold qOp; simp only [h0]; exact h
  obtain ⟨v, hy, hK⟩ := yieldsIn_of_qOp h0 hst
  exact Qb9 h0 (Region.noSelect_spec hsel) hs hc hn hkn (fun listed' a' hL => seqB_ready hL.1) l.length listed a inv (Region.free_spec h0 hf) hr' hy
   (Pr hsel hs hc hn l (k + 1) _ _ (fun j hj => by have := hl (j + 1) (by simp; omega); simpa [Nat.add_assoc, Nat.add_comm 1 j] using this) (by simp only [List.length_cons] at hk; omega) (inv.set hr' hkn) hB' hK)
theorem Qcb (md : Region.Mode) (ops : Array Oper) (n : Nat) : HeadInv md ops n (Array.replicate ops.size false) :=
 ⟨by simp, fun _ _ _ hl => (by rw [getD_replicate_false] at hl; cases hl), fun _ _ ht => getD_in (by simpa using ht) (getD_replicate_false _ _)⟩
theorem Qca {l : List Oper} {n : Nat} {Lq : Act → Prop} {a : Act} (hB : Region.lexTailB .any l.toArray n = true) (h : wpQuiet P l.toArray C Lq (l.take n) a) :
  n < l.length ∧ Kn P .any l.toArray C n (fun listed' a' => Region.seqB .any l.toArray (l.drop n).length n listed' = true ∧ Lq a') n (Array.replicate l.toArray.size false) a := by
 simp only [Region.lexTailB, Bool.and_eq_true, decide_eq_true_eq] at hB
 obtain ⟨⟨⟨⟨hsel, hn⟩, hs⟩, hc⟩, hlex⟩ := hB
 have hn' : n < l.length := by simpa using hn
 have htl : (l.take n).length = n := by simp; omega
 have hdl : (l.drop n).length = l.toArray.size - n := by simp
 have := Pr (md := .any) (C := C) (g := l.toArray.size - n) hsel hs hc hn (l.take n) 0 _ a (fun j hj => by
  have hj' : j < n := by rw [htl] at hj; exact hj
  simp [hj']) (by simpa using htl) (Qcb _ _ _) (by rw [htl]; exact hlex) h
 rw [htl] at this
 rw [hdl]
 exact ⟨hn', this⟩
end
theorem XW.drawn (w : World) : ∃ u : XW w, { w with drawn := w.drawn + 1 } = u.w := ⟨⟨{ w with drawn := w.drawn + 1 }, ⟨rfl, rfl, rfl, Nat.le_refl _, fun _ _ => rfl⟩⟩, rfl⟩
/-- A region that draws its Ua: n operations that are quiet in whatever world is w and new blocks, then the others in their Ua. -/
theorem Er {P : Program} {id : Nat} {Q : Exit → Act → World → Prop} {a : Act} {w : World} {l : List Oper} (n : Nat) (w₀ : World) (hm : P.follows .mixedOrders = true) (hB : Region.lexTailB .any l.toArray n = true) (he : Qa w₀ w)
  (h : Nonempty (XW w) → (∀ (u : XW w) b o, b < w.heap.size → u.w.cell? ⟨b, o, none⟩ = w.cell? ⟨b, o, none⟩) → (∀ (u : XW w) b o, b < w₀.heap.size → u.w.cell? ⟨b, o, none⟩ = w₀.cell? ⟨b, o, none⟩) →
   wpQuiet P l.toArray (fun w' => ∃ u : XW w, w' = u.w) (fun a' => ∀ w', Qa w w' → wpList P l.toArray Q (l.drop n) a' w') (l.take n) a) : (Code.region id l.toArray true).wp P Q a w := by
 obtain ⟨hn, H⟩ := Qca hB (h (XW.some w) (fun u => u.cell) (fun u => u.from he))
 refine wp_region_any hm ?_
 have := En (Q' := Q) (g := (l.drop n).length) (fun listed a' w' hw' hL => wpAny_of_seq (md := .any) (Q' := Q) (l.drop n) n listed a' w' (fun j => by simp [List.getElem?_drop]) hL.1 (by
  obtain ⟨u, rfl⟩ := hw'
  exact hL.2 _ u.e)) _ _ _ { w with drawn := w.drawn + 1 } (XW.drawn w) H
 rw [show n + (l.drop n).length = l.toArray.size by simp; omega] at this
 exact this
/-! ### Within a round -/
def L3 (o : Oper) : Bool := match o.op with | .defer _ => false | _ => true
section
variable {P : Program} {ops : Array Oper} {md : Region.Mode} {C : World → Prop} {l n : Nat}
theorem Qgz {o : Oper} {a : Act} {K : Act → Prop} {K' : Act → World → Prop} {Q' : Exit → Act → World → Prop} {w : World} (hnd : L3 o = true) (hw : C w) (h : ∀ a w', C w' → K a → K' a w') (hh : o.quiet P a C K) :
  o.wpIn (Fence.wide.inRound l) n P a w K' Q' := by
 obtain ⟨v, h1, h2⟩ := hh
 have h3 := h1 w hw
 refine ⟨fun _ _ => trivial, ?_⟩
 rw [Fence.inRound_round, Oper.semAt_some l _ _ (fun c hc => by simp [L3, hc] at hnd)]
 unfold Oper.quietAt at h3
 generalize (execOp a.eval o).run P w = r at *
 cases r with
 | ok x w' =>
  cases x <;> simp only [Oper.quietUpon] at h3 <;> simp only [Oper.uponIn]
  case value u => obtain ⟨e1, e2⟩ := h3; rw [e1, e2]; exact h _ _ hw h2
  case skip => obtain ⟨e1, e2⟩ := h3; rw [e1, ← e2]; exact h _ _ hw h2
  case enter f args =>
   obtain ⟨e1, hc⟩ := h3
   rw [e1]
   refine ⟨fun hd => by simp [Fence.inRound, Fence.wide] at hd, CallsIn.inRound l (callsIn_wide.2 (hc.mono fun e w'' ⟨he, hw''⟩ => ?_))⟩
   subst he
   exact h _ _ hw'' h2
 | halt x w' => simp only [Oper.quietUpon] at h3
theorem Qg1 {i : Nat} {a : Act} {K : Act → Prop} {K' : Act → World → Prop} {Q' : Exit → Act → World → Prop} {w : World} (hnd : ops.all L3 = true) (hC : C w) (h : ∀ a w', C w' → K a → K' a w') (hh : qOp P ops C i K a) :
  wpOpIn (Fence.wide.inRound l) n P ops Q' i K' a w := by
 unfold qOp at hh
 unfold wpOpIn
 split
 ·rename_i ho; simp only [ho] at hh; exact h _ _ hC hh
 ·rename_i o ho
  simp only [ho] at hh
  split
  ·rename_i hw
   simp only [hw, if_true] at hh
   exact Qgz (Array.all_eq_true_iff_forall_mem.1 hnd o (Array.mem_of_getElem? ho)) hC h hh
  ·rename_i hw; simp only [hw] at hh; exact ⟨fun _ _ => trivial, h _ _ hC hh⟩
theorem Ej {Q : Act → Prop} {Q' : Exit → Act → World → Prop} (hnd : ops.all L3 = true) (hQ : ∀ a w, C w → Q a → Q' .normal a w) : ∀ (fuel : Nat) (listed : Array Bool) (a : Act) (w : World), C w →
  wpAnyQ P md ops C Q fuel listed a → wpAnyIn (Fence.wide.inRound l) n P md ops Q' fuel listed a w
 | 0, _, _, _, hw, h => ⟨h.1, hQ _ _ hw h.2⟩
 | fuel + 1, _, _, _, hw, h => ⟨fun h0 => hQ _ _ hw (h.1 h0), fun i hi => Qg1 hnd hw (fun a' w' hw' => Ej hnd hQ fuel _ a' w' hw') (h.2 i hi)⟩
end
section
variable {P : Program} {id k n : Nat} {Q : Exit → Act → World → Prop} {a : Act} {w : World} {l : List Oper}
theorem Qg0 (w₀ : World) (hm : P.follows .mixedOrders = true) (hB : M4 l.toArray = true) (hnd : l.toArray.all L3 = true) (he : Qa w₀ w)
  (h : Nonempty (XW w) → (∀ (u : XW w) b o, b < w.heap.size → u.w.cell? ⟨b, o, none⟩ = w.cell? ⟨b, o, none⟩) → (∀ (u : XW w) b o, b < w₀.heap.size → u.w.cell? ⟨b, o, none⟩ = w₀.cell? ⟨b, o, none⟩) →
   wpQuiet P l.toArray (fun w' => ∃ u : XW w, w' = u.w) (fun a' => ∀ w', Qa w w' → Q .normal a' w') l a) : (Code.region id l.toArray true).wpIn (Fence.wide.inRound k) n P Q a w := by
 have hB' := Df hB
 simp only [Region.lexB, Bool.and_eq_true] at hB'
 have H := wpAnyQ_lex (C := fun w' => ∃ u : XW w, w' = u.w) (md := .any) hB'.1 l 0 (Array.replicate l.toArray.size false) a (by simp) (by simpa using hB'.2) (h (XW.some w) (fun u => u.cell) (fun u => u.from he))
 exact wpIn_region_any hm (Ej (C := fun w' => ∃ u : XW w, w' = u.w) (Q := fun a' => ∀ w', Qa w w' → Q .normal a' w') hnd (fun a' w' hu h' => h' w' (by obtain ⟨u, rfl⟩ := hu; exact u.e)) _ _ _ _ (XW.drawn w) (by simpa using H))
end
end
section
theorem Fh (y : Yr) : ∀ l l' : List (Int × Bool), y.lens (l ++ l') = y.lens l + y.lens l'
 | [], l' => by simp [Yr.lens]
 | p :: l, l' => by rw [List.cons_append, Yr.lens, Yr.lens, Fh y l l']; omega
theorem Mg (i : Nat) (y : Yr) : ∀ (l l' : List (Int × Bool)) (d : Int), Ju i y d (l ++ l') = Ju i y d l ++ Ju i y (d + y.lens l) l'
 | [], l', d => by simp [Ju, Yr.lens]
 | p :: l, l', d => by
  rw [List.cons_append, Ju, Ju, Mg i y l l', List.cons_append, Yr.lens]
  congr 3; omega
theorem C1 (i : Nat) (y : Yr) : ∀ (l : List (Int × Bool)) (d : Int), (Ju i y d l).length = l.length
 | [], _ => rfl
 | p :: l, d => by rw [Ju, List.length_cons, List.length_cons, C1 i y l]
theorem Qdx (lg : Int) (b : Nat) : 29 ≤ X4 lg b ∧ X4 lg b ≤ 30 := by unfold X4; split <;> omega
theorem Uq (y : Yr) (n : Int) (s : Bool) : 29 ≤ y.len n s ∧ y.len n s ≤ 30 := Qdx _ _
theorem Nj (y : Yr) : ∀ l : List (Int × Bool), 29 * (l.length : Int) ≤ y.lens l ∧ y.lens l ≤ 30 * (l.length : Int)
 | [] => by simp [Yr.lens]
 | p :: l => by
  have := Nj y l
  have h := Uq y p.1 p.2
  rw [Yr.lens, List.length_cons]
  omega
theorem Us (y : Yr) (k : Nat) : y.moTo (k + 1) = y.moTo k ++ (((k : Int) + 1, false) :: (if y.db = (k : Int) + 1 then [((k : Int) + 1, true)] else [])) := rfl
theorem Fp (y : Yr) : ∀ k : Nat, (y.moTo k).length = k + (if 1 ≤ y.db ∧ y.db ≤ (k : Int) then 1 else 0)
 | 0 => by
  have : ¬ (1 ≤ y.db ∧ y.db ≤ ((0 : Nat) : Int)) := by omega
  rw [if_neg this]; rfl
 | k + 1 => by
  rw [Us, List.length_append, List.length_cons, Fp y k]
  by_cases h : y.db = (k : Int) + 1
  ·rw [if_pos h, if_neg (by omega), if_pos (by omega)]; simp
  ·rw [if_neg h]
   by_cases h2 : 1 ≤ y.db ∧ y.db ≤ (k : Int)
   ·rw [if_pos h2, if_pos (by omega)]; simp
   ·rw [if_neg h2, if_neg (by omega)]; simp
theorem Dx (y : Yr) : 12 ≤ y.mos.length ∧ y.mos.length ≤ 13 := by
 rw [Yr.mos, Fp]; split <;> omega
theorem S9 (y : Yr) : 348 ≤ y.days ∧ y.days ≤ 390 := by
 have h := Nj y y.mos
 have h2 := Dx y
 unfold Yr.days; omega
theorem Mz (c : Qf) : ∀ i : Nat, 1 + 348 * (i : Int) ≤ c.dayAt i ∧ c.dayAt i ≤ 1 + 390 * (i : Int)
 | 0 => by simp [Qf.dayAt]
 | i + 1 => by
  have := Mz c i
  have := S9 (c.yr i)
  rw [Qf.dayAt]; omega
/-- What came till month k + 1 of year i. -/
def Qf.upTo (c : Qf) (i k : Nat) : List It := c.itemsTo i ++ Ju i (c.yr i) (c.dayAt i) ((c.yr i).moTo k)
def Qf.dayTo (c : Qf) (i k : Nat) : Int := c.dayAt i + (c.yr i).lens ((c.yr i).moTo k)
theorem Qgk (c : Qf) (i : Nat) : c.upTo i 0 = c.itemsTo i := by simp [Qf.upTo, Yr.moTo, Ju]
theorem Qa5 (c : Qf) (i : Nat) : c.dayTo i 0 = c.dayAt i := by simp [Qf.dayTo, Yr.moTo, Yr.lens]
/-- The first month k + 1 of year i, and the second one. -/
def Qf.it1 (c : Qf) (i k : Nat) : It := ⟨i, (k : Int) + 1, false, c.dayTo i k⟩
def Qf.it2 (c : Qf) (i k : Nat) : It := ⟨i, (k : Int) + 1, true, c.dayTo i k + (c.yr i).len ((k : Int) + 1) false⟩
theorem Ay {c : Qf} {i k : Nat} (h : (c.yr i).db ≠ (k : Int) + 1) : c.upTo i (k + 1) = c.upTo i k ++ [c.it1 i k] := by
 rw [Qf.upTo, Us, if_neg h, Mg, ← List.append_assoc]; rfl
theorem Tf {c : Qf} {i k : Nat} (h : (c.yr i).db = (k : Int) + 1) : c.upTo i (k + 1) = c.upTo i k ++ [c.it1 i k] ++ [c.it2 i k] := by
 rw [Qf.upTo, Us, if_pos h, Mg, ← List.append_assoc, List.append_assoc (c.upTo i k)]; rfl
theorem Qa3 {c : Qf} {i k : Nat} (h : (c.yr i).db ≠ (k : Int) + 1) : c.dayTo i (k + 1) = c.dayTo i k + (c.yr i).len ((k : Int) + 1) false := by
 rw [Qf.dayTo, Us, if_neg h, Fh, ← Int.add_assoc]
 show _ + (_ + 0) = _ + _; rw [Int.add_zero]; rfl
theorem Qa4 {c : Qf} {i k : Nat} (h : (c.yr i).db = (k : Int) + 1) : c.dayTo i (k + 1) = c.dayTo i k + (c.yr i).len ((k : Int) + 1) false + (c.yr i).len ((k : Int) + 1) true := by
 rw [Qf.dayTo, Us, if_pos h, Fh, ← Int.add_assoc]
 show _ + (_ + (_ + 0)) = _ + _ + _; rw [Int.add_zero, ← Int.add_assoc]; rfl
theorem Qcx (c : Qf) {i j : Nat} (h : i ≤ j) : c.itemsTo i <+: c.itemsTo j := by
 induction j with
 | zero => obtain rfl : i = 0 := by omega
           exact List.prefix_rfl
 | succ j ih =>
  rcases Nat.lt_or_ge j i with h' | h'
  ·obtain rfl : i = j + 1 := by omega
   exact List.prefix_rfl
  ·exact (ih h').trans (List.prefix_append _ _)
theorem Qdy (y : Yr) {i j : Nat} (h : i ≤ j) : y.moTo i <+: y.moTo j := by
 induction j with
 | zero => obtain rfl : i = 0 := by omega
           exact List.prefix_rfl
 | succ j ih =>
  rcases Nat.lt_or_ge j i with h' | h'
  ·obtain rfl : i = j + 1 := by omega
   exact List.prefix_rfl
  ·exact (ih h').trans (List.prefix_append _ _)
theorem Te {c : Qf} {i k : Nat} (hi : i < c.ny) (hk : k ≤ 12) : c.upTo i k <+: c.items := by
 refine List.IsPrefix.trans ?_ (Qcx c (show i + 1 ≤ c.ny from hi))
 obtain ⟨t, ht⟩ := Qdy (c.yr i) hk
 show c.itemsTo i ++ _ <+: c.itemsTo i ++ Ju i (c.yr i) (c.dayAt i) ((c.yr i).moTo 12)
 rw [← ht, Mg, ← List.append_assoc]
 exact List.prefix_append _ _
theorem Bk {c : Qf} {i k : Nat} (hi : i < c.ny) (hk : k < 12) : c.upTo i k ++ [c.it1 i k] <+: c.items := by
 by_cases h : (c.yr i).db = (k : Int) + 1
 ·refine List.IsPrefix.trans ?_ (Te hi (show k + 1 ≤ 12 from hk))
  rw [Tf h]; exact List.prefix_append _ _
 ·rw [← Ay h]; exact Te hi hk
theorem Ar {c : Qf} {i k : Nat} (hi : i < c.ny) (hk : k < 12) (h : (c.yr i).db = (k : Int) + 1) : c.upTo i k ++ [c.it1 i k] ++ [c.it2 i k] <+: c.items := by
 rw [← Tf h]; exact Te hi hk
theorem Dj {α : Type} {Qv l : List α} {x : α} (h : Qv ++ [x] <+: l) : Qv.length < l.length := by
 have := h.length_le; simp at this; omega
theorem Gx (c : Qf) {i k : Nat} (hk : k ≤ 12) : 1 + 348 * (i : Int) ≤ c.dayTo i k ∧ c.dayTo i k ≤ 1 + 390 * (i : Int) + 390 := by
 have h1 := Mz c i
 have h2 := Nj (c.yr i) ((c.yr i).moTo k)
 have h3 : ((c.yr i).moTo k).length ≤ 13 := by rw [Fp]; split <;> omega
 unfold Qf.dayTo; omega
/-- What a month that comes is, whatever its place. -/
structure Qf.okIt (c : Qf) (x : It) : Prop where
 y : x.y < c.ny
 n1 : 1 ≤ x.n
 n12 : x.n ≤ 12
 f1 : 1 ≤ x.first
 f2 : x.first ≤ 390 * (c.ny : Int) + 391
theorem Ng {c : Qf} {i k : Nat} (hi : i < c.ny) (hk : k < 12) : c.okIt (c.it1 i k) := by
 have h := Gx c (i := i) (k := k) (by omega)
 exact ⟨hi, by show 1 ≤ (k : Int) + 1; omega, by show (k : Int) + 1 ≤ 12; omega, by show 1 ≤ c.dayTo i k; omega, by show c.dayTo i k ≤ _; omega⟩
theorem P3 {c : Qf} {i k : Nat} (hi : i < c.ny) (hk : k < 12) : c.okIt (c.it2 i k) := by
 have h := Gx c (i := i) (k := k) (by omega)
 have h2 := Uq (c.yr i) ((k : Int) + 1) false
 exact ⟨hi, by show 1 ≤ (k : Int) + 1; omega, by show (k : Int) + 1 ≤ 12; omega, by show 1 ≤ c.dayTo i k + _; omega, by show c.dayTo i k + _ ≤ _; omega⟩
theorem Nh (c : Qf) : ∀ i : Nat, (c.itemsTo i).length ≤ 13 * i
 | 0 => by simp [Qf.itemsTo]
 | i + 1 => by
  have := Nh c i
  have := Dx (c.yr i)
  rw [Qf.itemsTo, List.length_append, C1]; omega
end
section
open Go Go.RowKit
attribute [local go_sem] Oper.semAt_some
/-- What a round of a loop over the months keeps: what lay in w₀, and each block of years. -/
structure Yg (n₀ : Nat) (W W' : World) : Prop where
 below : Below n₀ W W'
 years : ∀ (k : Nat) (cs : Array Value) (f : Nat × Nat), W.heap[k]? = some (.cells cs 148 f) → W'.heap[k]? = some (.cells cs 148 f)
namespace Yg
variable {n₀ : Nat} {A B C : World}
theorem refl (n₀ : Nat) (W : World) : Yg n₀ W W := ⟨Below.refl _ _, fun _ _ _ h => h⟩
theorem trans (h : Yg n₀ A B) (k : Yg n₀ B C) : Yg n₀ A C := ⟨h.below.trans k.below, fun i cs f hi => k.years i cs f (h.years i cs f hi)⟩
theorem of_ext (e : Qa A B) (hn : n₀ ≤ A.heap.size) : Yg n₀ A B := ⟨e.below.mono hn, fun _ _ _ hi => (e.block (Array.getElem?_eq_some_iff.1 hi).1).trans hi⟩
theorem grown {row : Option Nat} (hg : A.grownBy B row) (hn : n₀ ≤ A.heap.size) (hr : ∀ r, row = some r → n₀ ≤ r ∧ ∃ o, A.heap[r]? = some o ∧ ∀ cs f, o ≠ .cells cs 148 f) : Yg n₀ A B := by
 refine ⟨(Below.refl n₀ A).grown hg hn (fun r e => (hr r e).1), fun i cs f hi => (hg.block i (Array.getElem?_eq_some_iff.1 hi).1 (fun e => ?_)).trans hi⟩
 obtain ⟨_, o, ho, hne⟩ := hr i e.symm
 rw [hi] at ho; cases ho
 exact hne cs f rfl
theorem box {b : Nat} {t : TypeId} {v : Value} (hb : Boxed A b t v) (ht : t ≠ 148) (hn : n₀ ≤ b) (u : Value) : Yg n₀ A (A.setCell ⟨b, 0, none⟩ u) :=
 grown (grownBy_setCell' A b u) (Nat.le_of_lt (Nat.lt_of_le_of_lt hn hb.lt)) (fun r e => by
  cases e; exact ⟨hn, _, hb, fun cs f h => ht (by injection h)⟩)
theorem turn {w : World} (hn : n₀ ≤ w.heap.size) (W : World) (l : Nat) (o o' : Obj) (hl : w.heap.size ≤ l) (h : W.heap[l]? = some o) (hc : o.isCells = false) (_ : o.isWalk = false) : Yg n₀ W (W.putObj l o') :=
 grown (grownBy_putObj' W l o') (by have := (Array.getElem?_eq_some_iff.1 h).1; omega) (fun r e => by
  cases e; exact ⟨by omega, _, h, fun cs f hh => by rw [hh] at hc; cases hc⟩)
end Yg
theorem Nb {A B : World} (e : Qa A B) : A.grownBy B none := ⟨e.below.os, e.below.tape, e.below.output, e.size, fun _ hk _ => e.block hk⟩
theorem AbidesFrom.ext {β : Type} {B : Nat} {J : β → World → Prop} (h : AbidesFrom B J) {s : β} {W W' : World} (hs : J s W) (e : Qa W W') : J s W' := h s W W' none hs (Nb e) (fun r h => by cases h)
theorem OwnFrom.ext {β : Type} {B : Nat} {J : β → World → Prop} (h : OwnFrom B J) {s : β} {W W' : World} (hs : J s W) (e : Qa W W') : J s W' := h s W W' none hs (Nb e) (fun r h => by cases h)
/-- A month that a loop is handed. -/
abbrev Mo (c : Qf) := { x : It // c.okIt x }
def Mo.its {c : Qf} (l : List (Mo c)) : List It := l.map (·.1)
def Mo.enc {c : Qf} (x : Mo c) : Array Value := #[.agg #[.int .i64 (x.1.y : Int), .int .i64 x.1.n, .bool x.1.s], .int .i64 x.1.first]
theorem Up {c : Qf} (l : List (Mo c)) (x : Mo c) : Mo.its (l ++ [x]) = Mo.its l ++ [x.1] := by simp [Mo.its]
theorem Ff {c : Qf} (l : List (Mo c)) : (Mo.its l).length = l.length := by simp [Mo.its]
theorem Qd0 (A A' : Option Addr) (ca cb : Nat) (c : Qf) (w : World) :
  Calls Tryz.prog 143 #[.agg #[.slice A c.nk ca, .slice A' c.ny cb]] w fun e w' => e = .returned (.func (.func 174) #[] #[.pointer (some ⟨w.heap.size, 0, none⟩)]) ∧ w.alloc (.cells #[.slice A c.nk ca, .slice A' c.ny cb] 25) = w' := by
 go_enter Tryz.func143, Tryz.ntmps143
 go_wp2
 go_ret
 exact ⟨rfl, rfl⟩
theorem Lr {w : World} {Y : Nat} {t : TypeId} {v0 v1 v2 v3 : Value} (h : w.heap[Y]? = some (.cells #[v0, v1, v2, v3] t (0, 0))) :
  w.cell? ⟨Y, 0, none⟩ = some v0 ∧ w.cell? ⟨Y, 1, none⟩ = some v1 ∧ w.cell? ⟨Y, 2, none⟩ = some v2 ∧ w.cell? ⟨Y, 3, none⟩ = some v3 := by
 refine ⟨?_, ?_, ?_, ?_⟩ <;> simp [World.cell?, h]
theorem Qdz (A A' : Option Addr) (ca cb : Nat) (c : Qf) (B n : Nat) (w₀ w : World) (hC : Zg w₀ A ca A' cb c) (hlg : ∀ i, i < c.ny → 0 ≤ (c.yr i).lg ∧ (c.yr i).lg ≤ 8191) (hny : c.ny ≤ 400) (hn : 1 ≤ n) (he : Qa w₀ w)
  (hB : w.cell? ⟨B, 1, none⟩ = some (.slice A' c.ny cb)) (hBl : B < w.heap.size) :
  SeqStopsK Fence.wide n Tryz.prog 174 #[.pointer (some ⟨B, 0, none⟩)] (Mo.enc (c := c)) (Yg w₀.heap.size) (fun xs => Mo.its xs = c.items) (fun Qv => Mo.its Qv <+: c.items) c.items.length w := by
 intro l J Jx W hW hJ hJx hY h0
 have hWe : Qa w₀ W := he.trans hW
 have hB' : W.cell? ⟨B, 1, none⟩ = some (.slice A' c.ny cb) := (hW.cell (p := ⟨B, 1, none⟩) hBl).trans hB
 clear hB hBl he
 refine callsIn_of_wp Tryz.func174 rfl trivial ?_ rfl
 simp only [Tryz.ntmps174, List.size_toArray, List.length_cons, List.length_nil, Nat.reduceAdd, Nat.reduceSub, Array.replicate_succ, Array.replicate_zero, List.push_toArray, List.append_toArray, List.nil_append, List.cons_append]
 gi_wp2
 gi_loopw [3, 10] (fun d i wr => ∃ k : Nat, k ≤ c.ny ∧ i = .int .i64 k ∧ d = .int .i64 (c.dayAt k) ∧ ∃ Qv : List (Mo c), Mo.its Qv = c.itemsTo k ∧ J Qv wr ∧ Qa w₀ wr) (fun _ i _ => c.ny - (intOf i).toNat)
 case atStart => exact ⟨0, Nat.zero_le _, rfl, rfl, [], rfl, h0, hWe⟩
 case round =>
  obtain ⟨k, hk, rfl, rfl, Qv, hpre, hJp, hE⟩ := hrel
  obtain ⟨wo, rfl⟩ := Qg wr
  by_cases hlt : k < c.ny
  ·obtain ⟨b, off, rfl, hb, c0, c1, c2, c3⟩ := (hC.ext hE).year hlt
   gi_wp2
   have hlgk := hlg k hlt
   have hE2 : Qa w₀ (wo.alloc (.cells #[.int .i64 (c.yr k).k, .string (c.yr k).nm, .int .i64 (c.yr k).lg, .int .i64 (c.yr k).db] 148)) := hE.alloc _
   have hY0 := World.alloc_heap_new wo (.cells #[.int .i64 (c.yr k).k, .string (c.yr k).nm, .int .i64 (c.yr k).lg, .int .i64 (c.yr k).db] 148)
   have hJ0 := AbidesFrom.ext hJ hJp ((Qa.refl wo).alloc (.cells #[.int .i64 (c.yr k).k, .string (c.yr k).nm, .int .i64 (c.yr k).lg, .int .i64 (c.yr k).db] 148))
   generalize hyb : wo.heap.size = Y at *
   clear hyb c0 c1 c2 c3 hb
   gi_loopw [3, 6] (fun d m wq => ∃ j : Nat, j ≤ 12 ∧ m = .int .i64 (j + 1) ∧ d = .int .i64 (c.dayTo k j) ∧ ∃ Qv : List (Mo c), Mo.its Qv = c.upTo k j ∧ J Qv wq ∧ Qa w₀ wq ∧
    wq.heap[Y]? = some (.cells #[.int .i64 (c.yr k).k, .string (c.yr k).nm, .int .i64 (c.yr k).lg, .int .i64 (c.yr k).db] 148 (0, 0))) (fun _ m _ => 13 - (intOf m).toNat)
   case atStart => exact ⟨0, Nat.zero_le _, rfl, by rw [Qa5], Qv, by rw [Qgk, hpre], hJ0, hE2, hY0⟩
   case round =>
    clear hE hE2 hY0 hJ0 hJp hpre Qv
    obtain ⟨j, hj, rfl, rfl, Qv, hpre, hJp, hE, hYb⟩ := hrel
    by_cases hlj : j < 12
    ·obtain ⟨y0, y1, y2, y3⟩ := Lr hYb
     have hx := hY Qv ⟨_, Ng hlt hlj⟩ wr hJp (by have := Dj (hpre ▸ Bk hlt hlj); rw [Ff] at this; exact this)
     obtain ⟨fn, tmps, assign, body, hy, hR⟩ := hx
     simp only [Mo.enc, Qf.it1] at hy
     gi_wp2
     refine hR.mono ?_
     rintro e W3 (⟨rfl, hJ3, hk3⟩ | ⟨rfl, hJx3⟩)
     ·clear hR hy
      have hYb3 := hk3.years _ _ _ hYb
      have hE3 : Qa w₀ W3 := Below.trans hE hk3.below
      obtain ⟨z0, z1, z2, z3⟩ := Lr hYb3
      have hbd := Gx c (i := k) (k := j) (by omega)
      have hbl := Uq (c.yr k) ((j : Int) + 1) false
      by_cases hdb : (c.yr k).db = (j : Int) + 1
      ·have hd1 : ((c.yr k).db != (j : Int) + 1) = false := bne_eq_false_iff_eq.2 hdb
       have HD := Lib.hid hdb
       clear hdb y0 y1 y2 y3
       gi_wp2_with (refine ⟨trivial, ?_⟩; gi_at_call 173; refine (callsIn_wide.2 (Lx (c.yr k) _ _ _ (by omega) (by omega) hlgk.1 hlgk.2)).mono ?_; rintro e w4 ⟨rfl, hb4⟩; obtain ⟨fn2, tmps2, assign2, body2, hy2, hR2⟩ := hY _ ⟨_, P3 hlt hlj⟩ w4 (AbidesFrom.ext hJ hJ3 hb4) (by have := Dj (Ar hlt hlj HD.out); rwa [← hpre, ← Up Qv ⟨c.it1 k j, Ng hlt hlj⟩, Ff] at this); simp only [Mo.enc, Qf.it2] at hy2; have hYb4 := (hb4.block (Array.getElem?_eq_some_iff.1 hYb3).1).trans hYb3; obtain ⟨x0, x1, x2, x3⟩ := Lr hYb4; clear z0 z1 z2 z3)
       refine hR2.mono ?_
       rintro e W5 (⟨rfl, hJ5, hk5⟩ | ⟨rfl, hJx5⟩)
       ·clear hR2 hy2
        have hYb5 := hk5.years _ _ _ hYb4
        have hE5 : Qa w₀ W5 := Below.trans (hE3.trans hb4) hk5.below
        obtain ⟨s0, s1, s2, s3⟩ := Lr hYb5
        clear x0 x1 x2 x3 hd1
        have hbl2 := Uq (c.yr k) ((j : Int) + 1) true
        gi_wp2_with (refine ⟨trivial, ?_⟩; gi_at_call 173; refine (callsIn_wide.2 (Lx (c.yr k) _ _ _ (by omega) (by omega) hlgk.1 hlgk.2)).mono ?_; rintro e w6 ⟨rfl, hb6⟩)
        exact ⟨⟨j + 1, by omega, by go_num, by rw [Qa4 HD.out], _, by rw [Up, Up, hpre, Tf HD.out], AbidesFrom.ext hJ hJ5 hb6, hE5.trans hb6, (hb6.block (Array.getElem?_eq_some_iff.1 hYb5).1).trans hYb5⟩, by simp [intOf]; omega⟩
       ·gi_wp2
        refine bodyPost_ret (results_none rfl _ _ _) rfl ?_
        exact ⟨⟨_, rfl⟩, .inr ⟨_, by rw [Up, Up, hpre]; exact Ar hlt hlj HD.out, hJx5⟩⟩
      ·have hd1 : ((c.yr k).db != (j : Int) + 1) = true := bne_iff_ne.2 hdb
       have HD := Lib.hid hdb
       clear hdb y0 y1 y2 y3
       gi_wp2_with (refine ⟨trivial, ?_⟩; gi_at_call 173; refine (callsIn_wide.2 (Lx (c.yr k) _ _ _ (by omega) (by omega) hlgk.1 hlgk.2)).mono ?_; rintro e w4 ⟨rfl, hb4⟩; have hYb4 := (hb4.block (Array.getElem?_eq_some_iff.1 hYb3).1).trans hYb3; obtain ⟨x0, x1, x2, x3⟩ := Lr hYb4; clear z0 z1 z2 z3)
       exact ⟨⟨j + 1, by omega, by go_num, by rw [Qa3 HD.out], _, by rw [Up, hpre, Ay HD.out], AbidesFrom.ext hJ hJ3 hb4, hE3.trans hb4, (hb4.block (Array.getElem?_eq_some_iff.1 hYb3).1).trans hYb3⟩, by simp [intOf]; omega⟩
     ·gi_wp2
      refine bodyPost_ret (results_none rfl _ _ _) rfl ?_
      exact ⟨⟨_, rfl⟩, .inr ⟨_, by rw [Up, hpre]; exact Bk hlt hlj, hJx3⟩⟩
    ·obtain rfl : j = 12 := by omega
     gi_wp2
     exact ⟨⟨k + 1, by omega, by go_num, rfl, Qv, by rw [hpre]; rfl, hJp, hE⟩, by simp [intOf]; omega⟩
  ·gi_wp2
   go_end0
   exact ⟨⟨_, rfl⟩, .inl ⟨Qv, by rw [hpre, show k = c.ny from by omega]; rfl, hJp⟩⟩
end
section
open Go Go.RowKit
theorem Qbo (w : World) (x0 y0 : Int) (x1 y1 : Int) (x2 y2 : Bool) : (Op.equalIn 10000 231 (.agg #[.int .i64 x0, .int .i64 x1, .bool x2]) (.agg #[.int .i64 y0, .int .i64 y1, .bool y2])).run Tryz.prog w = .ok ((x0 == y0) && ((x1 == y1) && (x2 == y2))) w := by
 go_simp
 by_cases h0 : x0 = y0
 rotate_left
 ·simp [h0]
 by_cases h1 : x1 = y1
 rotate_left
 ·simp [h1]
 by_cases h2 : x2 = y2
 rotate_left
 ·simp [h2]
 simp [h0, h1, h2]
theorem Qbr (w : World) (x0 y0 : Int) (x1 y1 : Int) (x2 y2 : Bool) : (binOp .eql 231 (.agg #[.int .i64 x0, .int .i64 x1, .bool x2]) (.agg #[.int .i64 y0, .int .i64 y1, .bool y2])).run Tryz.prog w = .ok (.bool ((x0 == y0) && ((x1 == y1) && (x2 == y2)))) w := by rw [run_eql_struct, Qbo]; rfl
theorem Qbk (w : World) (x0 y0 : Int) (x1 y1 : Int) (x2 y2 : Bool) (x3 y3 : Int) : (Op.equalIn 10000 51 (.agg #[.int .i64 x0, .int .i64 x1, .bool x2, .int .i64 x3]) (.agg #[.int .i64 y0, .int .i64 y1, .bool y2, .int .i64 y3])).run Tryz.prog w = .ok ((x0 == y0) && ((x1 == y1) && ((x2 == y2) && (x3 == y3)))) w := by
 go_simp
 by_cases h0 : x0 = y0
 rotate_left
 ·simp [h0]
 by_cases h1 : x1 = y1
 rotate_left
 ·simp [h1]
 by_cases h2 : x2 = y2
 rotate_left
 ·simp [h2]
 by_cases h3 : x3 = y3
 rotate_left
 ·simp [h3]
 simp [h0, h1, h2, h3]
theorem Qeg (w : World) (x0 y0 : Int) (x1 y1 : Int) (x2 y2 : Bool) (x3 y3 : Int) : (binOp .neq 51 (.agg #[.int .i64 x0, .int .i64 x1, .bool x2, .int .i64 x3]) (.agg #[.int .i64 y0, .int .i64 y1, .bool y2, .int .i64 y3])).run Tryz.prog w = .ok (.bool (!((x0 == y0) && ((x1 == y1) && ((x2 == y2) && (x3 == y3)))))) w := by rw [run_neq_struct, Qbk]; rfl
end
section
open Go Go.RowKit
attribute [local go_sem] Zq
set_option maxHeartbeats 1000000 in
theorem Pw (A A' : Option Addr) (ca cb : Nat) (c : Qf) (d : Dt) (w : World) (hC : Zg w A ca A' cb c) (hlg : ∀ i, i < c.ny → 0 ≤ (c.yr i).lg ∧ (c.yr i).lg ≤ 8191) :
  Calls Tryz.prog 142 #[.agg #[.slice A c.nk ca, .slice A' c.ny cb], .agg #[.int .i64 d.y, .int .i64 d.m, .bool d.s, .int .i64 d.d]] w fun e w' => e = .returned (.bool (c.has d)) ∧ Qa w w' := by
 have hny := hC.ny_le
 have H : Hid (c.has d = (!(decide (d.y < 0) || decide ((c.ny : Int) ≤ d.y) || decide (d.m < 1) || decide (12 < d.m)) && ((!d.s || ((c.yrI d.y).db == d.m)) && decide (1 ≤ d.d) && decide (d.d ≤ (c.yrI d.y).len d.m d.s)))) := by
  unfold Hid Qf.has
  rw [Bool.eq_iff_iff]
  cases d.s <;> simp <;> omega
 generalize c.has d = r at *
 go_enter Tryz.func142, Tryz.ntmps142
 go_upto_region 1 with (fail)
 refine Vh w (by repeat (first | exact Qa.refl _ | (refine Qa.alloc ?_ _) | (refine Qa.trans ?_ (by assumption)))) ?_
 intro hne hrx hry
 try simp only []
 try simp only [List.append_eq, List.cons_append, List.nil_append]
 have hrx0 := fun u o => hrx u (w.heap.size) o (by first | omega | (simp; done) | (simp; omega))
 have hrx1 := fun u o => hrx u (w.heap.size + 1) o (by first | omega | (simp; done) | (simp; omega))
 skip
 repeat (first
  | go_big_quiet_skip
  | ((with_reducible apply Wr)
     ·exact rfl
     ·exact rfl
     ·exact rfl
     intro K hK
     unfold Q0; go_big_quiet_op; (with_reducible refine hK _ ?_); clear hK K)
  | ((with_reducible apply Wu)
     ·exact rfl
     ·exact rfl
     ·exact rfl
     intro K hK
     unfold Q0; go_big_quiet_op; (with_reducible refine hK _ ?_); clear hK K)
  | (go_big_quiet_want; go_big_quiet_op; go_big_quiet_on)
  | ((with_reducible apply Ws)
     ·first | exact Je rfl rfl rfl | exact Jd rfl rfl rfl | exact Jc rfl rfl rfl | exact Jb rfl rfl rfl
     ·exact rfl
     ·exact rfl
     ·exact rfl
     intro K hK
     unfold Q0; go_big_quiet_op; (with_reducible refine hK _ ?_); clear hK K)
  | ((with_reducible apply Wv)
     ·first | exact Je rfl rfl rfl | exact Jd rfl rfl rfl | exact Jc rfl rfl rfl | exact Jb rfl rfl rfl
     ·exact rfl
     ·exact rfl
     ·exact rfl
     intro K hK
     unfold Q0; go_big_quiet_op; (with_reducible refine hK _ ?_); clear hK K)
  | ((with_reducible apply Xv)
     ·first | exact Je rfl rfl rfl | exact Jd rfl rfl rfl | exact Jc rfl rfl rfl | exact Jb rfl rfl rfl
     apply Exists.intro
     refine And.intro (fun hgb => ?_) ?_
     ·intro u
      try simp at hgb
      go_simp
      try simp only [if_pos hsl]
      try simp only [if_pos (hin (by omega))]
      try (simp only [hd0 (by omega)]; go_simp)
      try (rw [hlook _ (Qa.trans (by repeat (first | exact Qa.refl _ | (refine Qa.alloc ?_ _) | (refine Qa.trans ?_ (by assumption)))) u.e) (hlk0 hgb)]; go_simp)
      first
       | (with_reducible exact rfl)
     intro K hK
     unfold Q0; go_big_quiet_op; (with_reducible refine hK _ ?_); clear hK K))
 clear hne hry hrx hrx0 hrx1
 refine wpQuiet_nil ?_
 intro wp hp
 obtain ⟨hcwp, hfwp, hzwp⟩ := Qa.rules hp
 try simp only [World.size_alloc] at hzwp
 have hk0wp := fun o => hcwp (w.heap.size) o (by first | omega | (simp; done) | (simp; omega))
 have hj0wp := fun o => hfwp (w.heap.size) o (by first | omega | (simp; done) | (simp; omega))
 have hl0wp : w.heap.size < wp.heap.size := (by first | omega | (simp; done) | (simp; omega))
 have hk1wp := fun o => hcwp (w.heap.size + 1) o (by first | omega | (simp; done) | (simp; omega))
 have hj1wp := fun o => hfwp (w.heap.size + 1) o (by first | omega | (simp; done) | (simp; omega))
 have hl1wp : w.heap.size + 1 < wp.heap.size := (by first | omega | (simp; done) | (simp; omega))
 obtain ⟨hcbwp, hfbwp, hzbwp⟩ := Qa.rules (show Qa w wp from (by repeat (first | exact Qa.refl _ | (refine Qa.alloc ?_ _) | (refine Qa.trans ?_ (by assumption)))))
 clear hcwp hfwp
 generalize hf : (decide (d.y < 0) || decide ((c.ny : Int) ≤ d.y) || decide (d.m < 1) || decide (12 < d.m)) = f at *
 cases f
 ·have hb4 : 0 ≤ d.y ∧ d.y < c.ny ∧ 1 ≤ d.m ∧ d.m ≤ 12 := by simp only [Bool.or_eq_false_iff, decide_eq_false_iff_not] at hf; omega
  obtain ⟨hy0, hy1, hm0, hm1⟩ := hb4
  clear hf
  obtain ⟨b, off, rfl, hb, c0, c1, c2, c3⟩ := hC.yearI hy0 hy1
  obtain ⟨hl, hl'⟩ : 0 ≤ (c.yrI d.y).lg ∧ (c.yrI d.y).lg ≤ 8191 := hlg _ (by omega)
  clear hlg hC
  generalize c.yrI d.y = yy at *
  go_upto_region 4 with (fail)
  refine Zb w Qq (by kernel_rfl) (by repeat (first | exact Qa.refl _ | (refine Qa.alloc ?_ _) | (refine Qa.trans ?_ (by assumption)))) ?_
  intro hne hrx hry
  try simp only []
  try simp only [List.append_eq, List.cons_append, List.nil_append]
  have hrx0 := fun u o => hrx u (w.heap.size) o (by first | omega | (simp; done) | (simp; omega))
  have hrx1 := fun u o => hrx u (w.heap.size + 1) o (by first | omega | (simp; done) | (simp; omega))
  skip
  repeat (first
   | go_big_quiet_skip
   | ((with_reducible apply Wr)
      ·exact rfl
      ·exact rfl
      ·exact rfl
      intro K hK
      unfold Q0; go_big_quiet_op; (with_reducible refine hK _ ?_); clear hK K)
   | ((with_reducible apply Wu)
      ·exact rfl
      ·exact rfl
      ·exact rfl
      intro K hK
      unfold Q0; go_big_quiet_op; (with_reducible refine hK _ ?_); clear hK K)
   | (go_big_quiet_want; go_big_quiet_op; go_big_quiet_on)
   | (go_big_quiet_want; go_big_quiet_op; apply Exists.intro; refine ⟨fun u => ?_, ?_⟩
      ·first
        | (go_at_call 173; refine (Lx yy _ _ _ hm0 hm1 hl hl').mono ?_; rintro e w' ⟨rfl, hb⟩; exact ⟨rfl, u.back hb⟩)
      go_big_quiet_on)
   | ((with_reducible apply Ws)
      ·first | exact Je rfl rfl rfl | exact Jd rfl rfl rfl | exact Jc rfl rfl rfl | exact Jb rfl rfl rfl
      ·exact rfl
      ·exact rfl
      ·exact rfl
      intro K hK
      unfold Q0; go_big_quiet_op; (with_reducible refine hK _ ?_); clear hK K)
   | ((with_reducible apply Wv)
      ·first | exact Je rfl rfl rfl | exact Jd rfl rfl rfl | exact Jc rfl rfl rfl | exact Jb rfl rfl rfl
      ·exact rfl
      ·exact rfl
      ·exact rfl
      intro K hK
      unfold Q0; go_big_quiet_op; (with_reducible refine hK _ ?_); clear hK K)
   | ((with_reducible apply Xv)
      ·first | exact Je rfl rfl rfl | exact Jd rfl rfl rfl | exact Jc rfl rfl rfl | exact Jb rfl rfl rfl
      apply Exists.intro
      refine And.intro (fun hgb => ?_) ?_
      ·intro u
       try simp at hgb
       go_simp
       try simp only [if_pos hsl]
       try simp only [if_pos (hin (by omega))]
       try (simp only [hd0 (by omega)]; go_simp)
       try (rw [hlook _ (Qa.trans (by repeat (first | exact Qa.refl _ | (refine Qa.alloc ?_ _) | (refine Qa.trans ?_ (by assumption)))) u.e) (hlk0 hgb)]; go_simp)
       first
        | (with_reducible exact rfl)
        | (go_at_call 173; refine (Lx yy _ _ _ hm0 hm1 hl hl').mono ?_; rintro e w' ⟨rfl, hb⟩; exact ⟨rfl, u.back hb⟩)
      intro K hK
      unfold Q0; go_big_quiet_op; (with_reducible refine hK _ ?_); clear hK K))
  clear hne hry hrx hrx0 hrx1
  refine wpQuiet_nil ?_
  intro wq hq
  obtain ⟨hcwq, hfwq, hzwq⟩ := Qa.rules hq
  try simp only [World.size_alloc] at hzwq
  have hk0wq := fun o => hcwq (w.heap.size) o (by first | omega | (simp; done) | (simp; omega))
  have hj0wq := fun o => hfwq (w.heap.size) o (by first | omega | (simp; done) | (simp; omega))
  have hl0wq : w.heap.size < wq.heap.size := (by first | omega | (simp; done) | (simp; omega))
  have hk1wq := fun o => hcwq (w.heap.size + 1) o (by first | omega | (simp; done) | (simp; omega))
  have hj1wq := fun o => hfwq (w.heap.size + 1) o (by first | omega | (simp; done) | (simp; omega))
  have hl1wq : w.heap.size + 1 < wq.heap.size := (by first | omega | (simp; done) | (simp; omega))
  obtain ⟨hcbwq, hfbwq, hzbwq⟩ := Qa.rules (show Qa w wq from (by repeat (first | exact Qa.refl _ | (refine Qa.alloc ?_ _) | (refine Qa.trans ?_ (by assumption)))))
  clear hcwq hfwq
  go_wp2
  go_ret
  refine ⟨Yc ?_, (by repeat (first | exact Qa.refl _ | (refine Qa.alloc ?_ _) | (refine Qa.trans ?_ (by assumption))))⟩
  rw [H.out]
  rfl
 ·go_wp2
  go_ret
  exact ⟨Yc (by rw [H.out]; rfl), (by repeat (first | exact Qa.refl _ | (refine Qa.alloc ?_ _) | (refine Qa.trans ?_ (by assumption))))⟩
def La (f : Nat → ByteArray) (s : ByteArray) (k : Nat) : Prop := ∀ j, j < k → f j ≠ s
theorem Qfw {a b : ByteArray} (h : (a.toList == b.toList) = true) : a = b := by rw [← Ov] at h; simpa using h
theorem Qfv {a b : ByteArray} (h : (a.toList == b.toList) = false) : a ≠ b := by rw [← Ov] at h; simpa using h
def Wm (f : Nat → Yr) (y : Yr) (n : Nat) : Bool := (List.range n).any fun j => (f j).alike y
def Mp (f : Nat → ByteArray) (k : Nat) : Prop := ∀ i j, j < i → i < k → f j ≠ f i
def Wy (f : Nat → ByteArray) (k : Nat) : Bool := (List.range k).all fun i => Ja (f i)
theorem Qc1 {c : Qf} {j k : Nat} (hk : k < c.nk) (hj : j < k) (h : c.kg j = c.kg k) : c.kingsOk = false := by
 rw [Bool.eq_false_iff]
 intro hh
 simp only [Qf.kingsOk, Bool.and_eq_true, List.all_eq_true, List.mem_range] at hh
 have h1 := hh.2 k hk
 simp only [Qf.kingOk, Bool.and_eq_true, List.all_eq_true, List.mem_range, decide_eq_true_eq] at h1
 exact h1.2 j hj h
theorem Qc0 {c : Qf} (h : Mp c.kg c.nk) : c.kingsOk = (decide (1 ≤ (c.nk : Int)) && decide ((c.nk : Int) ≤ 40) && Wy c.kg c.nk) := by
 have e : (List.range c.nk).all c.kingOk = Wy c.kg c.nk := by
  rw [Wy, Bool.eq_iff_iff]
  simp only [List.all_eq_true, List.mem_range, Qf.kingOk, Bool.and_eq_true, decide_eq_true_eq]
  exact ⟨fun hh i hi => (hh i hi).1, fun hh i hi => ⟨hh i hi, fun j hj => h i j hj hi⟩⟩
 rw [Qf.kingsOk, e]
 congr 2 <;> simp <;> omega
theorem Qeo {f : Nat → ByteArray} {s : ByteArray} {k : Nat} (h : La f s k) (hk : f k ≠ s) : La f s (k + 1) := fun j hj => by
 rcases Nat.lt_or_ge j k with h' | h'
 ·exact h j h'
 ·rw [show j = k from by omega]; exact hk
theorem Qem {f : Nat → ByteArray} {k : Nat} (h : Mp f k) (hk : La f (f k) k) : Mp f (k + 1) := fun i j hj hi => by
 rcases Nat.lt_or_ge i k with h' | h'
 ·exact h i j hj h'
 ·obtain rfl : i = k := by omega
  exact hk j hj
theorem Qd3 (f : Nat → ByteArray) (k : Nat) : Wy f (k + 1) = (Wy f k && Ja (f k)) := by
 rw [Wy, Wy, List.range_succ, List.all_append]; simp
set_option maxHeartbeats 1000000 in
theorem Ed (A : Option Addr) (ca : Nat) (c : Qf) (w : World) (hA : Qo w A c.nk 1 (fun i => [.string (c.kg i)])) (hn : c.nk ≤ 9223372036854775807) (hcap : c.nk ≤ ca) :
  Calls Tryz.prog 172 #[.slice A c.nk ca] w fun e w' => e = .returned (.bool c.kingsOk) ∧ Qa w w' := by
 go_enter Tryz.func172, Tryz.ntmps172
 go_upto_region 1 with (fail)
 go_step3
 go_upto_region 1 with (fail)
 refine Vh w (by repeat (first | exact Qa.refl _ | (refine Qa.alloc ?_ _) | (refine Qa.trans ?_ (by assumption)))) ?_
 intro hne hrx hry
 try simp only []
 try simp only [List.append_eq, List.cons_append, List.nil_append]
 skip
 repeat (first
  | go_big_quiet_skip
  | ((with_reducible apply Wr)
     ·exact rfl
     ·exact rfl
     ·exact rfl
     intro K hK
     unfold Q0; go_big_quiet_op; (with_reducible refine hK _ ?_); clear hK K)
  | ((with_reducible apply Wu)
     ·exact rfl
     ·exact rfl
     ·exact rfl
     intro K hK
     unfold Q0; go_big_quiet_op; (with_reducible refine hK _ ?_); clear hK K)
  | (go_big_quiet_want; go_big_quiet_op; go_big_quiet_on)
  | ((with_reducible apply Ws)
     ·first | exact Je rfl rfl rfl | exact Jd rfl rfl rfl | exact Jc rfl rfl rfl | exact Jb rfl rfl rfl
     ·exact rfl
     ·exact rfl
     ·exact rfl
     intro K hK
     unfold Q0; go_big_quiet_op; (with_reducible refine hK _ ?_); clear hK K)
  | ((with_reducible apply Wv)
     ·first | exact Je rfl rfl rfl | exact Jd rfl rfl rfl | exact Jc rfl rfl rfl | exact Jb rfl rfl rfl
     ·exact rfl
     ·exact rfl
     ·exact rfl
     intro K hK
     unfold Q0; go_big_quiet_op; (with_reducible refine hK _ ?_); clear hK K)
  | ((with_reducible apply Xv)
     ·first | exact Je rfl rfl rfl | exact Jd rfl rfl rfl | exact Jc rfl rfl rfl | exact Jb rfl rfl rfl
     apply Exists.intro
     refine And.intro (fun hgb => ?_) ?_
     ·intro u
      try simp at hgb
      go_simp
      try simp only [if_pos hsl]
      try simp only [if_pos (hin (by omega))]
      try (simp only [hd0 (by omega)]; go_simp)
      try (rw [hlook _ (Qa.trans (by repeat (first | exact Qa.refl _ | (refine Qa.alloc ?_ _) | (refine Qa.trans ?_ (by assumption)))) u.e) (hlk0 hgb)]; go_simp)
      first
       | (with_reducible exact rfl)
     intro K hK
     unfold Q0; go_big_quiet_op; (with_reducible refine hK _ ?_); clear hK K))
 clear hne hry hrx
 refine wpQuiet_nil ?_
 intro wq hq
 obtain ⟨hcwq, hfwq, hzwq⟩ := Qa.rules hq
 try simp only [World.size_alloc] at hzwq
 obtain ⟨hcbwq, hfbwq, hzbwq⟩ := Qa.rules (show Qa w wq from (by repeat (first | exact Qa.refl _ | (refine Qa.alloc ?_ _) | (refine Qa.trans ?_ (by assumption)))))
 clear hcwq hfwq
 go_wp2
 go_step3
 go_wp2
 go_loopw [3, 18] (fun o i wr => ∃ k : Nat, k ≤ c.nk ∧ i = .int .i64 k ∧ o = .bool (decide (1 ≤ (c.nk : Int)) && decide ((c.nk : Int) ≤ 40) && Wy c.kg k) ∧ Mp c.kg k ∧ Qa w wr) (fun _ i _ => c.nk - (intOf i).toNat)
 case atStart => exact ⟨0, Nat.zero_le _, rfl, by simp [Wy], (fun i j _ h => absurd h (by omega)), hq⟩
 case round =>
  obtain ⟨k, hk, rfl, rfl, hN, hB⟩ := hrel
  clear hq hzwq hcbwq hfbwq hzbwq
  obtain ⟨wo, rfl⟩ := Qg wr
  obtain ⟨hcwo, hfwo, hzwo⟩ := Qa.rules hB
  try simp only [World.size_alloc] at hzwo
  obtain ⟨hcbwo, hfbwo, hzbwo⟩ := Qa.rules (show Qa w wo from (by repeat (first | exact Qa.refl _ | (refine Qa.alloc ?_ _) | (refine Qa.trans ?_ (by assumption)))))
  clear hcwo hfwo
  by_cases hlt : k < c.nk
  ·obtain ⟨b, off, rfl, hb, hc⟩ := hA (by omega)
   have hc' : ∀ j, j < c.nk → w.cell? ⟨b, off + j, none⟩ = some (.string (c.kg j)) := fun j hj => by simpa using hc j 0 _ hj rfl
   have c0 := hc' k hlt
   clear hc hA
   go_wp2
   go_loop [3, 27] (fun o i => ∃ j : Nat, j ≤ k ∧ i = .int .i64 j ∧ o = .bool (decide (1 ≤ (c.nk : Int)) && decide ((c.nk : Int) ≤ 40) && Wy c.kg k) ∧ La c.kg (c.kg k) j) (fun _ i => k - (intOf i).toNat)
   case atStart => exact ⟨0, Nat.zero_le _, rfl, rfl, fun j h => absurd h (by omega)⟩
   case round =>
    obtain ⟨j, hj, rfl, rfl, hT⟩ := hrel
    by_cases hlj : j < k
    ·have c1 := hc' j (by omega)
     go_wp2
     ·go_ret
      exact ⟨Yc (Qc1 hlt hlj (Qfw ‹_›)).symm, (by repeat (first | exact Qa.refl _ | (refine Qa.alloc ?_ _) | (refine Qa.trans ?_ (by assumption))))⟩
     ·have hne := Qfv (a := c.kg j) (b := c.kg k) ‹_›
      exact ⟨⟨j + 1, by omega, by go_num, rfl, Qeo hT hne⟩, by simp [intOf]; omega⟩
    ·have hTk : La c.kg (c.kg k) k := fun i hi => hT i (by omega)
     go_upto_region 11 with (fail)
     refine Vh w (by repeat (first | exact Qa.refl _ | (refine Qa.alloc ?_ _) | (refine Qa.trans ?_ (by assumption)))) ?_
     intro hne hrx hry
     try simp only []
     try simp only [List.append_eq, List.cons_append, List.nil_append]
     skip
     repeat (first
      | go_big_quiet_skip
      | ((with_reducible apply Wr)
         ·exact rfl
         ·exact rfl
         ·exact rfl
         intro K hK
         unfold Q0; go_big_quiet_op; (with_reducible refine hK _ ?_); clear hK K)
      | ((with_reducible apply Wu)
         ·exact rfl
         ·exact rfl
         ·exact rfl
         intro K hK
         unfold Q0; go_big_quiet_op; (with_reducible refine hK _ ?_); clear hK K)
      | (go_big_quiet_want; go_big_quiet_op; go_big_quiet_on)
      | (go_big_quiet_want; go_big_quiet_op; apply Exists.intro; refine ⟨fun u => ?_, ?_⟩
         ·first
           | (go_at_call 120; refine (U7 _ _).mono ?_; rintro e w' ⟨rfl, rfl⟩; exact ⟨rfl, u, rfl⟩)
         go_big_quiet_on)
      | ((with_reducible apply Ws)
         ·first | exact Je rfl rfl rfl | exact Jd rfl rfl rfl | exact Jc rfl rfl rfl | exact Jb rfl rfl rfl
         ·exact rfl
         ·exact rfl
         ·exact rfl
         intro K hK
         unfold Q0; go_big_quiet_op; (with_reducible refine hK _ ?_); clear hK K)
      | ((with_reducible apply Wv)
         ·first | exact Je rfl rfl rfl | exact Jd rfl rfl rfl | exact Jc rfl rfl rfl | exact Jb rfl rfl rfl
         ·exact rfl
         ·exact rfl
         ·exact rfl
         intro K hK
         unfold Q0; go_big_quiet_op; (with_reducible refine hK _ ?_); clear hK K)
      | ((with_reducible apply Xv)
         ·first | exact Je rfl rfl rfl | exact Jd rfl rfl rfl | exact Jc rfl rfl rfl | exact Jb rfl rfl rfl
         apply Exists.intro
         refine And.intro (fun hgb => ?_) ?_
         ·intro u
          try simp at hgb
          go_simp
          try simp only [if_pos hsl]
          try simp only [if_pos (hin (by omega))]
          try (simp only [hd0 (by omega)]; go_simp)
          try (rw [hlook _ (Qa.trans (by repeat (first | exact Qa.refl _ | (refine Qa.alloc ?_ _) | (refine Qa.trans ?_ (by assumption)))) u.e) (hlk0 hgb)]; go_simp)
          first
           | (with_reducible exact rfl)
           | (go_at_call 120; refine (U7 _ _).mono ?_; rintro e w' ⟨rfl, rfl⟩; exact ⟨rfl, u, rfl⟩)
         intro K hK
         unfold Q0; go_big_quiet_op; (with_reducible refine hK _ ?_); clear hK K))
     clear hne hry hrx
     refine wpQuiet_nil ?_
     intro wn hwn
     obtain ⟨hcwn, hfwn, hzwn⟩ := Qa.rules hwn
     try simp only [World.size_alloc] at hzwn
     obtain ⟨hcbwn, hfbwn, hzbwn⟩ := Qa.rules (show Qa w wn from (by repeat (first | exact Qa.refl _ | (refine Qa.alloc ?_ _) | (refine Qa.trans ?_ (by assumption)))))
     clear hcwn hfwn
     go_wp2
     exact ⟨⟨k + 1, by omega, by go_num, by simp only [Qd3, Bool.and_assoc], Qem hN hTk, (by repeat (first | exact Qa.refl _ | (refine Qa.alloc ?_ _) | (refine Qa.trans ?_ (by assumption))))⟩, by simp [intOf]; omega⟩
  ·go_wp2
   rw [Exit.noGoto_ret]
   go_ret
   exact ⟨Yc (by rw [Qc0 (fun i j hj hi => hN i j hj (by omega)), show c.nk = k from by omega]), (by repeat (first | exact Qa.refl _ | (refine Qa.alloc ?_ _) | (refine Qa.trans ?_ (by assumption))))⟩
def Vp (c : Qf) (k : Nat) : Prop := ∀ i, i < k → c.yearOk i = true
theorem Qb4 (c : Qf) (y : Yr) (k : Nat) : c.hadTo y k = Wm c.yr y k := rfl
theorem Qfh {c : Qf} {k : Nat} (h : Vp c k) : 0 ≤ c.prevK k ∧ (0 < k → c.prevK k = (c.yr (k - 1)).k) := by
 induction k with
 | zero => exact ⟨Int.le_refl _, fun h => absurd h (by omega)⟩
 | succ k ih =>
  have h1 := ih (fun i hi => h i (by omega))
  have h2 := h k (by omega)
  simp only [Qf.yearOk, Bool.and_eq_true, decide_eq_true_eq] at h2
  refine ⟨?_, fun _ => rfl⟩
  show 0 ≤ (c.yr k).k
  omega
theorem C8 (y : Yr) : y.shapeOk = !(decide (y.db < 0) || decide (12 < y.db) || decide (y.lg < 0) || decide (8191 < y.lg) || (y.db == 0 && decide (4096 ≤ y.lg))) := by
 rw [Yr.shapeOk, Bool.eq_iff_iff]; simp; omega
theorem Qgq {c : Qf} {k : Nat} (hk : k < c.ny) (h : c.yearOk k = false) : c.valid = false := by
 rw [Bool.eq_false_iff]; intro hh
 simp only [Qf.valid, Bool.and_eq_true, List.all_eq_true, List.mem_range] at hh
 rw [hh.2 k hk] at h; cases h
theorem Ak {p : Nat → Bool} {k : Nat} (h : ∀ i, i < k → p i = true) (hk : p k = true) : ∀ i, i < k + 1 → p i = true := fun i hi => by
 rcases Nat.lt_or_ge i k with h' | h'
 ·exact h i h'
 ·rw [show i = k from by omega]; exact hk
end
section
open Go Go.RowKit
open Go.Maps
theorem D3 : (263 : TypeId) < Tryz.prog.types.size := of_decide_eq_true (by kernel_rfl)
theorem Qec : (match Tryz.prog.underlying 263 with | some (.array _ _) | some (.struct _) => true | _ => false) = true := by kernel_rfl
theorem Qfk : laidOutB Tryz.prog = true := by kernel_rfl
theorem Np : Keyed Tryz.prog 263 := Keyed.of_law (Go.deep_law_laid Qfk (m := 2) (by omega) D3 (by kernel_rfl) Qec)
theorem D2 : Tryz.prog.underlying 261 = some (.map 263 4) := by kernel_rfl
theorem Qed (w : World) : (zeroValue 4).run Tryz.prog w = .ok (.bool false) w := by kernel_rfl
theorem Gg : Tryz.prog.underlying 4 = some .bool := by kernel_rfl
def M8 : Option TypeDesc → Array Field
 | some (.struct fs) => fs
 | _ => #[]
theorem Qeb : Tryz.prog.underlying 263 = some (.struct (M8 (Tryz.prog.underlying 263))) := by kernel_rfl
theorem Qd8 : (M8 (Tryz.prog.underlying 263)).toList.map (fun f => (f.type, f.offset)) = [(3, 0), (9, 1)] := by kernel_rfl
theorem Qea : (M8 (Tryz.prog.underlying 263)).all (·.name != "_") = true := by kernel_rfl
theorem D1 : Tryz.prog.cellsOf 263 = 2 := by kernel_rfl
theorem Qd9 : Tryz.prog.keyType 263 = true := by kernel_rfl
theorem Qgf : ∃ m, Tryz.prog.types.size = m + 1 + 1 := by
 have h : (2 : Nat) ≤ Tryz.prog.types.size := Nat.le_trans (show (2 : Nat) ≤ 263 by decide) (Nat.le_of_lt D3)
 exact ⟨Tryz.prog.types.size - 2, by omega⟩
/-- What the pair of a king's place and a name reads as. -/
def O9 (k : Int) (nm : ByteArray) : Lit := .string (keyBytes [.int .i64 k, .string nm.data.toList])
theorem Ni {k : Int} {nm : ByteArray} (hk : (Lit.int .i64 k).wf = true) (hn : nm.size ≤ maxLen) : keyOf Tryz.prog 263 (.agg #[.int .i64 k, .string nm]) = some (O9 k nm) := by
 obtain ⟨m, hm⟩ := Qgf
 have hf := Qd8
 have hN := Qea
 have hU := Qeb
 generalize M8 (Tryz.prog.underlying 263) = fs at hf hN hU
 obtain ⟨l⟩ := fs
 simp only [List.map_eq_cons_iff, List.map_eq_nil_iff] at hf
 obtain ⟨f0, _, rfl, e0, f1, _, rfl, e1, rfl⟩ := hf
 simp only [Prod.mk.injEq] at e0 e1
 unfold keyOf
 simp only [hU]
 rw [if_pos (by simp [Qd9, Value.formed, hU, D1]), hm]
 unfold Program.keyLits
 simp only [hU, Value.cells]
 rw [if_pos ⟨by rw [D1]; rfl, hN⟩, List.mapM_cons, List.mapM_cons, List.mapM_nil]
 rw [e0.1, e0.2, e1.1, e1.2]
 have c3 : Tryz.prog.cellsOf 3 = 1 := by kernel_rfl
 have c9 : Tryz.prog.cellsOf 9 = 1 := by kernel_rfl
 simp [c3, c9, Program.keyLits, hk, hn, O9]
/-- What the map holds after the first n years. -/
def Vv {H : Type} (f : Nat → Yr) : Nat → DataW H
 | 0 => .map []
 | n + 1 => (Vv f n).put (O9 (f n).k (f n).nm) (.lit (.bool true))
theorem Pp {H : Type} (f : Nat → Yr) : ∀ n, IsMap (Vv (H := H) f n)
 | 0 => isMap_empty
 | n + 1 => (Pp f n).put _ _
def Ui (y : Yr) : Prop := (Lit.int .i64 y.k).wf = true ∧ y.nm.size ≤ maxLen
theorem Po {H : Type} {f : Nat → Yr} {y : Yr} (hy : Ui y) : ∀ n, (∀ j, j < n → Ui (f j)) → (Vv (H := H) f n).atKey (O9 y.k y.nm) (.lit (.bool false)) = .lit (.bool (Wm f y n))
 | 0, _ => rfl
 | n + 1, h => by
  have ih := Po (H := H) hy n (fun j hj => h j (by omega))
  have kf := Ni (h n (by omega)).1 (h n (by omega)).2
  have ky := Ni hy.1 hy.2
  have e : Wm f y (n + 1) = (Wm f y n || (f n).alike y) := by rw [Wm, Wm, List.range_succ, List.any_append]; simp
  rw [e]
  by_cases he : (f n).alike y = true
  ·have h1 : (f n).k = y.k ∧ (f n).nm = y.nm := by simpa [Yr.alike] using he
   rw [he, Bool.or_true, Vv, h1.1, h1.2]
   exact atKey_put_same (Pp f n) (Np.key ky) _ _
  ·rw [Bool.not_eq_true] at he
   rw [he, Bool.or_false, ← ih, Vv]
   refine atKey_put_other (fun hl => ?_) _ _
   have h2 := Np.inj ky (by rw [hl]; exact kf)
   simp at h2
   rw [Yr.alike, h2.1, h2.2] at he
   simp at he
/-- The lookup in the walk. -/
theorem Qb5 {H : Type} {w : World} {b m n : Nat} {f : Nat → Yr} {y : Yr} (hm : w.ownsMap Tryz.prog 263 (plainElem (H := H) Tryz.prog 4) b m (Vv f n)) (hy : Ui y) (hf : ∀ j, j < n → Ui (f j)) :
  (Instr.lookup 261 (.map (some b)) (.agg #[.int .i64 y.k, .string y.nm]) false).run Tryz.prog w = .ok (.bool (Wm f y n)) w := by
 obtain ⟨v, ps, hrun, hv⟩ := hm.lookup Np D2 (Qed w) (plainElem_bool Gg false) (Ni hy.1 hy.2)
 rw [Po hy n hf] at hv
 rw [hrun]
 simp only [plainElem, Gg] at hv
 split at hv <;> simp_all
end
end Go.Proofs.YtoflcheopfppoaaGreatDoor
