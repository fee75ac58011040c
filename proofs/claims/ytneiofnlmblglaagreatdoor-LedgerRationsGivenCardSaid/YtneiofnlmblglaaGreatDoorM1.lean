/- Walks of the program's functions and plain facts, packed; proved: the lemmas below; no conditions but those that each states. -/
import Derived.WalkKit
import Derived.WalkSpells
import Derived.Deep.Quiet
import Derived.Deep.QuietTactic
import Derived.Deep.LoopGhost
import Derived.BigQuiet
import Derived.Deep.Cut
import Derived.Test.YtneiofnlmblglaaGreatDoorProg
import Derived.Test.YtneiofnlmblglaaGreatDoorRows
import Derived.Deep.Slices
import Derived.Deep.Fields
import Derived.Below
import Derived.ReadAgain
import Derived.ChangeSame
import Derived.ProofKit
import Derived.OpenShut
import Derived.SizedLaws
import Derived.Outline
import Derived.StillTail
import Derived.OrdersIn
import Derived.TacticsIn
import Derived.RangeFuncNested
import Derived.RangeFuncBound
import Derived.RangeFuncLeaves
import Derived.OwnWalkIn
import Derived.TacticsInMore
import Derived.LoopNIn
import Derived.LoopIn
import Derived.Lib.Hide
import Derived.Laws.StructEq
import Derived.Maps.Own
import Derived.Maps.Views
import Derived.DeepKeys4
set_option maxRecDepth 100000
set_option maxHeartbeats 4000000
namespace Go.Proofs.YtneiofnlmblglaaGreatDoor
theorem zgA {α : Type _} {xs : List α} {i : Nat} (h : i < xs.toArray.size) : xs.toArray[i] = xs[i]'(by simpa using h) := List.getElem_toArray h
theorem zgB {α : Type _} {a : α} {l : List α} {i : Nat} (h : i + 1 < (a :: l).length) : (a :: l)[i + 1] = l[i]'(Nat.lt_of_succ_lt_succ h) := List.getElem_cons_succ a l i h
theorem zgE {α : Sort _} (a : α) : ∃ b, b = a := ⟨a, rfl⟩
theorem zgC {α : Type _} {a : α} {l : List α} (h : 0 < (a :: l).length) : (a :: l)[0] = a := rfl
end Go.Proofs.YtneiofnlmblglaaGreatDoor
namespace Go.Proofs.YtneiofnlmblglaaGreatDoor
open Go Go.RowKit
/-- w is W and new blocks: what lay in W lies as it lay. -/
def Ext (W w : World) : Prop := Below W.heap.size W w
namespace Ext
theorem refl (W : World) : Ext W W := Below.refl _ _
theorem trans {a b c : World} (h : Ext a b) (k : Ext b c) : Ext a c := Below.trans h (Below.mono k (Below.size h))
theorem alloc {W w : World} (h : Ext W w) (o : Obj) : Ext W (w.alloc o) := Below.alloc h (Below.size h) o
theorem drew {W w : World} (h : Ext W w) : Ext W w.drew := Below.drew h
theorem size {W w : World} (h : Ext W w) : W.heap.size ≤ w.heap.size := Below.size h
theorem setCell {W w : World} (h : Ext W w) {p : Addr} (hp : W.heap.size ≤ p.block) (u : Value) : Ext W (w.setCell p u) := Below.setCell h hp u
theorem grown {W w w' : World} {row : Option Nat} (h : Ext W w) (hg : w.grownBy w' row) (hr : ∀ k, row = some k → W.heap.size ≤ k) : Ext W w' := Below.grown h hg (Below.size h) hr
theorem below {W w : World} (h : Ext W w) : Below W.heap.size W w := h
theorem cell {W w : World} (h : Ext W w) {p : Addr} (hp : p.block < W.heap.size) : w.cell? p = W.cell? p := Below.cell h hp
theorem block {W w : World} (h : Ext W w) {k : Nat} (hk : k < W.heap.size) : w.heap[k]? = W.heap[k]? := Below.block h k hk
/-- The rules that the walk uses. -/
theorem rules {W w : World} (h : Ext W w) : (∀ b o, b < W.heap.size → w.cell? ⟨b, o, none⟩ = W.cell? ⟨b, o, none⟩) ∧ (∀ b o, b < W.heap.size → w.frozen? ⟨b, o, none⟩ = W.frozen? ⟨b, o, none⟩) ∧ W.heap.size ≤ w.heap.size :=
 ⟨fun b o hb => Below.cell h (p := ⟨b, o, none⟩) hb, fun b o hb => Below.frozen h (p := ⟨b, o, none⟩) hb, Below.size h⟩
end Ext
section
variable {P : Program} {ops : Array Oper} {C : World → Prop} {Q : Act → Prop} {a : Act} {o : Oper} {rest : List Oper}
end
/-! ### A quicker check that the order of the text serves every order -/
def fastPair (ops : Array Oper) (k j : Nat) : Bool :=
 match ops[k]?, ops[j]? with
 | some ok, some oj => oj.after.any (fun e => Region.binds .any e && e.on == k) || ok.apart ops oj
 | _, _ => true
def fastReady (ops : Array Oper) (k : Nat) : Bool :=
 match ops[k]? with
 | some ok => ok.after.all (fun e => !Region.binds .any e || decide (e.on < k))
 | none => true
def fastB (ops : Array Oper) : Bool :=
 Region.noSelect ops && (List.range ops.size).all fun j => fastReady ops j && (List.range j).all fun k => fastPair ops k j
theorem listed_get {n k i : Nat} {L : Array Bool} (hL : L.size = n ∧ ∀ i, i < n → L[i]? = some (decide (i < k))) (hi : i < n) (d : Bool) : L.getD i d = decide (i < k) := by
 simp [Array.getD_eq_getD_getElem?, hL.2 i hi]
theorem lexFrom_of_fast {ops : Array Oper} (h : ∀ j, j < ops.size → fastReady ops j = true ∧ ∀ k, k < j → fastPair ops k j = true) : ∀ (m k : Nat) (L : Array Bool), k + m = ops.size →
  (L.size = ops.size ∧ ∀ i, i < ops.size → L[i]? = some (decide (i < k))) → Region.lexFrom .any ops m k L = true
 | 0, k, L, hk, hL => by
  simp only [Region.lexFrom, List.isEmpty_iff]
  apply List.eq_nil_iff_forall_not_mem.2
  intro i hi
  rw [mem_ready] at hi
  obtain ⟨h0, o, ho, _⟩ := hi
  have hlt : i < ops.size := (Array.getElem?_eq_some_iff.1 ho).1
  rw [listed_get hL hlt] at h0
  simp at h0; omega
 | m + 1, k, L, hk, hL => by
  have hkn : k < ops.size := by omega
  simp only [Region.lexFrom, Bool.and_eq_true]
  refine ⟨⟨?_, ?_⟩, ?_⟩
  ·rw [List.contains_iff_mem, mem_ready]
   have hok : ops[k]? = some ops[k] := Array.getElem?_eq_getElem hkn
   refine ⟨by rw [listed_get hL hkn]; simp, _, hok, fun e he hb => ?_⟩
   have hr := (h k hkn).1
   simp only [fastReady, hok] at hr
   have := Array.all_eq_true_iff_forall_mem.1 hr e he
   simp only [hb, Bool.not_true, Bool.false_or, decide_eq_true_eq] at this
   rw [listed_get hL (by omega)]; simpa using this
  ·have hok : ops[k]? = some ops[k] := Array.getElem?_eq_getElem hkn
   simp only [Region.free, hok, List.all_eq_true, List.mem_range]
   intro j hj
   by_cases hjk : j = k
   ·simp [hjk]
   ·by_cases hlt : j < k
    ·have := listed_get hL hj true
     simp only [hlt, decide_true] at this
     simp [this]
    ·have hp := (h j hj).2 k (by omega)
     have hoj : ops[j]? = some ops[j] := Array.getElem?_eq_getElem hj
     simp only [fastPair, hok, hoj] at hp
     simp only [hoj]
     rw [Bool.or_eq_true]
     exact .inr hp
  ·refine lexFrom_of_fast h m (k + 1) _ (by omega) ⟨by simp [hL.1], fun i hi => ?_⟩
   rw [Array.getElem?_setIfInBounds]
   by_cases hki : k = i
   ·subst hki; simp [hL.1, hi]
   ·rw [if_neg hki, hL.2 i hi]
    congr 1; simp; omega
theorem lexB_of_fast {ops : Array Oper} (h : fastB ops = true) : Region.lexB .any ops = true := by
 simp only [fastB, Bool.and_eq_true, List.all_eq_true, List.mem_range] at h
 simp only [Region.lexB, Bool.and_eq_true]
 refine ⟨h.1, lexFrom_of_fast (fun j hj => ⟨(h.2 j hj).1, fun k hk => (h.2 j hj).2 k hk⟩) _ 0 _ (by simp) ⟨by simp, fun i hi => ?_⟩⟩
 simp [hi]
/-- A world that is W and new blocks. -/
structure XW (W : World) where
 w : World
 e : Ext W w
theorem XW.some (W : World) : Nonempty (XW W) := ⟨⟨W, Ext.refl W⟩⟩
theorem XW.cell {W : World} (u : XW W) (b o : Nat) (h : b < W.heap.size) : u.w.cell? ⟨b, o, none⟩ = W.cell? ⟨b, o, none⟩ := u.e.cell (p := ⟨b, o, none⟩) h
theorem XW.from {W w : World} (u : XW W) (h : Ext w W) (b o : Nat) (hb : b < w.heap.size) : u.w.cell? ⟨b, o, none⟩ = w.cell? ⟨b, o, none⟩ := (h.trans u.e).cell (p := ⟨b, o, none⟩) hb
/-- A region that draws its order: one walk in the order of the text, each operation in whatever world is w and new blocks. -/
theorem wp_region_xw {P : Program} {id : Nat} {Q : Exit → Act → World → Prop} {a : Act} {w : World} {l : List Oper} (w₀ : World) (hm : P.follows .mixedOrders = true) (hB : fastB l.toArray = true) (he : Ext w₀ w)
  (h : Nonempty (XW w) → (∀ (u : XW w) b o, b < w.heap.size → u.w.cell? ⟨b, o, none⟩ = w.cell? ⟨b, o, none⟩) → (∀ (u : XW w) b o, b < w₀.heap.size → u.w.cell? ⟨b, o, none⟩ = w₀.cell? ⟨b, o, none⟩) →
   wpQuiet P l.toArray (fun w' => ∃ u : XW w, w' = u.w) (fun a' => ∀ w', Ext w w' → Q .normal a' w') l a) : (Code.region id l.toArray true).wp P Q a w := by
 refine wp_region_quiet (C := fun w' => ∃ u : XW w, w' = u.w) hm (lexB_of_fast hB) ⟨⟨{ w with drawn := w.drawn + 1 }, ⟨rfl, rfl, rfl, Nat.le_refl _, fun _ _ => rfl⟩⟩, rfl⟩ ?_
 have e : (fun a' => ∀ w', (∃ u : XW w, w' = u.w) → Q .normal a' w') = (fun a' => ∀ w', Ext w w' → Q .normal a' w') := by
  funext a'
  exact propext ⟨fun h w' he => h w' ⟨⟨w', he⟩, rfl⟩, fun h w' ⟨u, hu⟩ => by subst hu; exact h _ u.e⟩
 rw [e]
 simpa using h (XW.some w) (fun u => u.cell) (fun u => u.from he)
/-- A callee's contract, met in such a world. -/
theorem XW.back {W : World} (u : XW W) {w' : World} (h : Ext u.w w') : ∃ v : XW W, w' = v.w := ⟨⟨w', u.e.trans h⟩, rfl⟩
/-- The same for a region that draws nothing. -/
theorem wpList_of_quiet {P : Program} {ops : Array Oper} {C : World → Prop} {Q : Exit → Act → World → Prop} {Q' : Act → Prop} (hQ : ∀ a w, C w → Q' a → Q .normal a w) :
  ∀ (l : List Oper) (a : Act) (w : World), C w → wpQuiet P ops C Q' l a → wpList P ops Q l a w
 | [], a, w, hw, h => hQ a w hw h
 | o :: l, a, w, hw, h => by
  unfold wpQuiet at h
  unfold wpList
  split
  ·rename_i hc
   rw [if_pos hc] at h
   exact .inl (Oper.wp_of_quiet hw (fun a' w' hw' h' => wpList_of_quiet hQ l a' w' hw' h') h)
  ·rename_i hc
   rw [if_neg hc] at h
   exact wpList_of_quiet hQ l _ w hw h
theorem wp_region_xl {P : Program} {id : Nat} {Q : Exit → Act → World → Prop} {a : Act} {w : World} {l : List Oper} (w₀ : World) (he : Ext w₀ w)
  (h : Nonempty (XW w) → (∀ (u : XW w) b o, b < w.heap.size → u.w.cell? ⟨b, o, none⟩ = w.cell? ⟨b, o, none⟩) → (∀ (u : XW w) b o, b < w₀.heap.size → u.w.cell? ⟨b, o, none⟩ = w₀.cell? ⟨b, o, none⟩) →
   wpQuiet P l.toArray (fun w' => ∃ u : XW w, w' = u.w) (fun a' => ∀ w', Ext w w' → Q .normal a' w') l a) : (Code.region id l.toArray false).wp P Q a w :=
 wp_region_lit (wpList_of_quiet (C := fun w' => ∃ u : XW w, w' = u.w) (Q' := fun a' => ∀ w', Ext w w' → Q .normal a' w') (fun _ w' ⟨u, hu⟩ h => h w' (hu ▸ u.e)) l a w ⟨⟨w, Ext.refl w⟩, rfl⟩
  (h (XW.some w) (fun u => u.cell) (fun u => u.from he)))
/-! ### Guards that stay open -/
/-- A slot that was written under the guard b. -/
def gv (b : Bool) (v : Value) : Value := if b then v else undef
theorem gv_yes {b : Bool} {v : Value} (h : b = true) : gv b v = v := by rw [h]; rfl
section
variable {P : Program} {ops : Array Oper} {W : World} {Q : Act → Prop} {a : Act} {rest : List Oper} {d : Option Tmp} {op : Op} {ty : TypeId} {pos : String} {after : Array Edge} {gd : Option (Nat × Bool)}
/-- What follows, asked as of a 'move' of the value that is known: so that the frame is written out cheaply. -/
def Then (P : Program) (W : World) (d : Option Tmp) (v : Value) (a : Act) (K : Act → Prop) : Prop := Oper.quiet P ⟨d, .move (.const v), 0, "", #[], none⟩ a (fun w' => ∃ u : XW W, w' = u.w) K
theorem Then.out {v : Value} {K : Act → Prop} (h : Then P W d v a K) : K (a.put d v) := by
 obtain ⟨v', h1, h2⟩ := h
 have h3 := h1 W ⟨⟨W, Ext.refl W⟩, rfl⟩
 unfold Oper.quietAt at h3
 rw [BigFrame.run_move (.const v) rfl] at h3
 obtain ⟨_, rfl⟩ := h3
 exact h2
theorem q_sym {b : Bool} (hw : Region.wanted ⟨d, op, ty, pos, after, gd⟩ (yielded ops a.tmps) = b)
  (hg : ∃ v, (b = true → ∀ u : XW W, Oper.quietAt P ⟨d, op, ty, pos, after, gd⟩ a (fun w' => ∃ u : XW W, w' = u.w) u.w v) ∧
   (∀ K : Act → Prop, (∀ a, wpQuiet P ops (fun w' => ∃ u : XW W, w' = u.w) Q rest a → K a) → Then P W d (gv b v) a K)) :
  wpQuiet P ops (fun w' => ∃ u : XW W, w' = u.w) Q (⟨d, op, ty, pos, after, gd⟩ :: rest) a := by
 obtain ⟨v, h1, h2⟩ := hg
 have h3 := (h2 _ (fun _ h => h)).out
 unfold wpQuiet
 cases b
 ·rw [if_neg (by simp [hw])]; exact h3
 ·rw [if_pos hw]; exact ⟨v, fun w ⟨u, hu⟩ => by subst hu; exact h1 rfl u, h3⟩
theorem run_pick {o : Oper} {c x y : Operand} {w : World} {b : Bool} (ho : o.op = .pick c x y) (h1 : a.eval c = .bool b) : (execOp a.eval o).run P w = .ok (.value (if b then a.eval x else a.eval y)) w := by
 simp only [execOp, ho, h1]; cases b <;> rfl
theorem q_put {v : Value} (hw : Region.wanted ⟨d, op, ty, pos, after, gd⟩ (yielded ops a.tmps) = true) (hv : ∀ w, (execOp a.eval ⟨d, op, ty, pos, after, gd⟩).run P w = .ok (.value v) w)
  (hK : ∀ K : Act → Prop, (∀ a, wpQuiet P ops (fun w' => ∃ u : XW W, w' = u.w) Q rest a → K a) → Then P W d v a K) : wpQuiet P ops (fun w' => ∃ u : XW W, w' = u.w) Q (⟨d, op, ty, pos, after, gd⟩ :: rest) a := by
 unfold wpQuiet
 rw [if_pos hw]
 exact ⟨v, fun w _ => by unfold Oper.quietAt; rw [hv w]; exact ⟨rfl, rfl⟩, (hK _ (fun _ h => h)).out⟩
theorem q_and {c x y : Operand} {b z : Bool} (h1 : a.eval c = .bool b) (h2 : a.eval x = gv b (.bool z)) (h3 : a.eval y = .bool false)
  (hK : ∀ K : Act → Prop, (∀ a, wpQuiet P ops (fun w' => ∃ u : XW W, w' = u.w) Q rest a → K a) → Then P W d (.bool (b && z)) a K) :
  wpQuiet P ops (fun w' => ∃ u : XW W, w' = u.w) Q (⟨d, .pick c x y, ty, pos, after, none⟩ :: rest) a :=
 q_put rfl (fun w => by rw [run_pick rfl h1, h2, h3]; cases b <;> rfl) hK
theorem q_or {c x y : Operand} {b z : Bool} (h1 : a.eval c = .bool b) (h2 : a.eval x = .bool true) (h3 : a.eval y = gv (!b) (.bool z))
  (hK : ∀ K : Act → Prop, (∀ a, wpQuiet P ops (fun w' => ∃ u : XW W, w' = u.w) Q rest a → K a) → Then P W d (.bool (b || z)) a K) :
  wpQuiet P ops (fun w' => ∃ u : XW W, w' = u.w) Q (⟨d, .pick c x y, ty, pos, after, none⟩ :: rest) a :=
 q_put rfl (fun w => by rw [run_pick rfl h1, h2, h3]; cases b <;> rfl) hK
theorem q_and_g {c x y : Operand} {g b z : Bool} (hw : Region.wanted ⟨d, .pick c x y, ty, pos, after, gd⟩ (yielded ops a.tmps) = g) (h1 : a.eval c = gv g (.bool b)) (h2 : a.eval x = gv (g && b) (.bool z)) (h3 : a.eval y = .bool false)
  (hK : ∀ K : Act → Prop, (∀ a, wpQuiet P ops (fun w' => ∃ u : XW W, w' = u.w) Q rest a → K a) → Then P W d (gv g (.bool (b && z))) a K) :
  wpQuiet P ops (fun w' => ∃ u : XW W, w' = u.w) Q (⟨d, .pick c x y, ty, pos, after, gd⟩ :: rest) a := by
 refine q_sym hw ⟨.bool (b && z), fun hg u => ?_, hK⟩
 subst hg
 unfold Oper.quietAt
 rw [run_pick rfl h1, h2, h3]; cases b <;> exact ⟨rfl, rfl⟩
theorem q_or_g {c x y : Operand} {g b z : Bool} (hw : Region.wanted ⟨d, .pick c x y, ty, pos, after, gd⟩ (yielded ops a.tmps) = g) (h1 : a.eval c = gv g (.bool b)) (h2 : a.eval x = .bool true) (h3 : a.eval y = gv (g && !b) (.bool z))
  (hK : ∀ K : Act → Prop, (∀ a, wpQuiet P ops (fun w' => ∃ u : XW W, w' = u.w) Q rest a → K a) → Then P W d (gv g (.bool (b || z))) a K) :
  wpQuiet P ops (fun w' => ∃ u : XW W, w' = u.w) Q (⟨d, .pick c x y, ty, pos, after, gd⟩ :: rest) a := by
 refine q_sym hw ⟨.bool (b || z), fun hg u => ?_, hK⟩
 subst hg
 unfold Oper.quietAt
 rw [run_pick rfl h1, h2, h3]; cases b <;> exact ⟨rfl, rfl⟩
variable {o : Oper} {j t : Nat} {x g : Bool}
theorem wanted_pt (hg : o.guard = some (j, true)) (hd : (ops[j]?).bind (·.dst) = some t) (hv : a.tmps[t]? = some (.bool x)) : Region.wanted o (yielded ops a.tmps) = x := by
 simp only [Region.wanted, hg, yielded, hd, Option.bind_some, hv]; cases x <;> rfl
theorem wanted_pf (hg : o.guard = some (j, false)) (hd : (ops[j]?).bind (·.dst) = some t) (hv : a.tmps[t]? = some (.bool x)) : Region.wanted o (yielded ops a.tmps) = !x := by
 simp only [Region.wanted, hg, yielded, hd, Option.bind_some, hv]; cases x <;> rfl
theorem wanted_gt (hg : o.guard = some (j, true)) (hd : (ops[j]?).bind (·.dst) = some t) (hv : a.tmps[t]? = some (gv g (.bool x))) : Region.wanted o (yielded ops a.tmps) = (g && x) := by
 simp only [Region.wanted, hg, yielded, hd, Option.bind_some, hv]; cases g <;> cases x <;> rfl
theorem wanted_gf (hg : o.guard = some (j, false)) (hd : (ops[j]?).bind (·.dst) = some t) (hv : a.tmps[t]? = some (gv g (.bool x))) : Region.wanted o (yielded ops a.tmps) = (g && !x) := by
 simp only [Region.wanted, hg, yielded, hd, Option.bind_some, hv]; cases g <;> cases x <;> rfl
end
/-! ### Slices that read as lists -/
/-- The slice value '.slice A n _' reads in w as n elements of sz cells: element i's cell j is (f i)[j]. -/
def RowsAt (w : World) (A : Option Addr) (n sz : Nat) (f : Nat → List Value) : Prop :=
 0 < n → ∃ b off, A = some ⟨b, off, none⟩ ∧ b < w.heap.size ∧ ∀ i j v, i < n → (f i)[j]? = some v → w.cell? ⟨b, off + i * sz + j, none⟩ = some v
theorem RowsAt.ext {w w' : World} {A : Option Addr} {n sz : Nat} {f : Nat → List Value} (h : RowsAt w A n sz f) (e : Ext w w') : RowsAt w' A n sz f := fun hn => by
 obtain ⟨b, off, hA, hb, hc⟩ := h hn
 exact ⟨b, off, hA, Nat.lt_of_lt_of_le hb e.size, fun i j v hi hv => (e.cell (p := ⟨b, _, none⟩) hb).trans (hc i j v hi hv)⟩
theorem RowsAt.nil {w : World} {A : Option Addr} {sz : Nat} {f : Nat → List Value} : RowsAt w A 0 sz f := fun h => absurd h (by omega)
theorem RowsAt.take {w : World} {A : Option Addr} {n m sz : Nat} {f : Nat → List Value} (h : RowsAt w A n sz f) (hm : m ≤ n) : RowsAt w A m sz f := fun h0 => by
 obtain ⟨b, off, hA, hb, hc⟩ := h (by omega)
 exact ⟨b, off, hA, hb, fun i j v hi hv => hc i j v (by omega) hv⟩
theorem RowsAt.congr {w : World} {A : Option Addr} {n sz : Nat} {f g : Nat → List Value} (h : RowsAt w A n sz f) (hg : ∀ i, i < n → f i = g i) : RowsAt w A n sz g := fun h0 => by
 obtain ⟨b, off, hA, hb, hc⟩ := h h0
 exact ⟨b, off, hA, hb, fun i j v hi hv => hc i j v hi (by rw [hg i hi]; exact hv)⟩
/-! ### What a call hands back -/
theorem ret_bool {a b : Bool} (h : a = b) : Ending.returned (.bool a) = .returned (.bool b) := by rw [h]
theorem ret_int {k : IntKind} {a b : Int} (h : a = b) : Ending.returned (.int k a) = .returned (.int k b) := by rw [h]
end Go.Proofs.YtneiofnlmblglaaGreatDoor
namespace Go.Proofs.YtneiofnlmblglaaGreatDoor
/-! ### Names -/
def lowB (c : UInt8) : Bool := decide (97 ≤ c.toNat) && decide (c.toNat ≤ 122)
def digB (c : UInt8) : Bool := decide (48 ≤ c.toNat) && decide (c.toNat ≤ 57)
def nameB (c : UInt8) : Bool := lowB c || digB c || decide (c.toNat = 95)
def allName (s : ByteArray) : Bool := s.data.toList.all nameB
def isName (s : ByteArray) : Bool := decide (1 ≤ s.size) && decide (s.size ≤ 16) && lowB (s.data.toList.headD 0) && allName s
/-! ### Data -/
structure Yr where
 k : Int
 nm : ByteArray
 lg : Int
 db : Int
/-- nk kings kg 0 .., ny years yr 0 .. -/
structure Cal where
 nk : Nat
 kg : Nat → ByteArray
 ny : Nat
 yr : Nat → Yr
structure Dt where
 y : Int
 m : Int
 s : Bool
 d : Int
 deriving DecidableEq
structure Tr where
 d : Int
 more : Bool
 m : Int
 s : Bool
 nm : ByteArray
 af : Int
 kg : ByteArray
structure Sp where
 a : Int
 b : Int
 deriving DecidableEq
/-- A month of a calendar and the number of its first day. -/
structure It where
 y : Nat
 n : Int
 s : Bool
 first : Int
/-! ### Validity -/
def Yr.alike (x y : Yr) : Bool := decide (x.k = y.k) && decide (x.nm = y.nm)
def Cal.hadTo (c : Cal) (y : Yr) (i : Nat) : Bool := (List.range i).any fun j => (c.yr j).alike y
def Cal.prevK (c : Cal) : Nat → Int
 | 0 => 0
 | i + 1 => (c.yr i).k
def Yr.shapeOk (y : Yr) : Bool := decide (0 ≤ y.db ∧ y.db ≤ 12 ∧ 0 ≤ y.lg ∧ y.lg ≤ 8191 ∧ ¬ (y.db = 0 ∧ 4096 ≤ y.lg))
def Cal.yearOk (c : Cal) (i : Nat) : Bool :=
 decide (c.prevK i ≤ (c.yr i).k) && decide ((c.yr i).k < c.nk) && isName (c.yr i).nm && !c.hadTo (c.yr i) i && (c.yr i).shapeOk
def Cal.kingOk (c : Cal) (i : Nat) : Bool := isName (c.kg i) && (List.range i).all fun j => decide (c.kg j ≠ c.kg i)
def Cal.kingsOk (c : Cal) : Bool := decide (1 ≤ c.nk) && decide (c.nk ≤ 40) && (List.range c.nk).all c.kingOk
def Cal.valid (c : Cal) : Bool := c.kingsOk && decide (1 ≤ c.ny) && decide (c.ny ≤ 400) && (List.range c.ny).all c.yearOk
/-! ### Months and days -/
def bitOn (lg : Int) (b : Nat) : Bool := decide (lg / 2 ^ b % 2 = 1)
def mlen (lg : Int) (b : Nat) : Int := if bitOn lg b then 30 else 29
def Yr.len (y : Yr) (n : Int) (s : Bool) : Int := mlen y.lg (if s then 12 else n.toNat - 1)
/-- The months 1 to k of a year. -/
def Yr.moTo (y : Yr) : Nat → List (Int × Bool)
 | 0 => []
 | k + 1 => y.moTo k ++ (((k : Int) + 1, false) :: (if y.db = (k : Int) + 1 then [((k : Int) + 1, true)] else []))
def Yr.mos (y : Yr) : List (Int × Bool) := y.moTo 12
def Yr.lens (y : Yr) : List (Int × Bool) → Int
 | [] => 0
 | p :: l => y.len p.1 p.2 + y.lens l
def Yr.days (y : Yr) : Int := y.lens y.mos
def runs (i : Nat) (y : Yr) : Int → List (Int × Bool) → List It
 | _, [] => []
 | day, p :: l => ⟨i, p.1, p.2, day⟩ :: runs i y (day + y.len p.1 p.2) l
/-- The number of the first day of year i. -/
def Cal.dayAt (c : Cal) : Nat → Int
 | 0 => 1
 | i + 1 => c.dayAt i + (c.yr i).days
def Cal.itemsTo (c : Cal) : Nat → List It
 | 0 => []
 | i + 1 => c.itemsTo i ++ runs i (c.yr i) (c.dayAt i) (c.yr i).mos
def Cal.items (c : Cal) : List It := c.itemsTo c.ny
def Cal.all (c : Cal) : Int := c.dayAt c.ny - 1
def Cal.yrI (c : Cal) (y : Int) : Yr := c.yr y.toNat
/-- Is a date in the calendar? -/
def Cal.has (c : Cal) (d : Dt) : Bool :=
 decide (0 ≤ d.y ∧ d.y < c.ny) && decide (1 ≤ d.m ∧ d.m ≤ 12) && (!d.s || decide ((c.yrI d.y).db = d.m)) && decide (1 ≤ d.d ∧ d.d ≤ (c.yrI d.y).len d.m d.s)
def It.of (x : It) (d : Dt) : Bool := decide ((x.y : Int) = d.y) && decide (x.n = d.m) && (x.s == d.s)
/-- The number of a day, and of its month; k months lie before l. -/
def numFrom (d : Dt) : List It → Int → Int × Int
 | [], _ => (0, 0)
 | x :: l, k => if x.of d then (x.first + d.d - 1, k + 1) else numFrom d l (k + 1)
def Cal.num (c : Cal) (d : Dt) : Int × Int := numFrom d c.items 0
def It.len (c : Cal) (x : It) : Int := (c.yr x.y).len x.n x.s
/-- The date of a day. -/
def Cal.atFrom (c : Cal) (n : Int) : List It → Option Dt
 | [] => none
 | x :: l => if x.first ≤ n ∧ n - x.first < x.len c then some ⟨x.y, x.n, x.s, n - x.first + 1⟩ else c.atFrom n l
def Cal.at? (c : Cal) (n : Int) : Option Dt := c.atFrom n c.items
/-! ### Results -/
def Cal.chk (c : Cal) : Int := if c.valid then 0 else 70
def Cal.inE (c : Cal) (d : Dt) : Int := if c.valid then (if c.has d then 0 else 71) else 70
def Cal.in2E (c : Cal) (a b : Dt) : Int := if c.valid then (if c.has a && c.has b then 0 else 71) else 70
def Cal.numV (c : Cal) (d : Dt) : Int := if c.inE d = 0 then (c.num d).1 else 0
def Cal.schV (c : Cal) (a b : Dt) : Int := if c.in2E a b = 0 then 30 * ((c.num b).2 - (c.num a).2) + b.d - a.d else 0
/-! ### Traces -/
def emptyB (s : ByteArray) : Bool := s.data.toList.isEmpty
def Tr.ok (t : Tr) : Bool :=
 decide (0 ≤ t.d) && decide (t.d ≤ 30) && (!t.more || decide (0 < t.d)) && decide (0 ≤ t.m) && decide (t.m ≤ 12) && (!t.s || decide (0 < t.m)) && (emptyB t.nm || isName t.nm) && decide (0 ≤ t.af) && decide (t.af ≤ 3) &&
  (!emptyB t.nm || decide (t.af = 0)) && (emptyB t.kg || isName t.kg)
end Go.Proofs.YtneiofnlmblglaaGreatDoor
namespace Go.Proofs.YtneiofnlmblglaaGreatDoor
open Go Go.RowKit
def Yr.cells (y : Yr) : List Value := [.int .i64 y.k, .string y.nm, .int .i64 y.lg, .int .i64 y.db]
def Sp.cells (s : Sp) : List Value := [.int .i64 s.a, .int .i64 s.b]
def Tr.cells (t : Tr) : List Value := [.int .i64 t.d, .bool t.more, .int .i64 t.m, .bool t.s, .string t.nm, .int .i64 t.af, .string t.kg]
/-- The calendar c lies in w: its kings at A, its years at A'. -/
structure CalAt (w : World) (A : Option Addr) (ca : Nat) (A' : Option Addr) (cb : Nat) (c : Cal) : Prop where
 kings : RowsAt w A c.nk 1 (fun i => [.string (c.kg i)])
 years : RowsAt w A' c.ny 4 (fun i => (c.yr i).cells)
 nk_le : c.nk ≤ 9223372036854775807
 ny_le : c.ny ≤ 9223372036854775807
 nk_cap : c.nk ≤ ca
 ny_cap : c.ny ≤ cb
theorem CalAt.ext {w w' : World} {A A' : Option Addr} {ca cb : Nat} {c : Cal} (h : CalAt w A ca A' cb c) (e : Ext w w') : CalAt w' A ca A' cb c := ⟨h.kings.ext e, h.years.ext e, h.nk_le, h.ny_le, h.nk_cap, h.ny_cap⟩
theorem CalAt.alloc {w : World} {A A' : Option Addr} {ca cb : Nat} {c : Cal} (h : CalAt w A ca A' cb c) (o : Obj) : CalAt (w.alloc o) A ca A' cb c := h.ext ((Ext.refl w).alloc o)
theorem CalAt.year {w : World} {A A' : Option Addr} {ca cb : Nat} {c : Cal} (h : CalAt w A ca A' cb c) {i : Nat} (hi : i < c.ny) :
  ∃ b off, A' = some ⟨b, off, none⟩ ∧ b < w.heap.size ∧ w.cell? ⟨b, off + i * 4, none⟩ = some (.int .i64 (c.yr i).k) ∧ w.cell? ⟨b, off + i * 4 + 1, none⟩ = some (.string (c.yr i).nm) ∧
   w.cell? ⟨b, off + i * 4 + 2, none⟩ = some (.int .i64 (c.yr i).lg) ∧ w.cell? ⟨b, off + i * 4 + 3, none⟩ = some (.int .i64 (c.yr i).db) := by
 obtain ⟨b, off, hA, hb, hc⟩ := h.years (by omega)
 exact ⟨b, off, hA, hb, by simpa using hc i 0 _ hi rfl, hc i 1 _ hi rfl, hc i 2 _ hi rfl, hc i 3 _ hi rfl⟩
/-- The same at an index that is an int. -/
theorem CalAt.yearI {w : World} {A A' : Option Addr} {ca cb : Nat} {c : Cal} (h : CalAt w A ca A' cb c) {y : Int} (h0 : 0 ≤ y) (h1 : y < c.ny) :
  ∃ b off, A' = some ⟨b, off, none⟩ ∧ b < w.heap.size ∧ w.cell? ⟨b, off + y.toNat * 4, none⟩ = some (.int .i64 (c.yrI y).k) ∧ w.cell? ⟨b, off + y.toNat * 4 + 1, none⟩ = some (.string (c.yrI y).nm) ∧
   w.cell? ⟨b, off + y.toNat * 4 + 2, none⟩ = some (.int .i64 (c.yrI y).lg) ∧ w.cell? ⟨b, off + y.toNat * 4 + 3, none⟩ = some (.int .i64 (c.yrI y).db) := h.year (by omega)
end Go.Proofs.YtneiofnlmblglaaGreatDoor
set_option maxRecDepth 100000
namespace Go.Proofs.YtneiofnlmblglaaGreatDoor
open Go Go.ChangeShapes Go.WideShapes Go.ChangeAt Go.RowKit Go.Deep
theorem own_none : ownKnob Tryz.prog.godebug = none := by kernel_rfl
theorem kids_prog : Kids Tryz.prog (· < Tryz.prog.types.size) := kids_rows (by kernel_rfl) (by kernel_rfl)
theorem full_prog : ∀ t e, t < Tryz.prog.types.size → Tryz.prog.underlying t = some (.slice e) → 0 < Tryz.prog.cellsOf e := slices_full_of Tryz.prog (by kernel_rfl)
theorem cells_int : Tryz.prog.cellsOf 3 = 1 := by kernel_rfl
theorem cells_bool : Tryz.prog.cellsOf 4 = 1 := by kernel_rfl
theorem cells_string : Tryz.prog.cellsOf 9 = 1 := by kernel_rfl
theorem cells_date : Tryz.prog.cellsOf 27 = 4 := by kernel_rfl
section
variable {H : Type} {enc : TypeId × Value → H} {w W W' : World} {base : Nat} {spare : Nat → Bool} {held : Bool}
theorem sub_read {P : Program} {m k : Nat} {t : TypeId} {cs : List Value} {o : Nat} {xs : List (DataW H × List MemPlace)} {n i : Nat} (hxl : xs.length = k) (hi : i < k) (h : DataW.trod enc P w base spare held m t ((cs.drop o).take (P.cellsOf t)) = xs[i]?) (hn : P.cellsOf t = n) :
  ∃ y, DataW.trod enc P w base spare held m t ((cs.drop o).take n) = some y := by
 rw [hn] at h
 rw [List.getElem?_eq_getElem (by omega)] at h
 exact ⟨_, h⟩
theorem int_cell {m : Nat} {v : Value} (h : ∃ y, DataW.trod enc Tryz.prog w base spare held m 3 [v] = some y) : ∃ z : Int, v = .int .i64 z ∧ -9223372036854775808 ≤ z ∧ z ≤ 9223372036854775807 := by
 obtain ⟨y, h⟩ := h
 obtain ⟨z, h1, _, h2⟩ := DataW.trod_int Tryz.underlying3 h
 have e1 : IntKind.i64.min = -9223372036854775808 := rfl
 have e2 : IntKind.i64.max = 9223372036854775807 := rfl
 simp only [Lit.wf, Bool.and_eq_true, decide_eq_true_eq] at h2
 exact ⟨z, by simpa using h1, by omega, by omega⟩
theorem bool_cell {m : Nat} {v : Value} (h : ∃ y, DataW.trod enc Tryz.prog w base spare held m 4 [v] = some y) : ∃ z : Bool, v = .bool z := by
 obtain ⟨y, h⟩ := h
 obtain ⟨z, h1, _⟩ := DataW.trod_bool Tryz.underlying4 h
 exact ⟨z, by simpa using h1⟩
theorem string_cell {m : Nat} {v : Value} (h : ∃ y, DataW.trod enc Tryz.prog w base spare held m 9 [v] = some y) : ∃ z : ByteArray, v = .string z ∧ z.size ≤ maxLen := by
 obtain ⟨y, h⟩ := h
 obtain ⟨z, h1, _, h2⟩ := DataW.trod_string Tryz.underlying9 h
 exact ⟨z, by simpa using h1, h2⟩
theorem date_cells {n : Nat} {cs : List Value} {x : DataW H × List MemPlace} (h : DataW.trod enc Tryz.prog w base spare held n 27 cs = some x) : ∃ d : Dt, cs = [.int .i64 d.y, .int .i64 d.m, .bool d.s, .int .i64 d.d] := by
 obtain ⟨xs, m, _, _, hlen, hxl, hf⟩ := DataW.trod_struct Tryz.underlying27 h
 rw [cells_date] at hlen
 match cs, hlen with
 | [a, b, c, d], _ =>
  obtain ⟨z0, rfl, _⟩ := int_cell (sub_read hxl (by decide) (hf 0 _ rfl) cells_int)
  obtain ⟨z1, rfl, _⟩ := int_cell (sub_read hxl (by decide) (hf 1 _ rfl) cells_int)
  obtain ⟨z2, rfl⟩ := bool_cell (sub_read hxl (by decide) (hf 2 _ rfl) cells_bool)
  obtain ⟨z3, rfl, _⟩ := int_cell (sub_read hxl (by decide) (hf 3 _ rfl) cells_int)
  exact ⟨⟨z0, z1, z2, z3⟩, rfl⟩
/-- A slice whose elements are each read as some α. -/
theorem slice_rows {P : Program} {α : Type} {t e : TypeId} {sz m : Nat} {v : Value} {f : α → List Value} {p : α → Prop} (d0 : α) (ht : P.underlying t = some (.slice e)) (hC : P.cellsOf e = sz) (hsz : 0 < sz) (hl : ∀ y, (f y).length = sz)
  (hone : ∀ n cs x, DataW.trod enc P w base spare held n e cs = some x → ∃ y, cs = f y ∧ p y) (h : ∃ y, DataW.trod enc P w base spare held m t [v] = some y) :
  ∃ (A : Option Addr) (n cap : Nat) (g : Nat → α), v = .slice A n cap ∧ RowsAt w A n sz (fun i => f (g i)) ∧ n ≤ cap ∧ cap ≤ maxLen ∧ ∀ i, i < n → p (g i) := by
 obtain ⟨x, h⟩ := h
 rcases open_slice ht h with ⟨hcs, _⟩ | ⟨a, len, cap, k, n, D, Pl, hcs, hb, hlc, hcm, hk, hx, hi⟩
 ·exact ⟨none, 0, 0, fun _ => d0, by simpa using hcs, RowsAt.nil, Nat.le_refl _, Nat.zero_le _, fun i hi => absurd hi (by omega)⟩
 ·have hlk : len ≤ k := by rw [hk]; split <;> omega
  have each : ∀ i, ∃ y : α, i < len → (p y ∧ ∀ j u, (f y)[j]? = some u → w.cell? (a.add (i * sz + j)) = some u) := fun i => by
   by_cases hil : i < len
   ·obtain ⟨cs', hc, htr⟩ := hi i (by omega)
    rw [hC] at hc
    obtain ⟨y, rfl, hp⟩ := hone _ _ _ htr
    obtain ⟨_, _, hat⟩ := World.cells?_some hc
    refine ⟨y, fun _ => ⟨hp, fun j u hu => ?_⟩⟩
    have hj : j < sz := by have := (List.getElem?_eq_some_iff.1 hu).1; rw [hl] at this; exact this
    rw [← Go.Deep.add_add, hat j hj, hu]
   ·exact ⟨d0, fun h => absurd h hil⟩
  obtain ⟨g, hg⟩ := Classical.axiomOfChoice each
  refine ⟨some a, len, cap, g, by simpa using hcs, fun hn => ?_, hlc, hcm, fun i hi => (hg i hi).1⟩
  obtain ⟨b, off, spot⟩ := a
  have h00 : ((f (g 0))[0]?).isSome := by rw [List.getElem?_eq_getElem (by rw [hl]; exact hsz)]; rfl
  obtain ⟨u, hu⟩ := Option.isSome_iff_exists.1 h00
  have hc0 := (hg 0 hn).2 0 u hu
  have hspot : spot = none := by simpa [Addr.add] using World.cell?_spot hc0
  subst hspot
  have hc0' : w.cell? ⟨b, off, none⟩ = some u := by simpa [add_plain] using hc0
  refine ⟨b, off, rfl, ?_, fun i j v hi hv => ?_⟩
  ·rcases Nat.lt_or_ge b w.heap.size with h1 | h1
   ·exact h1
   ·simp [World.cell?, Array.getElem?_eq_none h1] at hc0'
  ·have := (hg i hi).2 j v hv
   rw [add_plain, ← Nat.add_assoc] at this
   exact this
/-! ### The row's last step -/
theorem trodAll_ext (hx : Ext W W') : ∀ {ts : List TypeId} {vs : List Value} {ds : List (DataW H)} {ps : List MemPlace}, DataW.TrodAll enc Tryz.prog W base spare held ts vs ds ps → (∀ p ∈ ps, p.block < W.heap.size) → DataW.TrodAll enc Tryz.prog W' base spare held ts vs ds ps
 | [], [], [], _, h, _ => h
 | _ :: _, _ :: _, _ :: _, _, ⟨p, q, ⟨n, h1⟩, h2, e⟩, hs => ⟨p, q, ⟨n, DataW.trod_carry _ _ _ _ h1 (fun x hx' => Below.same hx (hs x (by rw [e]; exact List.mem_append_left _ hx')))⟩, trodAll_ext hx h2 (fun x hx' => hs x (by rw [e]; exact List.mem_append_right _ hx')), e⟩
/-- A law has returned true, and the world is the old one and new blocks. -/
theorem law_post {fn : Func} {s : ChangeSpec} {args : Array Value} {ds : List (DataW H)} {p : List MemPlace} (hp : ∀ t ∈ fn.params.toList, t < Tryz.prog.types.size) (hr : fn.resultTypes = #[4]) (hvars : s.vars = [])
  (hfn : (s.fn H ds).results = [.lit (.bool true)]) (hfa : (s.fn H ds).args = ds) (hfv : (s.fn H ds).vars = [])
  (hA : DataW.TrodAll enc Tryz.prog W 0 (fun _ => true) true fn.params.toList args.toList ds p)
  (hW : DataW.Whole enc Tryz.prog fn.params.toList s.vars false W args.toList ds [] p) (hx : Ext W W') : s.post enc Tryz.prog fn false true false false W args (.bool true) W' := by
 have hlt : ∀ x ∈ p, x.block < W.heap.size := fun x hx => hW.lt x hx
 have hold : ∀ x ∈ p, (fun b => decide (b < W.heap.size)) x.block = true := fun x hx => by simpa using hlt x hx
 have e0 : ds ++ ([] : List (DataW H)) = ds := List.append_nil _
 have hargs : ∀ sp : Nat → Bool, (∀ x ∈ p, sp x.block = true) → DataW.TrodAll enc Tryz.prog W' 0 sp true fn.params.toList args.toList (s.fn H (ds ++ [])).args p := fun sp hsp => by
  rw [e0, hfa]
  exact DataW.TrodAll.respare kids_prog full_prog hp (trodAll_ext hx hA hlt) hsp
 have hvs : ∀ sp : Nat → Bool, DataW.TrodVars enc Tryz.prog W' sp s.vars (s.fn H (ds ++ [])).vars [] := fun sp => by
  rw [e0, hfv, hvars]; rfl
 have hres : ∀ (b : Nat) (sp : Nat → Bool) (hd : Bool), DataW.TrodAll enc Tryz.prog W' b sp hd fn.resultTypes.toList ((Value.bool true).resultList fn.resultTypes.size) (s.fn H (ds ++ [])).results [] := fun b sp hd => by
  rw [e0, hfn, hr]
  exact trodAll_cons_mk (shut_bool Tryz.underlying4 _) trodAll_mk0
 refine ⟨ds, [], p, [], p, [], hW, hres _ _ _, hargs _ hold, hvs _, World.keptBut_mono (fun x hx' => ⟨hx', .inr (.inl hx')⟩) ((Ext.below hx).frame (· ∈ p)), fun _ => ?_⟩
 ·obtain ⟨_, _, _, _, _, hz, hn⟩ := hW
  refine ⟨ok_one hr rfl (okWide_bool_mk Tryz.underlying4 _), _, _, ([] ++ p) ++ [], ⟨[] ++ p, [], trodAll_append (hargs _ (fun _ _ => rfl)) (hres _ _ _), hvs _, rfl, ?_, ?_⟩, ?_⟩
  ·intro b off hp
   have hin : MemPlace.cell b off ∈ p := by simpa using hp
   rw [Below.frozen hx (hlt _ hin)]
   exact hz b off hin
  ·intro ha; cases ha
  ·intro x hp _
   simpa using hp
end
end Go.Proofs.YtneiofnlmblglaaGreatDoor
set_option maxRecDepth 100000
namespace Go.Proofs.YtneiofnlmblglaaGreatDoor
open Go Go.ChangeShapes Go.WideShapes Go.ChangeAt Go.RowKit Go.Deep
section
variable {H : Type} {enc : TypeId × Value → H} {w : World} {base : Nat} {spare : Nat → Bool} {held : Bool} {r : Reach} {b0 : Nat} {v : Value} {d : DataW H} {p : List MemPlace}
theorem int_open (hv : Value.okWide Tryz.prog w r b0 3 v) (h : DataW.Trod enc Tryz.prog w base spare held 3 v d p) : ∃ z : Int, v = .int .i64 z ∧ -9223372036854775808 ≤ z ∧ z ≤ 9223372036854775807 := by
 obtain ⟨z, rfl⟩ := okWide_int Tryz.underlying3 hv
 obtain ⟨n, h⟩ := h
 obtain ⟨z', e, h1⟩ := int_cell (v := .int .i64 z) ⟨_, h⟩
 cases e
 exact ⟨z, rfl, h1⟩
end
end Go.Proofs.YtneiofnlmblglaaGreatDoor
set_option maxRecDepth 100000
namespace Go.Proofs.YtneiofnlmblglaaGreatDoor
open Go Go.ChangeShapes Go.WideShapes Go.ChangeAt Go.RowKit Go.Deep
section
variable {H : Type} {enc : TypeId × Value → H} {w : World} {base : Nat} {spare : Nat → Bool} {held : Bool} {r : Reach} {b0 : Nat} {v : Value} {d : DataW H} {p : List MemPlace}
theorem sized_arg {P : Program} {ts : List TypeId} {ds : List (DataW H)} {j : Nat} {t : TypeId} (h : (DataW.weightsEach P ts ds).all (· ≤ reachBytes) = true) (ht : ts[j]? = some t) (hd : ds[j]? = some d) : ∀ n ∈ d.weights P t, n ≤ reachBytes := fun n hn => by
 have := List.all_eq_true.1 h _ (DataW.weights_mem_each ht hd n hn)
 simpa using this
theorem sub_at {P : Program} {m : Nat} {t : TypeId} {cs : List Value} {o : Nat} {xs : List (DataW H × List MemPlace)} {n i : Nat} (hi : i < xs.length) (h : DataW.trod enc P w base spare held m t ((cs.drop o).take (P.cellsOf t)) = xs[i]?) (hn : P.cellsOf t = n) :
  DataW.trod enc P w base spare held m t ((cs.drop o).take n) = some xs[i] := by
 rw [hn] at h
 rw [h, List.getElem?_eq_getElem hi]
theorem reach_eq : reachBytes = 140737488351232 := rfl
end
end Go.Proofs.YtneiofnlmblglaaGreatDoor
namespace Go.Proofs.YtneiofnlmblglaaGreatDoor
open Go Go.RowKit
theorem mixed : Tryz.prog.follows .mixedOrders = true := by kernel_rfl
theorem take_snoc (s : ByteArray) (k : Nat) (h : k < s.size) : s.data.toList.take (k + 1) = s.data.toList.take k ++ [s[k]] := by
 rw [List.take_succ_eq_append_getElem (by simpa using h)]; rfl
/-- The first k bytes may stand in a name. -/
def NameTo (s : ByteArray) (k : Nat) : Prop := (s.data.toList.take k).all nameB = true
theorem nameTo_snoc (s : ByteArray) (k : Nat) (h : k < s.size) (hp : NameTo s k) (hc : nameB s[k] = true) : NameTo s (k + 1) := by
 unfold NameTo at *
 rw [take_snoc s k h, List.all_append, hp]; simp [hc]
theorem nameTo_all (s : ByteArray) (k : Nat) (h : s.size ≤ k) (hp : NameTo s k) : allName s = true := by
 unfold NameTo at hp
 rw [List.take_of_length_le (by simp; omega)] at hp
 exact hp
theorem allName_not (s : ByteArray) (k : Nat) (h : k < s.size) (hc : nameB s[k] = false) : allName s = false := by
 unfold allName
 rw [List.all_eq_false]
 exact ⟨s[k], by show s.data[k] ∈ _; simp, by simp [hc]⟩
theorem nameB_yes {c : UInt8} (h : c.toNat = 95 ∨ (97 ≤ c.toNat ∧ c.toNat ≤ 122) ∨ (48 ≤ c.toNat ∧ c.toNat ≤ 57)) : nameB c = true := by
 simp only [nameB, lowB, digB, Bool.or_eq_true, Bool.and_eq_true, decide_eq_true_eq]; omega
theorem nameB_no {c : UInt8} (h : ¬ (c.toNat = 95 ∨ (97 ≤ c.toNat ∧ c.toNat ≤ 122) ∨ (48 ≤ c.toNat ∧ c.toNat ≤ 57))) : nameB c = false := by
 rw [Bool.eq_false_iff]
 simp only [nameB, lowB, digB, ne_eq, Bool.or_eq_true, Bool.and_eq_true, decide_eq_true_eq]; omega
theorem low_yes {c : UInt8} (h1 : 97 ≤ c.toNat) (h2 : c.toNat ≤ 122) : lowB c = true := by simp [lowB, h1, h2]
theorem low_no {c : UInt8} (h : ¬ (97 ≤ c.toNat ∧ c.toNat ≤ 122)) : lowB c = false := by
 rw [Bool.eq_false_iff]; simp only [lowB, ne_eq, Bool.and_eq_true, decide_eq_true_eq]; exact h
theorem isName_eq (s : ByteArray) (h1 : 1 ≤ s.size) (h2 : s.size ≤ 16) : isName s = (lowB (s[0]'h1) && allName s) := by
 have h0 : s.data.toList.headD 0 = s[0]'h1 := by
  rw [List.headD_eq_head?_getD, List.head?_eq_getElem?, List.getElem?_eq_getElem (by simp; omega)]; rfl
 rw [isName, h0, decide_eq_true h1, decide_eq_true h2]; rfl
theorem isName_no (s : ByteArray) (h : s.size < 1 ∨ 16 < s.size) : isName s = false := by
 rw [isName]
 rcases h with h | h
 ·rw [decide_eq_false (by omega : ¬ 1 ≤ s.size)]; rfl
 ·rw [decide_eq_false (by omega : ¬ s.size ≤ 16)]; simp
set_option maxHeartbeats 1000000 in
theorem isName_any (s : ByteArray) (w : World) :
  Calls Tryz.prog 87 #[.string s] w fun e w' => e = .returned (.bool (isName s)) ∧ w = w' := by
 by_cases h0 : s.size < 1
 ·rw [isName_no s (.inl h0)]
  have z0 : ((s.size : Int) == 0) = true := beq_iff_eq.2 (by omega)
  go_enter Tryz.func87, Tryz.ntmps87
  go_wp2
  go_ret
  exact ⟨rfl, rfl⟩
 by_cases h1 : 16 < s.size
 ·rw [isName_no s (.inr h1)]
  have z0 : ((s.size : Int) == 0) = false := beq_eq_false_iff_ne.2 (by omega)
  go_enter Tryz.func87, Tryz.ntmps87
  go_wp2
  go_ret
  exact ⟨rfl, rfl⟩
 have g1 : 1 ≤ s.size := by omega
 have g2 : s.size ≤ 16 := by omega
 rw [isName_eq s g1 g2]
 have z0 : ((s.size : Int) == 0) = false := beq_eq_false_iff_ne.2 (by omega)
 clear h0 h1
 by_cases hb : 97 ≤ s[0].toNat ∧ s[0].toNat ≤ 122
 ·obtain ⟨hb1, hb2⟩ := hb
  rw [low_yes hb1 hb2]
  go_enter Tryz.func87, Tryz.ntmps87
  go_wp2
  go_loop [25] (fun i => ∃ k : Nat, k ≤ s.size ∧ i = .int .i64 k ∧ NameTo s k) (fun i => s.size - (intOf i).toNat)
  case atStart => exact ⟨0, Nat.zero_le _, rfl, rfl⟩
  case round =>
   obtain ⟨k, hk, rfl, hp⟩ := hrel
   by_cases hlt : k < s.size
   ·have hcl : s[k].toNat = 95 ∨ (97 ≤ s[k].toNat ∧ s[k].toNat ≤ 122) ∨ (48 ≤ s[k].toNat ∧ s[k].toNat ≤ 57) ∨ s[k].toNat < 48 ∨ (57 < s[k].toNat ∧ s[k].toNat < 97 ∧ s[k].toNat ≠ 95) ∨ 122 < s[k].toNat := by omega
    rcases hcl with h | h | h | h | h | h
    ·have hn := nameTo_snoc s k hlt hp (nameB_yes (.inl h))
     have b1 : ((s[k].toNat : Int) != 95) = false := bne_eq_false_iff_eq.2 (by omega)
     have h1 : 95 ≤ s[k].toNat := by omega
     have h2 : s[k].toNat ≤ 95 := by omega
     clear h
     go_wp2
     exact ⟨⟨k + 1, by omega, by go_num, hn⟩, by simp [intOf]; omega⟩
    ·have hn := nameTo_snoc s k hlt hp (nameB_yes (by omega))
     have b1 : ((s[k].toNat : Int) != 95) = true := bne_iff_ne.2 (by omega)
     obtain ⟨h1, h2⟩ := h
     go_wp2
     exact ⟨⟨k + 1, by omega, by go_num, hn⟩, by simp [intOf]; omega⟩
    ·have hn := nameTo_snoc s k hlt hp (nameB_yes (by omega))
     have b1 : ((s[k].toNat : Int) != 95) = true := bne_iff_ne.2 (by omega)
     obtain ⟨h1, h2⟩ := h
     go_wp2
     exact ⟨⟨k + 1, by omega, by go_num, hn⟩, by simp [intOf]; omega⟩
    ·have hn : Hid (allName s = false) := allName_not s k hlt (nameB_no (by omega))
     have b1 : ((s[k].toNat : Int) != 95) = true := bne_iff_ne.2 (by omega)
     go_wp2
     all_goals first
      | (go_ret; exact ⟨ret_bool hn.out.symm, rfl⟩)
      | (exfalso; simp only [Bool.not_eq_false', decide_eq_true_eq] at *; omega)
    ·have hn : Hid (allName s = false) := allName_not s k hlt (nameB_no (by omega))
     obtain ⟨h1, h2, h3⟩ := h
     have b1 : ((s[k].toNat : Int) != 95) = true := bne_iff_ne.2 (by omega)
     go_wp2
     all_goals first
      | (go_ret; exact ⟨ret_bool hn.out.symm, rfl⟩)
      | (exfalso; simp only [Bool.not_eq_false', decide_eq_true_eq] at *; omega)
    ·have hn : Hid (allName s = false) := allName_not s k hlt (nameB_no (by omega))
     have b1 : ((s[k].toNat : Int) != 95) = true := bne_iff_ne.2 (by omega)
     go_wp2
     all_goals first
      | (go_ret; exact ⟨ret_bool hn.out.symm, rfl⟩)
      | (exfalso; simp only [Bool.not_eq_false', decide_eq_true_eq] at *; omega)
   ·go_wp2
    go_ret
    exact ⟨ret_bool (nameTo_all s k (by omega) hp).symm, rfl⟩
 ·rw [low_no hb]
  by_cases hb1 : 97 ≤ s[0].toNat
  all_goals
   go_enter Tryz.func87, Tryz.ntmps87
   go_wp2
   go_ret
   exact ⟨rfl, rfl⟩
set_option maxHeartbeats 1000000 in
theorem isNameR_any (s : ByteArray) (w : World) :
  Calls Tryz.prog 69 #[.string s] w fun e w' => e = .returned (.bool (isName s)) ∧ w = w' := by
 by_cases h0 : s.size < 1
 ·rw [isName_no s (.inl h0)]
  have z0 : ((s.size : Int) == 0) = true := beq_iff_eq.2 (by omega)
  go_enter Tryz.func69, Tryz.ntmps69
  go_wp2
  go_ret
  exact ⟨rfl, rfl⟩
 by_cases h1 : 16 < s.size
 ·rw [isName_no s (.inr h1)]
  have z0 : ((s.size : Int) == 0) = false := beq_eq_false_iff_ne.2 (by omega)
  go_enter Tryz.func69, Tryz.ntmps69
  go_wp2
  go_ret
  exact ⟨rfl, rfl⟩
 have g1 : 1 ≤ s.size := by omega
 have g2 : s.size ≤ 16 := by omega
 rw [isName_eq s g1 g2]
 have z0 : ((s.size : Int) == 0) = false := beq_eq_false_iff_ne.2 (by omega)
 clear h0 h1
 by_cases hb : 97 ≤ s[0].toNat ∧ s[0].toNat ≤ 122
 ·obtain ⟨hb1, hb2⟩ := hb
  rw [low_yes hb1 hb2]
  go_enter Tryz.func69, Tryz.ntmps69
  go_wp2
  go_loop [3] (fun i => ∃ k : Nat, k ≤ s.size ∧ i = .int .i64 k ∧ NameTo s k) (fun i => s.size - (intOf i).toNat)
  case atStart => exact ⟨0, Nat.zero_le _, rfl, rfl⟩
  case round =>
   obtain ⟨k, hk, rfl, hp⟩ := hrel
   by_cases hlt : k < s.size
   ·have hcl : s[k].toNat = 95 ∨ (97 ≤ s[k].toNat ∧ s[k].toNat ≤ 122) ∨ (48 ≤ s[k].toNat ∧ s[k].toNat ≤ 57) ∨ s[k].toNat < 48 ∨ (57 < s[k].toNat ∧ s[k].toNat < 97 ∧ s[k].toNat ≠ 95) ∨ 122 < s[k].toNat := by omega
    rcases hcl with h | h | h | h | h | h
    ·have hn := nameTo_snoc s k hlt hp (nameB_yes (.inl h))
     have b1 : ((s[k].toNat : Int) != 95) = false := bne_eq_false_iff_eq.2 (by omega)
     have h1 : 95 ≤ s[k].toNat := by omega
     have h2 : s[k].toNat ≤ 95 := by omega
     clear h
     go_wp2
     exact ⟨⟨k + 1, by omega, by go_num, hn⟩, by simp [intOf]; omega⟩
    ·have hn := nameTo_snoc s k hlt hp (nameB_yes (by omega))
     have b1 : ((s[k].toNat : Int) != 95) = true := bne_iff_ne.2 (by omega)
     obtain ⟨h1, h2⟩ := h
     go_wp2
     exact ⟨⟨k + 1, by omega, by go_num, hn⟩, by simp [intOf]; omega⟩
    ·have hn := nameTo_snoc s k hlt hp (nameB_yes (by omega))
     have b1 : ((s[k].toNat : Int) != 95) = true := bne_iff_ne.2 (by omega)
     obtain ⟨h1, h2⟩ := h
     go_wp2
     exact ⟨⟨k + 1, by omega, by go_num, hn⟩, by simp [intOf]; omega⟩
    ·have hn : Hid (allName s = false) := allName_not s k hlt (nameB_no (by omega))
     have b1 : ((s[k].toNat : Int) != 95) = true := bne_iff_ne.2 (by omega)
     go_wp2
     all_goals first
      | (go_ret; exact ⟨ret_bool hn.out.symm, rfl⟩)
      | (exfalso; simp only [Bool.not_eq_false', decide_eq_true_eq] at *; omega)
    ·have hn : Hid (allName s = false) := allName_not s k hlt (nameB_no (by omega))
     obtain ⟨h1, h2, h3⟩ := h
     have b1 : ((s[k].toNat : Int) != 95) = true := bne_iff_ne.2 (by omega)
     go_wp2
     all_goals first
      | (go_ret; exact ⟨ret_bool hn.out.symm, rfl⟩)
      | (exfalso; simp only [Bool.not_eq_false', decide_eq_true_eq] at *; omega)
    ·have hn : Hid (allName s = false) := allName_not s k hlt (nameB_no (by omega))
     have b1 : ((s[k].toNat : Int) != 95) = true := bne_iff_ne.2 (by omega)
     go_wp2
     all_goals first
      | (go_ret; exact ⟨ret_bool hn.out.symm, rfl⟩)
      | (exfalso; simp only [Bool.not_eq_false', decide_eq_true_eq] at *; omega)
   ·go_wp2
    go_ret
    exact ⟨ret_bool (nameTo_all s k (by omega) hp).symm, rfl⟩
 ·rw [low_no hb]
  by_cases hb1 : 97 ≤ s[0].toNat
  all_goals
   go_enter Tryz.func69, Tryz.ntmps69
   go_wp2
   go_ret
   exact ⟨rfl, rfl⟩
end Go.Proofs.YtneiofnlmblglaaGreatDoor
namespace Go.Proofs.YtneiofnlmblglaaGreatDoor
open Go Go.RowKit
theorem and_one (n : Int) : bits .and .i64 n 1 = n % 2 := by
 have h1 : (BitVec.ofInt 64 1).toNat = 2 ^ 1 - 1 := by decide
 have key : (BitVec.ofInt 64 n &&& BitVec.ofInt 64 1).toNat = (n % ((2 ^ 64 : Nat) : Int)).toNat % 2 ^ 1 := by
  rw [BitVec.toNat_and, BitVec.toNat_ofInt, h1, Nat.and_two_pow_sub_one_eq_mod]
 show IntKind.i64.wrap ((BitVec.ofInt 64 n &&& BitVec.ofInt 64 1).toNat : Nat) = n % 2
 rw [key, IntKind.wrap_i64]
 omega
theorem mlen_yes {lg : Int} {b : Nat} (h : (bits .and .i64 (lg / 2 ^ b) 1 == 1) = true) : mlen lg b = 30 := by
 rw [and_one] at h; simp only [mlen, bitOn]; simp at h; simp [h]
theorem mlen_no {lg : Int} {b : Nat} (h : (bits .and .i64 (lg / 2 ^ b) 1 == 1) = false) : mlen lg b = 29 := by
 rw [and_one] at h; simp only [mlen, bitOn]; simp at h; simp [h]
theorem mlen_12 (lg : Int) (h : (bits .and .i64 (lg / 4096) 1 == 1) = true) : mlen lg 12 = 30 := mlen_yes (b := 12) h
theorem mlen_12n (lg : Int) (h : (bits .and .i64 (lg / 4096) 1 == 1) = false) : mlen lg 12 = 29 := mlen_no (b := 12) h
set_option maxHeartbeats 400000 in
theorem length_any (y : Yr) (n : Int) (s : Bool) (w : World) (_h1 : 1 ≤ n) (_h2 : n ≤ 12) (_hl : 0 ≤ y.lg) (_hl' : y.lg ≤ 8191) :
  Calls Tryz.prog 139 #[.agg #[.int .i64 y.k, .string y.nm, .int .i64 y.lg, .int .i64 y.db], .int .i64 n, .bool s] w fun e w' =>
   e = .returned (.int .i64 (y.len n s)) ∧ Ext w w' := by
 cases s
 ·have H : Hid (y.len n false = mlen y.lg (n.toNat - 1)) := rfl
  generalize y.len n false = r at *
  go_enter Tryz.func139, Tryz.ntmps139
  go_wp2
  all_goals
   go_ret
   refine ⟨ret_int ?_, (Ext.refl w).alloc _⟩
   rw [H.out]
   first | exact (mlen_yes ‹_›).symm | exact (mlen_no ‹_›).symm
 ·have H : Hid (y.len n true = mlen y.lg 12) := rfl
  generalize y.len n true = r at *
  go_enter Tryz.func139, Tryz.ntmps139
  go_wp2
  all_goals
   go_ret
   refine ⟨ret_int ?_, (Ext.refl w).alloc _⟩
   rw [H.out]
   first | exact (mlen_12 _ ‹_›).symm | exact (mlen_12n _ ‹_›).symm
set_option maxHeartbeats 400000 in
theorem monthOf_any (d : Dt) (w : World) :
  Calls Tryz.prog 128 #[.agg #[.int .i64 d.y, .int .i64 d.m, .bool d.s, .int .i64 d.d]] w fun e w' => e = .returned (.agg #[.int .i64 d.y, .int .i64 d.m, .bool d.s]) ∧ Ext w w' := by
 go_enter Tryz.func128, Tryz.ntmps128
 go_wp2
 refine bodyPost_ret (v := .agg #[.int .i64 d.y, .int .i64 d.m, .bool d.s]) (by simp [results, Tryz.results128, go_sem]) rfl ⟨rfl, (by repeat (first | exact Ext.refl _ | (refine Ext.alloc ?_ _) | (refine Ext.trans ?_ (by assumption))))⟩
theorem same_eq (a b : ByteArray) : decide (a = b) = (a.toList == b.toList) := by
 rw [Go.ByteArray.toList_eq, Go.ByteArray.toList_eq, Bool.eq_iff_iff]
 simp only [decide_eq_true_eq, beq_iff_eq]
 exact ⟨fun h => by rw [h], fun h => by cases a; cases b; simp at h; simp [h]⟩
end Go.Proofs.YtneiofnlmblglaaGreatDoor
namespace Go.Proofs.YtneiofnlmblglaaGreatDoor
open Go Go.RowKit
section
variable {P : Program} {ops : Array Oper} {md : Region.Mode} {C : World → Prop}
/-! ### A head that is quiet in a class of worlds, and a tail in its order -/
end
theorem XW.drawn (w : World) : ∃ u : XW w, { w with drawn := w.drawn + 1 } = u.w := ⟨⟨{ w with drawn := w.drawn + 1 }, ⟨rfl, rfl, rfl, Nat.le_refl _, fun _ _ => rfl⟩⟩, rfl⟩
/-! ### Within a round -/
def noDefer (o : Oper) : Bool := match o.op with | .defer _ => false | _ => true
section
variable {P : Program} {ops : Array Oper} {md : Region.Mode} {C : World → Prop} {l n : Nat}
theorem wpIn_of_quiet {o : Oper} {a : Act} {K : Act → Prop} {K' : Act → World → Prop} {Q' : Exit → Act → World → Prop} {w : World} (hnd : noDefer o = true) (hw : C w) (h : ∀ a w', C w' → K a → K' a w') (hh : o.quiet P a C K) :
  o.wpIn (Fence.wide.inRound l) n P a w K' Q' := by
 obtain ⟨v, h1, h2⟩ := hh
 have h3 := h1 w hw
 refine ⟨fun _ _ => trivial, ?_⟩
 rw [Fence.inRound_round, Oper.semAt_some l _ _ (fun c hc => by simp [noDefer, hc] at hnd)]
 unfold Oper.quietAt at h3
 generalize (execOp a.eval o).run P w = r at *
 cases r with
 | ok x w' =>
  cases x <;> simp only [Oper.quietUpon] at h3 <;> simp only [Oper.uponIn]
  case value u => obtain ⟨e1, e2⟩ := h3; rw [e1, e2]; exact h _ _ hw h2
  case skip => obtain ⟨e1, e2⟩ := h3; rw [e1, ← e2]; exact h _ _ hw h2
  case enter f args =>
   obtain ⟨e1, hc⟩ := h3
   rw [e1]
   refine ⟨fun hd => by simp [Fence.inRound, Fence.wide] at hd, CallsIn.inRound l (callsIn_wide.2 (hc.mono fun e w'' ⟨he, hw''⟩ => ?_))⟩
   subst he
   exact h _ _ hw'' h2
 | halt x w' => simp only [Oper.quietUpon] at h3
theorem wpOpIn_of_q {i : Nat} {a : Act} {K : Act → Prop} {K' : Act → World → Prop} {Q' : Exit → Act → World → Prop} {w : World} (hnd : ops.all noDefer = true) (hC : C w) (h : ∀ a w', C w' → K a → K' a w') (hh : qOp P ops C i K a) :
  wpOpIn (Fence.wide.inRound l) n P ops Q' i K' a w := by
 unfold qOp at hh
 unfold wpOpIn
 split
 ·rename_i ho; simp only [ho] at hh; exact h _ _ hC hh
 ·rename_i o ho
  simp only [ho] at hh
  split
  ·rename_i hw
   simp only [hw, if_true] at hh
   exact wpIn_of_quiet (Array.all_eq_true_iff_forall_mem.1 hnd o (Array.mem_of_getElem? ho)) hC h hh
  ·rename_i hw; simp only [hw] at hh; exact ⟨fun _ _ => trivial, h _ _ hC hh⟩
theorem wpAnyIn_of_q {Q : Act → Prop} {Q' : Exit → Act → World → Prop} (hnd : ops.all noDefer = true) (hQ : ∀ a w, C w → Q a → Q' .normal a w) : ∀ (fuel : Nat) (listed : Array Bool) (a : Act) (w : World), C w →
  wpAnyQ P md ops C Q fuel listed a → wpAnyIn (Fence.wide.inRound l) n P md ops Q' fuel listed a w
 | 0, _, _, _, hw, h => ⟨h.1, hQ _ _ hw h.2⟩
 | fuel + 1, _, _, _, hw, h => ⟨fun h0 => hQ _ _ hw (h.1 h0), fun i hi => wpOpIn_of_q hnd hw (fun a' w' hw' => wpAnyIn_of_q hnd hQ fuel _ a' w' hw') (h.2 i hi)⟩
end
section
variable {P : Program} {id k n : Nat} {Q : Exit → Act → World → Prop} {a : Act} {w : World} {l : List Oper}
theorem wpIn_region_xw (w₀ : World) (hm : P.follows .mixedOrders = true) (hB : fastB l.toArray = true) (hnd : l.toArray.all noDefer = true) (he : Ext w₀ w)
  (h : Nonempty (XW w) → (∀ (u : XW w) b o, b < w.heap.size → u.w.cell? ⟨b, o, none⟩ = w.cell? ⟨b, o, none⟩) → (∀ (u : XW w) b o, b < w₀.heap.size → u.w.cell? ⟨b, o, none⟩ = w₀.cell? ⟨b, o, none⟩) →
   wpQuiet P l.toArray (fun w' => ∃ u : XW w, w' = u.w) (fun a' => ∀ w', Ext w w' → Q .normal a' w') l a) : (Code.region id l.toArray true).wpIn (Fence.wide.inRound k) n P Q a w := by
 have hB' := lexB_of_fast hB
 simp only [Region.lexB, Bool.and_eq_true] at hB'
 have H := wpAnyQ_lex (C := fun w' => ∃ u : XW w, w' = u.w) (md := .any) hB'.1 l 0 (Array.replicate l.toArray.size false) a (by simp) (by simpa using hB'.2) (h (XW.some w) (fun u => u.cell) (fun u => u.from he))
 exact wpIn_region_any hm (wpAnyIn_of_q (C := fun w' => ∃ u : XW w, w' = u.w) (Q := fun a' => ∀ w', Ext w w' → Q .normal a' w') hnd (fun a' w' hu h' => h' w' (by obtain ⟨u, rfl⟩ := hu; exact u.e)) _ _ _ _ (XW.drawn w) (by simpa using H))
end
end Go.Proofs.YtneiofnlmblglaaGreatDoor
namespace Go.Proofs.YtneiofnlmblglaaGreatDoor
theorem lens_append (y : Yr) : ∀ l l' : List (Int × Bool), y.lens (l ++ l') = y.lens l + y.lens l'
 | [], l' => by simp [Yr.lens]
 | p :: l, l' => by rw [List.cons_append, Yr.lens, Yr.lens, lens_append y l l']; omega
theorem runs_append (i : Nat) (y : Yr) : ∀ (l l' : List (Int × Bool)) (d : Int), runs i y d (l ++ l') = runs i y d l ++ runs i y (d + y.lens l) l'
 | [], l', d => by simp [runs, Yr.lens]
 | p :: l, l', d => by
  rw [List.cons_append, runs, runs, runs_append i y l l', List.cons_append, Yr.lens]
  congr 3; omega
theorem runs_length (i : Nat) (y : Yr) : ∀ (l : List (Int × Bool)) (d : Int), (runs i y d l).length = l.length
 | [], _ => rfl
 | p :: l, d => by rw [runs, List.length_cons, List.length_cons, runs_length i y l]
theorem mlen_29 (lg : Int) (b : Nat) : 29 ≤ mlen lg b ∧ mlen lg b ≤ 30 := by unfold mlen; split <;> omega
theorem len_29 (y : Yr) (n : Int) (s : Bool) : 29 ≤ y.len n s ∧ y.len n s ≤ 30 := mlen_29 _ _
theorem lens_29 (y : Yr) : ∀ l : List (Int × Bool), 29 * (l.length : Int) ≤ y.lens l ∧ y.lens l ≤ 30 * (l.length : Int)
 | [] => by simp [Yr.lens]
 | p :: l => by
  have := lens_29 y l
  have h := len_29 y p.1 p.2
  rw [Yr.lens, List.length_cons]
  omega
theorem moTo_succ (y : Yr) (k : Nat) : y.moTo (k + 1) = y.moTo k ++ (((k : Int) + 1, false) :: (if y.db = (k : Int) + 1 then [((k : Int) + 1, true)] else [])) := rfl
theorem moTo_length (y : Yr) : ∀ k : Nat, (y.moTo k).length = k + (if 1 ≤ y.db ∧ y.db ≤ (k : Int) then 1 else 0)
 | 0 => by
  have : ¬ (1 ≤ y.db ∧ y.db ≤ ((0 : Nat) : Int)) := by omega
  rw [if_neg this]; rfl
 | k + 1 => by
  rw [moTo_succ, List.length_append, List.length_cons, moTo_length y k]
  by_cases h : y.db = (k : Int) + 1
  ·rw [if_pos h, if_neg (by omega), if_pos (by omega)]; simp
  ·rw [if_neg h]
   by_cases h2 : 1 ≤ y.db ∧ y.db ≤ (k : Int)
   ·rw [if_pos h2, if_pos (by omega)]; simp
   ·rw [if_neg h2, if_neg (by omega)]; simp
theorem mos_length (y : Yr) : 12 ≤ y.mos.length ∧ y.mos.length ≤ 13 := by
 rw [Yr.mos, moTo_length]; split <;> omega
theorem days_bd (y : Yr) : 348 ≤ y.days ∧ y.days ≤ 390 := by
 have h := lens_29 y y.mos
 have h2 := mos_length y
 unfold Yr.days; omega
theorem dayAt_bd (c : Cal) : ∀ i : Nat, 1 + 348 * (i : Int) ≤ c.dayAt i ∧ c.dayAt i ≤ 1 + 390 * (i : Int)
 | 0 => by simp [Cal.dayAt]
 | i + 1 => by
  have := dayAt_bd c i
  have := days_bd (c.yr i)
  rw [Cal.dayAt]; omega
/-- What came till month k + 1 of year i. -/
def Cal.upTo (c : Cal) (i k : Nat) : List It := c.itemsTo i ++ runs i (c.yr i) (c.dayAt i) ((c.yr i).moTo k)
def Cal.dayTo (c : Cal) (i k : Nat) : Int := c.dayAt i + (c.yr i).lens ((c.yr i).moTo k)
theorem upTo_zero (c : Cal) (i : Nat) : c.upTo i 0 = c.itemsTo i := by simp [Cal.upTo, Yr.moTo, runs]
theorem dayTo_zero (c : Cal) (i : Nat) : c.dayTo i 0 = c.dayAt i := by simp [Cal.dayTo, Yr.moTo, Yr.lens]
/-- The first month k + 1 of year i, and the second one. -/
def Cal.it1 (c : Cal) (i k : Nat) : It := ⟨i, (k : Int) + 1, false, c.dayTo i k⟩
def Cal.it2 (c : Cal) (i k : Nat) : It := ⟨i, (k : Int) + 1, true, c.dayTo i k + (c.yr i).len ((k : Int) + 1) false⟩
theorem upTo_one {c : Cal} {i k : Nat} (h : (c.yr i).db ≠ (k : Int) + 1) : c.upTo i (k + 1) = c.upTo i k ++ [c.it1 i k] := by
 rw [Cal.upTo, moTo_succ, if_neg h, runs_append, ← List.append_assoc]; rfl
theorem upTo_two {c : Cal} {i k : Nat} (h : (c.yr i).db = (k : Int) + 1) : c.upTo i (k + 1) = c.upTo i k ++ [c.it1 i k] ++ [c.it2 i k] := by
 rw [Cal.upTo, moTo_succ, if_pos h, runs_append, ← List.append_assoc, List.append_assoc (c.upTo i k)]; rfl
theorem dayTo_one {c : Cal} {i k : Nat} (h : (c.yr i).db ≠ (k : Int) + 1) : c.dayTo i (k + 1) = c.dayTo i k + (c.yr i).len ((k : Int) + 1) false := by
 rw [Cal.dayTo, moTo_succ, if_neg h, lens_append, ← Int.add_assoc]
 show _ + (_ + 0) = _ + _; rw [Int.add_zero]; rfl
theorem dayTo_two {c : Cal} {i k : Nat} (h : (c.yr i).db = (k : Int) + 1) : c.dayTo i (k + 1) = c.dayTo i k + (c.yr i).len ((k : Int) + 1) false + (c.yr i).len ((k : Int) + 1) true := by
 rw [Cal.dayTo, moTo_succ, if_pos h, lens_append, ← Int.add_assoc]
 show _ + (_ + (_ + 0)) = _ + _ + _; rw [Int.add_zero, ← Int.add_assoc]; rfl
theorem itemsTo_pre (c : Cal) {i j : Nat} (h : i ≤ j) : c.itemsTo i <+: c.itemsTo j := by
 induction j with
 | zero => obtain rfl : i = 0 := by omega
           exact List.prefix_rfl
 | succ j ih =>
  rcases Nat.lt_or_ge j i with h' | h'
  ·obtain rfl : i = j + 1 := by omega
   exact List.prefix_rfl
  ·exact (ih h').trans (List.prefix_append _ _)
theorem moTo_pre (y : Yr) {i j : Nat} (h : i ≤ j) : y.moTo i <+: y.moTo j := by
 induction j with
 | zero => obtain rfl : i = 0 := by omega
           exact List.prefix_rfl
 | succ j ih =>
  rcases Nat.lt_or_ge j i with h' | h'
  ·obtain rfl : i = j + 1 := by omega
   exact List.prefix_rfl
  ·exact (ih h').trans (List.prefix_append _ _)
theorem upTo_pre {c : Cal} {i k : Nat} (hi : i < c.ny) (hk : k ≤ 12) : c.upTo i k <+: c.items := by
 refine List.IsPrefix.trans ?_ (itemsTo_pre c (show i + 1 ≤ c.ny from hi))
 obtain ⟨t, ht⟩ := moTo_pre (c.yr i) hk
 show c.itemsTo i ++ _ <+: c.itemsTo i ++ runs i (c.yr i) (c.dayAt i) ((c.yr i).moTo 12)
 rw [← ht, runs_append, ← List.append_assoc]
 exact List.prefix_append _ _
theorem one_pre {c : Cal} {i k : Nat} (hi : i < c.ny) (hk : k < 12) : c.upTo i k ++ [c.it1 i k] <+: c.items := by
 by_cases h : (c.yr i).db = (k : Int) + 1
 ·refine List.IsPrefix.trans ?_ (upTo_pre hi (show k + 1 ≤ 12 from hk))
  rw [upTo_two h]; exact List.prefix_append _ _
 ·rw [← upTo_one h]; exact upTo_pre hi hk
theorem two_pre {c : Cal} {i k : Nat} (hi : i < c.ny) (hk : k < 12) (h : (c.yr i).db = (k : Int) + 1) : c.upTo i k ++ [c.it1 i k] ++ [c.it2 i k] <+: c.items := by
 rw [← upTo_two h]; exact upTo_pre hi hk
theorem lt_of_pre {α : Type} {pre l : List α} {x : α} (h : pre ++ [x] <+: l) : pre.length < l.length := by
 have := h.length_le; simp at this; omega
theorem dayTo_bd (c : Cal) {i k : Nat} (hk : k ≤ 12) : 1 + 348 * (i : Int) ≤ c.dayTo i k ∧ c.dayTo i k ≤ 1 + 390 * (i : Int) + 390 := by
 have h1 := dayAt_bd c i
 have h2 := lens_29 (c.yr i) ((c.yr i).moTo k)
 have h3 : ((c.yr i).moTo k).length ≤ 13 := by rw [moTo_length]; split <;> omega
 unfold Cal.dayTo; omega
/-- What a month that comes is, whatever its place. -/
structure Cal.okIt (c : Cal) (x : It) : Prop where
 y : x.y < c.ny
 n1 : 1 ≤ x.n
 n12 : x.n ≤ 12
 f1 : 1 ≤ x.first
 f2 : x.first ≤ 390 * (c.ny : Int) + 391
theorem it1_ok {c : Cal} {i k : Nat} (hi : i < c.ny) (hk : k < 12) : c.okIt (c.it1 i k) := by
 have h := dayTo_bd c (i := i) (k := k) (by omega)
 exact ⟨hi, by show 1 ≤ (k : Int) + 1; omega, by show (k : Int) + 1 ≤ 12; omega, by show 1 ≤ c.dayTo i k; omega, by show c.dayTo i k ≤ _; omega⟩
theorem it2_ok {c : Cal} {i k : Nat} (hi : i < c.ny) (hk : k < 12) : c.okIt (c.it2 i k) := by
 have h := dayTo_bd c (i := i) (k := k) (by omega)
 have h2 := len_29 (c.yr i) ((k : Int) + 1) false
 exact ⟨hi, by show 1 ≤ (k : Int) + 1; omega, by show (k : Int) + 1 ≤ 12; omega, by show 1 ≤ c.dayTo i k + _; omega, by show c.dayTo i k + _ ≤ _; omega⟩
theorem itemsTo_length (c : Cal) : ∀ i : Nat, (c.itemsTo i).length ≤ 13 * i
 | 0 => by simp [Cal.itemsTo]
 | i + 1 => by
  have := itemsTo_length c i
  have := mos_length (c.yr i)
  rw [Cal.itemsTo, List.length_append, runs_length]; omega
end Go.Proofs.YtneiofnlmblglaaGreatDoor
namespace Go.Proofs.YtneiofnlmblglaaGreatDoor
open Go Go.RowKit
attribute [local go_sem] Oper.semAt_some
/-- What a round of a loop over the months keeps: what lay in w₀, and each block of years. -/
structure KpY (n₀ : Nat) (W W' : World) : Prop where
 below : Below n₀ W W'
 years : ∀ (k : Nat) (cs : Array Value) (f : Nat × Nat), W.heap[k]? = some (.cells cs 119 f) → W'.heap[k]? = some (.cells cs 119 f)
namespace KpY
variable {n₀ : Nat} {A B C : World}
theorem refl (n₀ : Nat) (W : World) : KpY n₀ W W := ⟨Below.refl _ _, fun _ _ _ h => h⟩
theorem trans (h : KpY n₀ A B) (k : KpY n₀ B C) : KpY n₀ A C := ⟨h.below.trans k.below, fun i cs f hi => k.years i cs f (h.years i cs f hi)⟩
theorem of_ext (e : Ext A B) (hn : n₀ ≤ A.heap.size) : KpY n₀ A B := ⟨e.below.mono hn, fun _ _ _ hi => (e.block (Array.getElem?_eq_some_iff.1 hi).1).trans hi⟩
theorem grown {row : Option Nat} (hg : A.grownBy B row) (hn : n₀ ≤ A.heap.size) (hr : ∀ r, row = some r → n₀ ≤ r ∧ ∃ o, A.heap[r]? = some o ∧ ∀ cs f, o ≠ .cells cs 119 f) : KpY n₀ A B := by
 refine ⟨(Below.refl n₀ A).grown hg hn (fun r e => (hr r e).1), fun i cs f hi => (hg.block i (Array.getElem?_eq_some_iff.1 hi).1 (fun e => ?_)).trans hi⟩
 obtain ⟨_, o, ho, hne⟩ := hr i e.symm
 rw [hi] at ho; cases ho
 exact hne cs f rfl
theorem box {b : Nat} {t : TypeId} {v : Value} (hb : Boxed A b t v) (ht : t ≠ 119) (hn : n₀ ≤ b) (u : Value) : KpY n₀ A (A.setCell ⟨b, 0, none⟩ u) :=
 grown (grownBy_setCell' A b u) (Nat.le_of_lt (Nat.lt_of_le_of_lt hn hb.lt)) (fun r e => by
  cases e; exact ⟨hn, _, hb, fun cs f h => ht (by injection h)⟩)
theorem turn {w : World} (hn : n₀ ≤ w.heap.size) (W : World) (l : Nat) (o o' : Obj) (hl : w.heap.size ≤ l) (h : W.heap[l]? = some o) (hc : o.isCells = false) (_ : o.isWalk = false) : KpY n₀ W (W.putObj l o') :=
 grown (grownBy_putObj' W l o') (by have := (Array.getElem?_eq_some_iff.1 h).1; omega) (fun r e => by
  cases e; exact ⟨by omega, _, h, fun cs f hh => by rw [hh] at hc; cases hc⟩)
end KpY
theorem grown_of_ext {A B : World} (e : Ext A B) : A.grownBy B none := ⟨e.below.os, e.below.tape, e.below.output, e.size, fun _ hk _ => e.block hk⟩
theorem AbidesFrom.ext {β : Type} {B : Nat} {J : β → World → Prop} (h : AbidesFrom B J) {s : β} {W W' : World} (hs : J s W) (e : Ext W W') : J s W' := h s W W' none hs (grown_of_ext e) (fun r h => by cases h)
theorem OwnFrom.ext {β : Type} {B : Nat} {J : β → World → Prop} (h : OwnFrom B J) {s : β} {W W' : World} (hs : J s W) (e : Ext W W') : J s W' := h s W W' none hs (grown_of_ext e) (fun r h => by cases h)
/-- A month that a loop is handed. -/
abbrev Mo (c : Cal) := { x : It // c.okIt x }
def Mo.its {c : Cal} (l : List (Mo c)) : List It := l.map (·.1)
def Mo.enc {c : Cal} (x : Mo c) : Array Value := #[.agg #[.int .i64 (x.1.y : Int), .int .i64 x.1.n, .bool x.1.s], .int .i64 x.1.first]
theorem its_snoc {c : Cal} (l : List (Mo c)) (x : Mo c) : Mo.its (l ++ [x]) = Mo.its l ++ [x.1] := by simp [Mo.its]
theorem its_length {c : Cal} (l : List (Mo c)) : (Mo.its l).length = l.length := by simp [Mo.its]
theorem months_any (A A' : Option Addr) (ca cb : Nat) (c : Cal) (w : World) :
  Calls Tryz.prog 127 #[.agg #[.slice A c.nk ca, .slice A' c.ny cb]] w fun e w' => e = .returned (.func (.func 140) #[] #[.pointer (some ⟨w.heap.size, 0, none⟩)]) ∧ w.alloc (.cells #[.slice A c.nk ca, .slice A' c.ny cb] 25) = w' := by
 go_enter Tryz.func127, Tryz.ntmps127
 go_wp2
 go_ret
 exact ⟨rfl, rfl⟩
theorem fourCells {w : World} {Y : Nat} {t : TypeId} {v0 v1 v2 v3 : Value} (h : w.heap[Y]? = some (.cells #[v0, v1, v2, v3] t (0, 0))) :
  w.cell? ⟨Y, 0, none⟩ = some v0 ∧ w.cell? ⟨Y, 1, none⟩ = some v1 ∧ w.cell? ⟨Y, 2, none⟩ = some v2 ∧ w.cell? ⟨Y, 3, none⟩ = some v3 := by
 refine ⟨?_, ?_, ?_, ?_⟩ <;> simp [World.cell?, h]
theorem months1_stops (A A' : Option Addr) (ca cb : Nat) (c : Cal) (B n : Nat) (w₀ w : World) (hC : CalAt w₀ A ca A' cb c) (hlg : ∀ i, i < c.ny → 0 ≤ (c.yr i).lg ∧ (c.yr i).lg ≤ 8191) (hny : c.ny ≤ 400) (hn : 1 ≤ n) (he : Ext w₀ w)
  (hB : w.cell? ⟨B, 1, none⟩ = some (.slice A' c.ny cb)) (hBl : B < w.heap.size) :
  SeqStopsK Fence.wide n Tryz.prog 140 #[.pointer (some ⟨B, 0, none⟩)] (Mo.enc (c := c)) (KpY w₀.heap.size) (fun xs => Mo.its xs = c.items) (fun pre => Mo.its pre <+: c.items) c.items.length w := by
 intro l J Jx W hW hJ hJx hY h0
 have hWe : Ext w₀ W := he.trans hW
 have hB' : W.cell? ⟨B, 1, none⟩ = some (.slice A' c.ny cb) := (hW.cell (p := ⟨B, 1, none⟩) hBl).trans hB
 clear hB hBl he
 refine callsIn_of_wp Tryz.func140 rfl trivial ?_ rfl
 simp only [Tryz.ntmps140, List.size_toArray, List.length_cons, List.length_nil, Nat.reduceAdd, Nat.reduceSub, Array.replicate_succ, Array.replicate_zero, List.push_toArray, List.append_toArray, List.nil_append, List.cons_append]
 gi_wp2
 gi_loopw [3, 10] (fun d i wr => ∃ k : Nat, k ≤ c.ny ∧ i = .int .i64 k ∧ d = .int .i64 (c.dayAt k) ∧ ∃ pre : List (Mo c), Mo.its pre = c.itemsTo k ∧ J pre wr ∧ Ext w₀ wr) (fun _ i _ => c.ny - (intOf i).toNat)
 case atStart => exact ⟨0, Nat.zero_le _, rfl, rfl, [], rfl, h0, hWe⟩
 case round =>
  obtain ⟨k, hk, rfl, rfl, pre, hpre, hJp, hE⟩ := hrel
  obtain ⟨wo, rfl⟩ := zgE wr
  by_cases hlt : k < c.ny
  ·obtain ⟨b, off, rfl, hb, c0, c1, c2, c3⟩ := (hC.ext hE).year hlt
   gi_wp2
   have hlgk := hlg k hlt
   have hE2 : Ext w₀ (wo.alloc (.cells #[.int .i64 (c.yr k).k, .string (c.yr k).nm, .int .i64 (c.yr k).lg, .int .i64 (c.yr k).db] 119)) := hE.alloc _
   have hY0 := World.alloc_heap_new wo (.cells #[.int .i64 (c.yr k).k, .string (c.yr k).nm, .int .i64 (c.yr k).lg, .int .i64 (c.yr k).db] 119)
   have hJ0 := AbidesFrom.ext hJ hJp ((Ext.refl wo).alloc (.cells #[.int .i64 (c.yr k).k, .string (c.yr k).nm, .int .i64 (c.yr k).lg, .int .i64 (c.yr k).db] 119))
   generalize hyb : wo.heap.size = Y at *
   clear hyb c0 c1 c2 c3 hb
   gi_loopw [3, 6] (fun d m wq => ∃ j : Nat, j ≤ 12 ∧ m = .int .i64 (j + 1) ∧ d = .int .i64 (c.dayTo k j) ∧ ∃ pre : List (Mo c), Mo.its pre = c.upTo k j ∧ J pre wq ∧ Ext w₀ wq ∧
    wq.heap[Y]? = some (.cells #[.int .i64 (c.yr k).k, .string (c.yr k).nm, .int .i64 (c.yr k).lg, .int .i64 (c.yr k).db] 119 (0, 0))) (fun _ m _ => 13 - (intOf m).toNat)
   case atStart => exact ⟨0, Nat.zero_le _, rfl, by rw [dayTo_zero], pre, by rw [upTo_zero, hpre], hJ0, hE2, hY0⟩
   case round =>
    clear hE hE2 hY0 hJ0 hJp hpre pre
    obtain ⟨j, hj, rfl, rfl, pre, hpre, hJp, hE, hYb⟩ := hrel
    by_cases hlj : j < 12
    ·obtain ⟨y0, y1, y2, y3⟩ := fourCells hYb
     have hx := hY pre ⟨_, it1_ok hlt hlj⟩ wr hJp (by have := lt_of_pre (hpre ▸ one_pre hlt hlj); rw [its_length] at this; exact this)
     obtain ⟨fn, tmps, assign, body, hy, hR⟩ := hx
     simp only [Mo.enc, Cal.it1] at hy
     gi_wp2
     refine hR.mono ?_
     rintro e W3 (⟨rfl, hJ3, hk3⟩ | ⟨rfl, hJx3⟩)
     ·clear hR hy
      have hYb3 := hk3.years _ _ _ hYb
      have hE3 : Ext w₀ W3 := Below.trans hE hk3.below
      obtain ⟨z0, z1, z2, z3⟩ := fourCells hYb3
      have hbd := dayTo_bd c (i := k) (k := j) (by omega)
      have hbl := len_29 (c.yr k) ((j : Int) + 1) false
      by_cases hdb : (c.yr k).db = (j : Int) + 1
      ·have hd1 : ((c.yr k).db != (j : Int) + 1) = false := bne_eq_false_iff_eq.2 hdb
       have HD := Lib.hid hdb
       clear hdb y0 y1 y2 y3
       gi_wp2_with (refine ⟨trivial, ?_⟩; gi_at_call 139; refine (callsIn_wide.2 (length_any (c.yr k) _ _ _ (by omega) (by omega) hlgk.1 hlgk.2)).mono ?_; rintro e w4 ⟨rfl, hb4⟩; obtain ⟨fn2, tmps2, assign2, body2, hy2, hR2⟩ := hY _ ⟨_, it2_ok hlt hlj⟩ w4 (AbidesFrom.ext hJ hJ3 hb4) (by have := lt_of_pre (two_pre hlt hlj HD.out); rwa [← hpre, ← its_snoc pre ⟨c.it1 k j, it1_ok hlt hlj⟩, its_length] at this); simp only [Mo.enc, Cal.it2] at hy2; have hYb4 := (hb4.block (Array.getElem?_eq_some_iff.1 hYb3).1).trans hYb3; obtain ⟨x0, x1, x2, x3⟩ := fourCells hYb4; clear z0 z1 z2 z3)
       refine hR2.mono ?_
       rintro e W5 (⟨rfl, hJ5, hk5⟩ | ⟨rfl, hJx5⟩)
       ·clear hR2 hy2
        have hYb5 := hk5.years _ _ _ hYb4
        have hE5 : Ext w₀ W5 := Below.trans (hE3.trans hb4) hk5.below
        obtain ⟨s0, s1, s2, s3⟩ := fourCells hYb5
        clear x0 x1 x2 x3 hd1
        have hbl2 := len_29 (c.yr k) ((j : Int) + 1) true
        gi_wp2_with (refine ⟨trivial, ?_⟩; gi_at_call 139; refine (callsIn_wide.2 (length_any (c.yr k) _ _ _ (by omega) (by omega) hlgk.1 hlgk.2)).mono ?_; rintro e w6 ⟨rfl, hb6⟩)
        exact ⟨⟨j + 1, by omega, by go_num, by rw [dayTo_two HD.out], _, by rw [its_snoc, its_snoc, hpre, upTo_two HD.out], AbidesFrom.ext hJ hJ5 hb6, hE5.trans hb6, (hb6.block (Array.getElem?_eq_some_iff.1 hYb5).1).trans hYb5⟩, by simp [intOf]; omega⟩
       ·gi_wp2
        refine bodyPost_ret (results_none rfl _ _ _) rfl ?_
        exact ⟨⟨_, rfl⟩, .inr ⟨_, by rw [its_snoc, its_snoc, hpre]; exact two_pre hlt hlj HD.out, hJx5⟩⟩
      ·have hd1 : ((c.yr k).db != (j : Int) + 1) = true := bne_iff_ne.2 hdb
       have HD := Lib.hid hdb
       clear hdb y0 y1 y2 y3
       gi_wp2_with (refine ⟨trivial, ?_⟩; gi_at_call 139; refine (callsIn_wide.2 (length_any (c.yr k) _ _ _ (by omega) (by omega) hlgk.1 hlgk.2)).mono ?_; rintro e w4 ⟨rfl, hb4⟩; have hYb4 := (hb4.block (Array.getElem?_eq_some_iff.1 hYb3).1).trans hYb3; obtain ⟨x0, x1, x2, x3⟩ := fourCells hYb4; clear z0 z1 z2 z3)
       exact ⟨⟨j + 1, by omega, by go_num, by rw [dayTo_one HD.out], _, by rw [its_snoc, hpre, upTo_one HD.out], AbidesFrom.ext hJ hJ3 hb4, hE3.trans hb4, (hb4.block (Array.getElem?_eq_some_iff.1 hYb3).1).trans hYb3⟩, by simp [intOf]; omega⟩
     ·gi_wp2
      refine bodyPost_ret (results_none rfl _ _ _) rfl ?_
      exact ⟨⟨_, rfl⟩, .inr ⟨_, by rw [its_snoc, hpre]; exact one_pre hlt hlj, hJx3⟩⟩
    ·obtain rfl : j = 12 := by omega
     gi_wp2
     exact ⟨⟨k + 1, by omega, by go_num, rfl, pre, by rw [hpre]; rfl, hJp, hE⟩, by simp [intOf]; omega⟩
  ·gi_wp2
   go_end0
   exact ⟨⟨_, rfl⟩, .inl ⟨pre, by rw [hpre, show k = c.ny from by omega]; rfl, hJp⟩⟩
end Go.Proofs.YtneiofnlmblglaaGreatDoor
namespace Go.Proofs.YtneiofnlmblglaaGreatDoor
open Go Go.RowKit
theorem eqIn_month (w : World) (x0 y0 : Int) (x1 y1 : Int) (x2 y2 : Bool) : (Op.equalIn 10000 175 (.agg #[.int .i64 x0, .int .i64 x1, .bool x2]) (.agg #[.int .i64 y0, .int .i64 y1, .bool y2])).run Tryz.prog w = .ok ((x0 == y0) && ((x1 == y1) && (x2 == y2))) w := by
 go_simp
 by_cases h0 : x0 = y0
 rotate_left
 ·simp [h0]
 by_cases h1 : x1 = y1
 rotate_left
 ·simp [h1]
 by_cases h2 : x2 = y2
 rotate_left
 ·simp [h2]
 simp [h0, h1, h2]
theorem eql_month (w : World) (x0 y0 : Int) (x1 y1 : Int) (x2 y2 : Bool) : (binOp .eql 175 (.agg #[.int .i64 x0, .int .i64 x1, .bool x2]) (.agg #[.int .i64 y0, .int .i64 y1, .bool y2])).run Tryz.prog w = .ok (.bool ((x0 == y0) && ((x1 == y1) && (x2 == y2)))) w := by rw [run_eql_struct, eqIn_month]; rfl
end Go.Proofs.YtneiofnlmblglaaGreatDoor
namespace Go.Proofs.YtneiofnlmblglaaGreatDoor
open Go Go.RowKit
attribute [local go_sem] gv_yes
set_option maxHeartbeats 1000000 in
theorem in_any (A A' : Option Addr) (ca cb : Nat) (c : Cal) (d : Dt) (w : World) (hC : CalAt w A ca A' cb c) (hlg : ∀ i, i < c.ny → 0 ≤ (c.yr i).lg ∧ (c.yr i).lg ≤ 8191) :
  Calls Tryz.prog 126 #[.agg #[.slice A c.nk ca, .slice A' c.ny cb], .agg #[.int .i64 d.y, .int .i64 d.m, .bool d.s, .int .i64 d.d]] w fun e w' => e = .returned (.bool (c.has d)) ∧ Ext w w' := by
 have hny := hC.ny_le
 have H : Hid (c.has d = (!(decide (d.y < 0) || decide ((c.ny : Int) ≤ d.y) || decide (d.m < 1) || decide (12 < d.m)) && ((!d.s || ((c.yrI d.y).db == d.m)) && decide (1 ≤ d.d) && decide (d.d ≤ (c.yrI d.y).len d.m d.s)))) := by
  unfold Hid Cal.has
  rw [Bool.eq_iff_iff]
  cases d.s <;> simp <;> omega
 generalize c.has d = r at *
 go_enter Tryz.func126, Tryz.ntmps126
 go_upto_region 1 with (fail)
 refine wp_region_xl w (by repeat (first | exact Ext.refl _ | (refine Ext.alloc ?_ _) | (refine Ext.trans ?_ (by assumption)))) ?_
 intro hne hrx hry
 try simp only []
 try simp only [List.append_eq, List.cons_append, List.nil_append]
 have hrx0 := fun u o => hrx u (w.heap.size) o (by first | omega | (simp; done) | (simp; omega))
 have hrx1 := fun u o => hrx u (w.heap.size + 1) o (by first | omega | (simp; done) | (simp; omega))
 skip
 repeat (first
  | go_big_quiet_skip
  | ((with_reducible apply q_and)
     ·exact rfl
     ·exact rfl
     ·exact rfl
     intro K hK
     unfold Then; go_big_quiet_op; (with_reducible refine hK _ ?_); clear hK K)
  | ((with_reducible apply q_or)
     ·exact rfl
     ·exact rfl
     ·exact rfl
     intro K hK
     unfold Then; go_big_quiet_op; (with_reducible refine hK _ ?_); clear hK K)
  | (go_big_quiet_want; go_big_quiet_op; go_big_quiet_on)
  | ((with_reducible apply q_and_g)
     ·first | exact wanted_pt rfl rfl rfl | exact wanted_pf rfl rfl rfl | exact wanted_gt rfl rfl rfl | exact wanted_gf rfl rfl rfl
     ·exact rfl
     ·exact rfl
     ·exact rfl
     intro K hK
     unfold Then; go_big_quiet_op; (with_reducible refine hK _ ?_); clear hK K)
  | ((with_reducible apply q_or_g)
     ·first | exact wanted_pt rfl rfl rfl | exact wanted_pf rfl rfl rfl | exact wanted_gt rfl rfl rfl | exact wanted_gf rfl rfl rfl
     ·exact rfl
     ·exact rfl
     ·exact rfl
     intro K hK
     unfold Then; go_big_quiet_op; (with_reducible refine hK _ ?_); clear hK K)
  | ((with_reducible apply q_sym)
     ·first | exact wanted_pt rfl rfl rfl | exact wanted_pf rfl rfl rfl | exact wanted_gt rfl rfl rfl | exact wanted_gf rfl rfl rfl
     apply Exists.intro
     refine And.intro (fun hgb => ?_) ?_
     ·intro u
      try simp at hgb
      go_simp
      try simp only [if_pos hsl]
      try simp only [if_pos (hin (by omega))]
      try (simp only [hd0 (by omega)]; go_simp)
      try (rw [hlook _ (Ext.trans (by repeat (first | exact Ext.refl _ | (refine Ext.alloc ?_ _) | (refine Ext.trans ?_ (by assumption)))) u.e) (hlk0 hgb)]; go_simp)
      first
       | (with_reducible exact rfl)
     intro K hK
     unfold Then; go_big_quiet_op; (with_reducible refine hK _ ?_); clear hK K))
 clear hne hry hrx hrx0 hrx1
 refine wpQuiet_nil ?_
 intro wp hp
 obtain ⟨hcwp, hfwp, hzwp⟩ := Ext.rules hp
 try simp only [World.size_alloc] at hzwp
 have hk0wp := fun o => hcwp (w.heap.size) o (by first | omega | (simp; done) | (simp; omega))
 have hj0wp := fun o => hfwp (w.heap.size) o (by first | omega | (simp; done) | (simp; omega))
 have hl0wp : w.heap.size < wp.heap.size := (by first | omega | (simp; done) | (simp; omega))
 have hk1wp := fun o => hcwp (w.heap.size + 1) o (by first | omega | (simp; done) | (simp; omega))
 have hj1wp := fun o => hfwp (w.heap.size + 1) o (by first | omega | (simp; done) | (simp; omega))
 have hl1wp : w.heap.size + 1 < wp.heap.size := (by first | omega | (simp; done) | (simp; omega))
 obtain ⟨hcbwp, hfbwp, hzbwp⟩ := Ext.rules (show Ext w wp from (by repeat (first | exact Ext.refl _ | (refine Ext.alloc ?_ _) | (refine Ext.trans ?_ (by assumption)))))
 clear hcwp hfwp
 generalize hf : (decide (d.y < 0) || decide ((c.ny : Int) ≤ d.y) || decide (d.m < 1) || decide (12 < d.m)) = f at *
 cases f
 ·have hb4 : 0 ≤ d.y ∧ d.y < c.ny ∧ 1 ≤ d.m ∧ d.m ≤ 12 := by simp only [Bool.or_eq_false_iff, decide_eq_false_iff_not] at hf; omega
  obtain ⟨hy0, hy1, hm0, hm1⟩ := hb4
  clear hf
  obtain ⟨b, off, rfl, hb, c0, c1, c2, c3⟩ := hC.yearI hy0 hy1
  obtain ⟨hl, hl'⟩ : 0 ≤ (c.yrI d.y).lg ∧ (c.yrI d.y).lg ≤ 8191 := hlg _ (by omega)
  clear hlg hC
  generalize c.yrI d.y = yy at *
  go_upto_region 4 with (fail)
  refine wp_region_xw w mixed (by kernel_rfl) (by repeat (first | exact Ext.refl _ | (refine Ext.alloc ?_ _) | (refine Ext.trans ?_ (by assumption)))) ?_
  intro hne hrx hry
  try simp only []
  try simp only [List.append_eq, List.cons_append, List.nil_append]
  have hrx0 := fun u o => hrx u (w.heap.size) o (by first | omega | (simp; done) | (simp; omega))
  have hrx1 := fun u o => hrx u (w.heap.size + 1) o (by first | omega | (simp; done) | (simp; omega))
  skip
  repeat (first
   | go_big_quiet_skip
   | ((with_reducible apply q_and)
      ·exact rfl
      ·exact rfl
      ·exact rfl
      intro K hK
      unfold Then; go_big_quiet_op; (with_reducible refine hK _ ?_); clear hK K)
   | ((with_reducible apply q_or)
      ·exact rfl
      ·exact rfl
      ·exact rfl
      intro K hK
      unfold Then; go_big_quiet_op; (with_reducible refine hK _ ?_); clear hK K)
   | (go_big_quiet_want; go_big_quiet_op; go_big_quiet_on)
   | (go_big_quiet_want; go_big_quiet_op; apply Exists.intro; refine ⟨fun u => ?_, ?_⟩
      ·first
        | (go_at_call 139; refine (length_any yy _ _ _ hm0 hm1 hl hl').mono ?_; rintro e w' ⟨rfl, hb⟩; exact ⟨rfl, u.back hb⟩)
      go_big_quiet_on)
   | ((with_reducible apply q_and_g)
      ·first | exact wanted_pt rfl rfl rfl | exact wanted_pf rfl rfl rfl | exact wanted_gt rfl rfl rfl | exact wanted_gf rfl rfl rfl
      ·exact rfl
      ·exact rfl
      ·exact rfl
      intro K hK
      unfold Then; go_big_quiet_op; (with_reducible refine hK _ ?_); clear hK K)
   | ((with_reducible apply q_or_g)
      ·first | exact wanted_pt rfl rfl rfl | exact wanted_pf rfl rfl rfl | exact wanted_gt rfl rfl rfl | exact wanted_gf rfl rfl rfl
      ·exact rfl
      ·exact rfl
      ·exact rfl
      intro K hK
      unfold Then; go_big_quiet_op; (with_reducible refine hK _ ?_); clear hK K)
   | ((with_reducible apply q_sym)
      ·first | exact wanted_pt rfl rfl rfl | exact wanted_pf rfl rfl rfl | exact wanted_gt rfl rfl rfl | exact wanted_gf rfl rfl rfl
      apply Exists.intro
      refine And.intro (fun hgb => ?_) ?_
      ·intro u
       try simp at hgb
       go_simp
       try simp only [if_pos hsl]
       try simp only [if_pos (hin (by omega))]
       try (simp only [hd0 (by omega)]; go_simp)
       try (rw [hlook _ (Ext.trans (by repeat (first | exact Ext.refl _ | (refine Ext.alloc ?_ _) | (refine Ext.trans ?_ (by assumption)))) u.e) (hlk0 hgb)]; go_simp)
       first
        | (with_reducible exact rfl)
        | (go_at_call 139; refine (length_any yy _ _ _ hm0 hm1 hl hl').mono ?_; rintro e w' ⟨rfl, hb⟩; exact ⟨rfl, u.back hb⟩)
      intro K hK
      unfold Then; go_big_quiet_op; (with_reducible refine hK _ ?_); clear hK K))
  clear hne hry hrx hrx0 hrx1
  refine wpQuiet_nil ?_
  intro wq hq
  obtain ⟨hcwq, hfwq, hzwq⟩ := Ext.rules hq
  try simp only [World.size_alloc] at hzwq
  have hk0wq := fun o => hcwq (w.heap.size) o (by first | omega | (simp; done) | (simp; omega))
  have hj0wq := fun o => hfwq (w.heap.size) o (by first | omega | (simp; done) | (simp; omega))
  have hl0wq : w.heap.size < wq.heap.size := (by first | omega | (simp; done) | (simp; omega))
  have hk1wq := fun o => hcwq (w.heap.size + 1) o (by first | omega | (simp; done) | (simp; omega))
  have hj1wq := fun o => hfwq (w.heap.size + 1) o (by first | omega | (simp; done) | (simp; omega))
  have hl1wq : w.heap.size + 1 < wq.heap.size := (by first | omega | (simp; done) | (simp; omega))
  obtain ⟨hcbwq, hfbwq, hzbwq⟩ := Ext.rules (show Ext w wq from (by repeat (first | exact Ext.refl _ | (refine Ext.alloc ?_ _) | (refine Ext.trans ?_ (by assumption)))))
  clear hcwq hfwq
  go_wp2
  go_ret
  refine ⟨ret_bool ?_, (by repeat (first | exact Ext.refl _ | (refine Ext.alloc ?_ _) | (refine Ext.trans ?_ (by assumption))))⟩
  rw [H.out]
  rfl
 ·go_wp2
  go_ret
  exact ⟨ret_bool (by rw [H.out]; rfl), (by repeat (first | exact Ext.refl _ | (refine Ext.alloc ?_ _) | (refine Ext.trans ?_ (by assumption))))⟩
def NotTo (f : Nat → ByteArray) (s : ByteArray) (k : Nat) : Prop := ∀ j, j < k → f j ≠ s
theorem same_yes {a b : ByteArray} (h : (a.toList == b.toList) = true) : a = b := by rw [← same_eq] at h; simpa using h
theorem same_no {a b : ByteArray} (h : (a.toList == b.toList) = false) : a ≠ b := by rw [← same_eq] at h; simpa using h
end Go.Proofs.YtneiofnlmblglaaGreatDoor
namespace Go.Proofs.YtneiofnlmblglaaGreatDoor
open Go Go.RowKit
attribute [local go_sem] gv_yes
def hadF (f : Nat → Yr) (y : Yr) (n : Nat) : Bool := (List.range n).any fun j => (f j).alike y
def NoTwin (f : Nat → ByteArray) (k : Nat) : Prop := ∀ i j, j < i → i < k → f j ≠ f i
def NameAll (f : Nat → ByteArray) (k : Nat) : Bool := (List.range k).all fun i => isName (f i)
theorem kingsOk_twin {c : Cal} {j k : Nat} (hk : k < c.nk) (hj : j < k) (h : c.kg j = c.kg k) : c.kingsOk = false := by
 rw [Bool.eq_false_iff]
 intro hh
 simp only [Cal.kingsOk, Bool.and_eq_true, List.all_eq_true, List.mem_range] at hh
 have h1 := hh.2 k hk
 simp only [Cal.kingOk, Bool.and_eq_true, List.all_eq_true, List.mem_range, decide_eq_true_eq] at h1
 exact h1.2 j hj h
theorem kingsOk_apart {c : Cal} (h : NoTwin c.kg c.nk) : c.kingsOk = (decide (1 ≤ (c.nk : Int)) && decide ((c.nk : Int) ≤ 40) && NameAll c.kg c.nk) := by
 have e : (List.range c.nk).all c.kingOk = NameAll c.kg c.nk := by
  rw [NameAll, Bool.eq_iff_iff]
  simp only [List.all_eq_true, List.mem_range, Cal.kingOk, Bool.and_eq_true, decide_eq_true_eq]
  exact ⟨fun hh i hi => (hh i hi).1, fun hh i hi => ⟨hh i hi, fun j hj => h i j hj hi⟩⟩
 rw [Cal.kingsOk, e]
 congr 2 <;> simp <;> omega
theorem notTo_snoc {f : Nat → ByteArray} {s : ByteArray} {k : Nat} (h : NotTo f s k) (hk : f k ≠ s) : NotTo f s (k + 1) := fun j hj => by
 rcases Nat.lt_or_ge j k with h' | h'
 ·exact h j h'
 ·rw [show j = k from by omega]; exact hk
theorem noTwin_snoc {f : Nat → ByteArray} {k : Nat} (h : NoTwin f k) (hk : NotTo f (f k) k) : NoTwin f (k + 1) := fun i j hj hi => by
 rcases Nat.lt_or_ge i k with h' | h'
 ·exact h i j hj h'
 ·obtain rfl : i = k := by omega
  exact hk j hj
theorem nameAll_snoc (f : Nat → ByteArray) (k : Nat) : NameAll f (k + 1) = (NameAll f k && isName (f k)) := by
 rw [NameAll, NameAll, List.range_succ, List.all_append]; simp
set_option maxHeartbeats 1000000 in
theorem validKings_any (A : Option Addr) (ca : Nat) (c : Cal) (w : World) (hA : RowsAt w A c.nk 1 (fun i => [.string (c.kg i)])) (hn : c.nk ≤ 9223372036854775807) (hcap : c.nk ≤ ca) :
  Calls Tryz.prog 138 #[.slice A c.nk ca] w fun e w' => e = .returned (.bool c.kingsOk) ∧ Ext w w' := by
 go_enter Tryz.func138, Tryz.ntmps138
 go_upto_region 1 with (fail)
 go_step3
 go_upto_region 1 with (fail)
 refine wp_region_xl w (by repeat (first | exact Ext.refl _ | (refine Ext.alloc ?_ _) | (refine Ext.trans ?_ (by assumption)))) ?_
 intro hne hrx hry
 try simp only []
 try simp only [List.append_eq, List.cons_append, List.nil_append]
 skip
 repeat (first
  | go_big_quiet_skip
  | ((with_reducible apply q_and)
     ·exact rfl
     ·exact rfl
     ·exact rfl
     intro K hK
     unfold Then; go_big_quiet_op; (with_reducible refine hK _ ?_); clear hK K)
  | ((with_reducible apply q_or)
     ·exact rfl
     ·exact rfl
     ·exact rfl
     intro K hK
     unfold Then; go_big_quiet_op; (with_reducible refine hK _ ?_); clear hK K)
  | (go_big_quiet_want; go_big_quiet_op; go_big_quiet_on)
  | ((with_reducible apply q_and_g)
     ·first | exact wanted_pt rfl rfl rfl | exact wanted_pf rfl rfl rfl | exact wanted_gt rfl rfl rfl | exact wanted_gf rfl rfl rfl
     ·exact rfl
     ·exact rfl
     ·exact rfl
     intro K hK
     unfold Then; go_big_quiet_op; (with_reducible refine hK _ ?_); clear hK K)
  | ((with_reducible apply q_or_g)
     ·first | exact wanted_pt rfl rfl rfl | exact wanted_pf rfl rfl rfl | exact wanted_gt rfl rfl rfl | exact wanted_gf rfl rfl rfl
     ·exact rfl
     ·exact rfl
     ·exact rfl
     intro K hK
     unfold Then; go_big_quiet_op; (with_reducible refine hK _ ?_); clear hK K)
  | ((with_reducible apply q_sym)
     ·first | exact wanted_pt rfl rfl rfl | exact wanted_pf rfl rfl rfl | exact wanted_gt rfl rfl rfl | exact wanted_gf rfl rfl rfl
     apply Exists.intro
     refine And.intro (fun hgb => ?_) ?_
     ·intro u
      try simp at hgb
      go_simp
      try simp only [if_pos hsl]
      try simp only [if_pos (hin (by omega))]
      try (simp only [hd0 (by omega)]; go_simp)
      try (rw [hlook _ (Ext.trans (by repeat (first | exact Ext.refl _ | (refine Ext.alloc ?_ _) | (refine Ext.trans ?_ (by assumption)))) u.e) (hlk0 hgb)]; go_simp)
      first
       | (with_reducible exact rfl)
     intro K hK
     unfold Then; go_big_quiet_op; (with_reducible refine hK _ ?_); clear hK K))
 clear hne hry hrx
 refine wpQuiet_nil ?_
 intro wq hq
 obtain ⟨hcwq, hfwq, hzwq⟩ := Ext.rules hq
 try simp only [World.size_alloc] at hzwq
 obtain ⟨hcbwq, hfbwq, hzbwq⟩ := Ext.rules (show Ext w wq from (by repeat (first | exact Ext.refl _ | (refine Ext.alloc ?_ _) | (refine Ext.trans ?_ (by assumption)))))
 clear hcwq hfwq
 go_wp2
 go_step3
 go_wp2
 go_loopw [3, 18] (fun o i wr => ∃ k : Nat, k ≤ c.nk ∧ i = .int .i64 k ∧ o = .bool (decide (1 ≤ (c.nk : Int)) && decide ((c.nk : Int) ≤ 40) && NameAll c.kg k) ∧ NoTwin c.kg k ∧ Ext w wr) (fun _ i _ => c.nk - (intOf i).toNat)
 case atStart => exact ⟨0, Nat.zero_le _, rfl, by simp [NameAll], (fun i j _ h => absurd h (by omega)), hq⟩
 case round =>
  obtain ⟨k, hk, rfl, rfl, hN, hB⟩ := hrel
  clear hq hzwq hcbwq hfbwq hzbwq
  obtain ⟨wo, rfl⟩ := zgE wr
  obtain ⟨hcwo, hfwo, hzwo⟩ := Ext.rules hB
  try simp only [World.size_alloc] at hzwo
  obtain ⟨hcbwo, hfbwo, hzbwo⟩ := Ext.rules (show Ext w wo from (by repeat (first | exact Ext.refl _ | (refine Ext.alloc ?_ _) | (refine Ext.trans ?_ (by assumption)))))
  clear hcwo hfwo
  by_cases hlt : k < c.nk
  ·obtain ⟨b, off, rfl, hb, hc⟩ := hA (by omega)
   have hc' : ∀ j, j < c.nk → w.cell? ⟨b, off + j, none⟩ = some (.string (c.kg j)) := fun j hj => by simpa using hc j 0 _ hj rfl
   have c0 := hc' k hlt
   clear hc hA
   go_wp2
   go_loop [3, 27] (fun o i => ∃ j : Nat, j ≤ k ∧ i = .int .i64 j ∧ o = .bool (decide (1 ≤ (c.nk : Int)) && decide ((c.nk : Int) ≤ 40) && NameAll c.kg k) ∧ NotTo c.kg (c.kg k) j) (fun _ i => k - (intOf i).toNat)
   case atStart => exact ⟨0, Nat.zero_le _, rfl, rfl, fun j h => absurd h (by omega)⟩
   case round =>
    obtain ⟨j, hj, rfl, rfl, hT⟩ := hrel
    by_cases hlj : j < k
    ·have c1 := hc' j (by omega)
     go_wp2
     ·go_ret
      exact ⟨ret_bool (kingsOk_twin hlt hlj (same_yes ‹_›)).symm, (by repeat (first | exact Ext.refl _ | (refine Ext.alloc ?_ _) | (refine Ext.trans ?_ (by assumption))))⟩
     ·have hne := same_no (a := c.kg j) (b := c.kg k) ‹_›
      exact ⟨⟨j + 1, by omega, by go_num, rfl, notTo_snoc hT hne⟩, by simp [intOf]; omega⟩
    ·have hTk : NotTo c.kg (c.kg k) k := fun i hi => hT i (by omega)
     go_upto_region 11 with (fail)
     refine wp_region_xl w (by repeat (first | exact Ext.refl _ | (refine Ext.alloc ?_ _) | (refine Ext.trans ?_ (by assumption)))) ?_
     intro hne hrx hry
     try simp only []
     try simp only [List.append_eq, List.cons_append, List.nil_append]
     skip
     repeat (first
      | go_big_quiet_skip
      | ((with_reducible apply q_and)
         ·exact rfl
         ·exact rfl
         ·exact rfl
         intro K hK
         unfold Then; go_big_quiet_op; (with_reducible refine hK _ ?_); clear hK K)
      | ((with_reducible apply q_or)
         ·exact rfl
         ·exact rfl
         ·exact rfl
         intro K hK
         unfold Then; go_big_quiet_op; (with_reducible refine hK _ ?_); clear hK K)
      | (go_big_quiet_want; go_big_quiet_op; go_big_quiet_on)
      | (go_big_quiet_want; go_big_quiet_op; apply Exists.intro; refine ⟨fun u => ?_, ?_⟩
         ·first
           | (go_at_call 87; refine (isName_any _ _).mono ?_; rintro e w' ⟨rfl, rfl⟩; exact ⟨rfl, u, rfl⟩)
         go_big_quiet_on)
      | ((with_reducible apply q_and_g)
         ·first | exact wanted_pt rfl rfl rfl | exact wanted_pf rfl rfl rfl | exact wanted_gt rfl rfl rfl | exact wanted_gf rfl rfl rfl
         ·exact rfl
         ·exact rfl
         ·exact rfl
         intro K hK
         unfold Then; go_big_quiet_op; (with_reducible refine hK _ ?_); clear hK K)
      | ((with_reducible apply q_or_g)
         ·first | exact wanted_pt rfl rfl rfl | exact wanted_pf rfl rfl rfl | exact wanted_gt rfl rfl rfl | exact wanted_gf rfl rfl rfl
         ·exact rfl
         ·exact rfl
         ·exact rfl
         intro K hK
         unfold Then; go_big_quiet_op; (with_reducible refine hK _ ?_); clear hK K)
      | ((with_reducible apply q_sym)
         ·first | exact wanted_pt rfl rfl rfl | exact wanted_pf rfl rfl rfl | exact wanted_gt rfl rfl rfl | exact wanted_gf rfl rfl rfl
         apply Exists.intro
         refine And.intro (fun hgb => ?_) ?_
         ·intro u
          try simp at hgb
          go_simp
          try simp only [if_pos hsl]
          try simp only [if_pos (hin (by omega))]
          try (simp only [hd0 (by omega)]; go_simp)
          try (rw [hlook _ (Ext.trans (by repeat (first | exact Ext.refl _ | (refine Ext.alloc ?_ _) | (refine Ext.trans ?_ (by assumption)))) u.e) (hlk0 hgb)]; go_simp)
          first
           | (with_reducible exact rfl)
           | (go_at_call 87; refine (isName_any _ _).mono ?_; rintro e w' ⟨rfl, rfl⟩; exact ⟨rfl, u, rfl⟩)
         intro K hK
         unfold Then; go_big_quiet_op; (with_reducible refine hK _ ?_); clear hK K))
     clear hne hry hrx
     refine wpQuiet_nil ?_
     intro wn hwn
     obtain ⟨hcwn, hfwn, hzwn⟩ := Ext.rules hwn
     try simp only [World.size_alloc] at hzwn
     obtain ⟨hcbwn, hfbwn, hzbwn⟩ := Ext.rules (show Ext w wn from (by repeat (first | exact Ext.refl _ | (refine Ext.alloc ?_ _) | (refine Ext.trans ?_ (by assumption)))))
     clear hcwn hfwn
     go_wp2
     exact ⟨⟨k + 1, by omega, by go_num, by simp only [nameAll_snoc, Bool.and_assoc], noTwin_snoc hN hTk, (by repeat (first | exact Ext.refl _ | (refine Ext.alloc ?_ _) | (refine Ext.trans ?_ (by assumption))))⟩, by simp [intOf]; omega⟩
  ·go_wp2
   rw [Exit.noGoto_ret]
   go_ret
   exact ⟨ret_bool (by rw [kingsOk_apart (fun i j hj hi => hN i j hj (by omega)), show c.nk = k from by omega]), (by repeat (first | exact Ext.refl _ | (refine Ext.alloc ?_ _) | (refine Ext.trans ?_ (by assumption))))⟩
end Go.Proofs.YtneiofnlmblglaaGreatDoor
namespace Go.Proofs.YtneiofnlmblglaaGreatDoor
open Go Go.RowKit
attribute [local go_sem] gv_yes
def YearsTo (c : Cal) (k : Nat) : Prop := ∀ i, i < k → c.yearOk i = true
theorem hadTo_eq (c : Cal) (y : Yr) (k : Nat) : c.hadTo y k = hadF c.yr y k := rfl
theorem prevK_eq {c : Cal} {k : Nat} (h : YearsTo c k) : 0 ≤ c.prevK k ∧ (0 < k → c.prevK k = (c.yr (k - 1)).k) := by
 induction k with
 | zero => exact ⟨Int.le_refl _, fun h => absurd h (by omega)⟩
 | succ k ih =>
  have h1 := ih (fun i hi => h i (by omega))
  have h2 := h k (by omega)
  simp only [Cal.yearOk, Bool.and_eq_true, decide_eq_true_eq] at h2
  refine ⟨?_, fun _ => rfl⟩
  show 0 ≤ (c.yr k).k
  omega
theorem shape_eq (y : Yr) : y.shapeOk = !(decide (y.db < 0) || decide (12 < y.db) || decide (y.lg < 0) || decide (8191 < y.lg) || (y.db == 0 && decide (4096 ≤ y.lg))) := by
 rw [Yr.shapeOk, Bool.eq_iff_iff]; simp; omega
theorem valid_year {c : Cal} {k : Nat} (hk : k < c.ny) (h : c.yearOk k = false) : c.valid = false := by
 rw [Bool.eq_false_iff]; intro hh
 simp only [Cal.valid, Bool.and_eq_true, List.all_eq_true, List.mem_range] at hh
 rw [hh.2 k hk] at h; cases h
theorem to_snoc {p : Nat → Bool} {k : Nat} (h : ∀ i, i < k → p i = true) (hk : p k = true) : ∀ i, i < k + 1 → p i = true := fun i hi => by
 rcases Nat.lt_or_ge i k with h' | h'
 ·exact h i h'
 ·rw [show i = k from by omega]; exact hk
end Go.Proofs.YtneiofnlmblglaaGreatDoor
namespace Go.Proofs.YtneiofnlmblglaaGreatDoor
open Go Go.RowKit
open Go.Maps
theorem named_row : (194 : TypeId) < Tryz.prog.types.size := of_decide_eq_true (by kernel_rfl)
theorem named_wide : (match Tryz.prog.underlying 194 with | some (.array _ _) | some (.struct _) => true | _ => false) = true := by kernel_rfl
theorem prog_laidOut : laidOutB Tryz.prog = true := by kernel_rfl
theorem named_law : Keyed Tryz.prog 194 := Keyed.of_law (Go.deep_law_laid prog_laidOut (m := 2) (by omega) named_row (by kernel_rfl) named_wide)
theorem named_map : Tryz.prog.underlying 192 = some (.map 194 4) := by kernel_rfl
theorem named_zero (w : World) : (zeroValue 4).run Tryz.prog w = .ok (.bool false) w := by kernel_rfl
theorem bool_under : Tryz.prog.underlying 4 = some .bool := by kernel_rfl
def fsOf : Option TypeDesc → Array Field
 | some (.struct fs) => fs
 | _ => #[]
theorem named_under : Tryz.prog.underlying 194 = some (.struct (fsOf (Tryz.prog.underlying 194))) := by kernel_rfl
theorem named_fs : (fsOf (Tryz.prog.underlying 194)).toList.map (fun f => (f.type, f.offset)) = [(3, 0), (9, 1)] := by kernel_rfl
theorem named_names : (fsOf (Tryz.prog.underlying 194)).all (·.name != "_") = true := by kernel_rfl
theorem named_cells : Tryz.prog.cellsOf 194 = 2 := by kernel_rfl
theorem named_keyType : Tryz.prog.keyType 194 = true := by kernel_rfl
theorem types_size : ∃ m, Tryz.prog.types.size = m + 1 + 1 := by
 have h : (2 : Nat) ≤ Tryz.prog.types.size := Nat.le_trans (show (2 : Nat) ≤ 194 by decide) (Nat.le_of_lt named_row)
 exact ⟨Tryz.prog.types.size - 2, by omega⟩
/-- What the pair of a king's place and a name reads as. -/
def yrLit (k : Int) (nm : ByteArray) : Lit := .string (keyBytes [.int .i64 k, .string nm.data.toList])
theorem keyOf_named {k : Int} {nm : ByteArray} (hk : (Lit.int .i64 k).wf = true) (hn : nm.size ≤ maxLen) : keyOf Tryz.prog 194 (.agg #[.int .i64 k, .string nm]) = some (yrLit k nm) := by
 obtain ⟨m, hm⟩ := types_size
 have hf := named_fs
 have hN := named_names
 have hU := named_under
 generalize fsOf (Tryz.prog.underlying 194) = fs at hf hN hU
 obtain ⟨l⟩ := fs
 simp only [List.map_eq_cons_iff, List.map_eq_nil_iff] at hf
 obtain ⟨f0, _, rfl, e0, f1, _, rfl, e1, rfl⟩ := hf
 simp only [Prod.mk.injEq] at e0 e1
 unfold keyOf
 simp only [hU]
 rw [if_pos (by simp [named_keyType, Value.formed, hU, named_cells]), hm]
 unfold Program.keyLits
 simp only [hU, Value.cells]
 rw [if_pos ⟨by rw [named_cells]; rfl, hN⟩, List.mapM_cons, List.mapM_cons, List.mapM_nil]
 rw [e0.1, e0.2, e1.1, e1.2]
 have c3 : Tryz.prog.cellsOf 3 = 1 := by kernel_rfl
 have c9 : Tryz.prog.cellsOf 9 = 1 := by kernel_rfl
 simp [c3, c9, Program.keyLits, hk, hn, yrLit]
/-- What the map holds after the first n years. -/
def hadD {H : Type} (f : Nat → Yr) : Nat → DataW H
 | 0 => .map []
 | n + 1 => (hadD f n).put (yrLit (f n).k (f n).nm) (.lit (.bool true))
theorem hadD_isMap {H : Type} (f : Nat → Yr) : ∀ n, IsMap (hadD (H := H) f n)
 | 0 => isMap_empty
 | n + 1 => (hadD_isMap f n).put _ _
def KeyOk (y : Yr) : Prop := (Lit.int .i64 y.k).wf = true ∧ y.nm.size ≤ maxLen
theorem hadD_at {H : Type} {f : Nat → Yr} {y : Yr} (hy : KeyOk y) : ∀ n, (∀ j, j < n → KeyOk (f j)) → (hadD (H := H) f n).atKey (yrLit y.k y.nm) (.lit (.bool false)) = .lit (.bool (hadF f y n))
 | 0, _ => rfl
 | n + 1, h => by
  have ih := hadD_at (H := H) hy n (fun j hj => h j (by omega))
  have kf := keyOf_named (h n (by omega)).1 (h n (by omega)).2
  have ky := keyOf_named hy.1 hy.2
  have e : hadF f y (n + 1) = (hadF f y n || (f n).alike y) := by rw [hadF, hadF, List.range_succ, List.any_append]; simp
  rw [e]
  by_cases he : (f n).alike y = true
  ·have h1 : (f n).k = y.k ∧ (f n).nm = y.nm := by simpa [Yr.alike] using he
   rw [he, Bool.or_true, hadD, h1.1, h1.2]
   exact atKey_put_same (hadD_isMap f n) (named_law.key ky) _ _
  ·rw [Bool.not_eq_true] at he
   rw [he, Bool.or_false, ← ih, hadD]
   refine atKey_put_other (fun hl => ?_) _ _
   have h2 := named_law.inj ky (by rw [hl]; exact kf)
   simp at h2
   rw [Yr.alike, h2.1, h2.2] at he
   simp at he
/-- The lookup in the walk. -/
theorem had_look {H : Type} {w : World} {b m n : Nat} {f : Nat → Yr} {y : Yr} (hm : w.ownsMap Tryz.prog 194 (plainElem (H := H) Tryz.prog 4) b m (hadD f n)) (hy : KeyOk y) (hf : ∀ j, j < n → KeyOk (f j)) :
  (Instr.lookup 192 (.map (some b)) (.agg #[.int .i64 y.k, .string y.nm]) false).run Tryz.prog w = .ok (.bool (hadF f y n)) w := by
 obtain ⟨v, ps, hrun, hv⟩ := hm.lookup named_law named_map (named_zero w) (plainElem_bool bool_under false) (keyOf_named hy.1 hy.2)
 rw [hadD_at hy n hf] at hv
 rw [hrun]
 simp only [plainElem, bool_under] at hv
 split at hv <;> simp_all
end Go.Proofs.YtneiofnlmblglaaGreatDoor
namespace Go.Proofs.YtneiofnlmblglaaGreatDoor
open Go Go.RowKit
open Go.Maps
attribute [local go_sem] gv_yes
theorem ownsMap_ext {H : Type} {P : Program} {k : TypeId} {R : Value → Option (DataW H × List MemPlace)} {w w' : World} {b n : Nat} {D : DataW H} (h : w.ownsMap P k R b n D) (e : Ext w w') : w'.ownsMap P k R b n D := by
 have hlt := h.lt
 obtain ⟨es, clock, hb, F, hs, hD⟩ := h
 exact ⟨es, clock, (e.block hlt).trans hb, F, hs, hD⟩
theorem keyOk_of {y : Yr} {n : Int} (h0 : 0 ≤ y.k) (h1 : y.k < n) (hn : n ≤ 9223372036854775807) (hs : isName y.nm = true) : KeyOk y := by
 refine ⟨?_, ?_⟩
 ·simp [Lit.wf, IntKind.min, IntKind.max, IntKind.signed, IntKind.bits]; omega
 ·simp only [isName, Bool.and_eq_true, decide_eq_true_eq] at hs
  have : maxLen = 9223372036854775807 := rfl
  omega
theorem prevK_nn {c : Cal} {k : Nat} (h : YearsTo c k) : 0 ≤ c.prevK k := (prevK_eq h).1
theorem keyOk_to {c : Cal} {k : Nat} (h : YearsTo c k) (hn : c.nk ≤ 9223372036854775807) : ∀ j, j < k → KeyOk (c.yr j) := fun j hj => by
 have h1 := h j hj
 have h2 := prevK_nn (c := c) (k := j) (fun i hi => h i (by omega))
 simp only [Cal.yearOk, Bool.and_eq_true, decide_eq_true_eq] at h1
 exact keyOk_of (n := c.nk) (by omega) (by omega) (by omega) (by simp_all)
theorem yearOk_go (c : Cal) (k : Nat) : c.yearOk k =
  !(decide ((c.yr k).k < c.prevK k) || decide ((c.nk : Int) ≤ (c.yr k).k) || !isName (c.yr k).nm || hadF c.yr (c.yr k) k || decide ((c.yr k).db < 0) || decide (12 < (c.yr k).db) || decide ((c.yr k).lg < 0) || decide (8191 < (c.yr k).lg) || ((c.yr k).db == 0 && decide (4096 ≤ (c.yr k).lg))) := by
 rw [Cal.yearOk, hadTo_eq, shape_eq, Bool.eq_iff_iff]
 cases isName (c.yr k).nm <;> cases hadF c.yr (c.yr k) k <;> simp <;> omega
theorem valid_size' {c : Cal} (h : (!c.kingsOk || decide ((c.ny : Int) < 1) || decide (400 < (c.ny : Int))) = true) : c.valid = false := by
 rw [Bool.eq_false_iff]; intro hh
 simp only [Cal.valid, Bool.and_eq_true, decide_eq_true_eq] at hh
 simp only [Bool.or_eq_true, decide_eq_true_eq, Bool.not_eq_true'] at h
 rcases h with (h | h) | h
 ·rw [hh.1.1.1] at h; cases h
 ·omega
 ·omega
theorem valid_yes' {c : Cal} (h : (!c.kingsOk || decide ((c.ny : Int) < 1) || decide (400 < (c.ny : Int))) = false) (hy : YearsTo c c.ny) : c.valid = true := by
 simp only [Bool.or_eq_false_iff, decide_eq_false_iff_not, Bool.not_eq_false'] at h
 simp only [Cal.valid, Bool.and_eq_true, List.all_eq_true, List.mem_range, decide_eq_true_eq]
 exact ⟨⟨⟨h.1.1, by omega⟩, by omega⟩, hy⟩
theorem valid_any (A A' : Option Addr) (ca cb : Nat) (c : Cal) (w : World) (hC : CalAt w A ca A' cb c) :
  Calls Tryz.prog 125 #[.agg #[.slice A c.nk ca, .slice A' c.ny cb]] w fun e w' => e = .returned (.bool c.valid) ∧ Ext w w' := by
 have hnk := hC.nk_le
 have hny := hC.ny_le
 have hcapk := hC.nk_cap
 have hcapy := hC.ny_cap
 have hmm := @run_makeMap Tryz.prog
 go_enter Tryz.func125, Tryz.ntmps125
 go_upto_region 1 with (fail)
 refine wp_region_xl w (by repeat (first | exact Ext.refl _ | (refine Ext.alloc ?_ _) | (refine Ext.trans ?_ (by assumption)))) ?_
 intro hne hrx hry
 try simp only []
 try simp only [List.append_eq, List.cons_append, List.nil_append]
 have hrx0 := fun u o => hrx u (w.heap.size) o (by first | omega | (simp; done) | (simp; omega))
 skip
 repeat (first
  | go_big_quiet_skip
  | ((with_reducible apply q_and)
     ·exact rfl
     ·exact rfl
     ·exact rfl
     intro K hK
     unfold Then; go_big_quiet_op; (with_reducible refine hK _ ?_); clear hK K)
  | ((with_reducible apply q_or)
     ·exact rfl
     ·exact rfl
     ·exact rfl
     intro K hK
     unfold Then; go_big_quiet_op; (with_reducible refine hK _ ?_); clear hK K)
  | (go_big_quiet_want; go_big_quiet_op; go_big_quiet_on)
  | (go_big_quiet_want; go_big_quiet_op; apply Exists.intro; refine ⟨fun u => ?_, ?_⟩
     ·first
       | (go_at_call 138; refine (validKings_any _ _ c _ (hC.kings.ext (Ext.trans (by repeat (first | exact Ext.refl _ | (refine Ext.alloc ?_ _) | (refine Ext.trans ?_ (by assumption)))) u.e)) (by omega) (by omega)).mono ?_; rintro e w' ⟨rfl, hb⟩; exact ⟨rfl, u.back hb⟩)
     go_big_quiet_on)
  | ((with_reducible apply q_and_g)
     ·first | exact wanted_pt rfl rfl rfl | exact wanted_pf rfl rfl rfl | exact wanted_gt rfl rfl rfl | exact wanted_gf rfl rfl rfl
     ·exact rfl
     ·exact rfl
     ·exact rfl
     intro K hK
     unfold Then; go_big_quiet_op; (with_reducible refine hK _ ?_); clear hK K)
  | ((with_reducible apply q_or_g)
     ·first | exact wanted_pt rfl rfl rfl | exact wanted_pf rfl rfl rfl | exact wanted_gt rfl rfl rfl | exact wanted_gf rfl rfl rfl
     ·exact rfl
     ·exact rfl
     ·exact rfl
     intro K hK
     unfold Then; go_big_quiet_op; (with_reducible refine hK _ ?_); clear hK K)
  | ((with_reducible apply q_sym)
     ·first | exact wanted_pt rfl rfl rfl | exact wanted_pf rfl rfl rfl | exact wanted_gt rfl rfl rfl | exact wanted_gf rfl rfl rfl
     apply Exists.intro
     refine And.intro (fun hgb => ?_) ?_
     ·intro u
      try simp at hgb
      go_simp
      try simp only [if_pos hsl]
      try simp only [if_pos (hin (by omega))]
      try (simp only [hd0 (by omega)]; go_simp)
      try (rw [hlook _ (Ext.trans (by repeat (first | exact Ext.refl _ | (refine Ext.alloc ?_ _) | (refine Ext.trans ?_ (by assumption)))) u.e) (hlk0 hgb)]; go_simp)
      first
       | (with_reducible exact rfl)
       | (go_at_call 138; refine (validKings_any _ _ c _ (hC.kings.ext (Ext.trans (by repeat (first | exact Ext.refl _ | (refine Ext.alloc ?_ _) | (refine Ext.trans ?_ (by assumption)))) u.e)) (by omega) (by omega)).mono ?_; rintro e w' ⟨rfl, hb⟩; exact ⟨rfl, u.back hb⟩)
     intro K hK
     unfold Then; go_big_quiet_op; (with_reducible refine hK _ ?_); clear hK K))
 clear hne hry hrx hrx0
 refine wpQuiet_nil ?_
 intro wq hq
 obtain ⟨hcwq, hfwq, hzwq⟩ := Ext.rules hq
 try simp only [World.size_alloc] at hzwq
 have hk0wq := fun o => hcwq (w.heap.size) o (by first | omega | (simp; done) | (simp; omega))
 have hj0wq := fun o => hfwq (w.heap.size) o (by first | omega | (simp; done) | (simp; omega))
 have hl0wq : w.heap.size < wq.heap.size := (by first | omega | (simp; done) | (simp; omega))
 obtain ⟨hcbwq, hfbwq, hzbwq⟩ := Ext.rules (show Ext w wq from (by repeat (first | exact Ext.refl _ | (refine Ext.alloc ?_ _) | (refine Ext.trans ?_ (by assumption)))))
 clear hcwq hfwq
 generalize hf : (!c.kingsOk || decide ((c.ny : Int) < 1) || decide (400 < (c.ny : Int))) = f at *
 have HF : Hid (_ = f) := hf
 clear hf
 cases f
 ·go_wp2
  have hB0 : Ext (w.alloc (.cells #[.slice A c.nk ca, .slice A' c.ny cb] 25)) wq := hq
  go_loopw [4, 27] (fun kg i wr => ∃ k : Nat, k ≤ c.ny ∧ i = .int .i64 k ∧ kg = .int .i64 (c.prevK k) ∧ YearsTo c k ∧ Ext (w.alloc (.cells #[.slice A c.nk ca, .slice A' c.ny cb] 25)) wr ∧
   wr.ownsMap Tryz.prog 194 (plainElem (H := Unit) Tryz.prog 4) wq.heap.size k (hadD c.yr k)) (fun _ i _ => c.ny - (intOf i).toNat)
  case atStart => exact ⟨0, Nat.zero_le _, rfl, rfl, (fun i h => absurd h (by omega)), Ext.alloc hq _, World.ownsMap_made _ _ _ _⟩
  case round =>
   obtain ⟨k, hk, rfl, rfl, hY, hB, hM⟩ := hrel
   clear hzwq hk0wq hj0wq hl0wq hcbwq hfbwq hzbwq
   obtain ⟨wo, rfl⟩ := zgE wr
   obtain ⟨hcwo, hfwo, hzwo⟩ := Ext.rules hB
   try simp only [World.size_alloc] at hzwo
   have hk0wo := fun o => hcwo (w.heap.size) o (by first | omega | (simp; done) | (simp; omega))
   have hj0wo := fun o => hfwo (w.heap.size) o (by first | omega | (simp; done) | (simp; omega))
   have hl0wo : w.heap.size < wo.heap.size := (by first | omega | (simp; done) | (simp; omega))
   obtain ⟨hcbwo, hfbwo, hzbwo⟩ := Ext.rules (show Ext w wo from (by repeat (first | exact Ext.refl _ | (refine Ext.alloc ?_ _) | (refine Ext.trans ?_ (by assumption)))))
   clear hcwo hfwo
   by_cases hlt : k < c.ny
   ·obtain ⟨b, off, rfl, hb, c0, c1, c2, c3⟩ := hC.year hlt
    have HY : Hid (c.yearOk k = _) := yearOk_go c k
    have hbo : b < wo.heap.size := by omega
    have h0 := prevK_nn hY
    have hlook : ∀ w', Ext wo w' → KeyOk (c.yr k) → (Instr.lookup 192 (.map (some wq.heap.size)) (.agg #[.int .i64 (c.yr k).k, .string (c.yr k).nm]) false).run Tryz.prog w' = .ok (.bool (hadF c.yr (c.yr k) k)) w' :=
     fun w' e hy => had_look (ownsMap_ext hM e) hy (keyOk_to hY hnk)
    have hlk0 : (c.prevK k ≤ (c.yr k).k ∧ (c.yr k).k < c.nk) ∧ isName (c.yr k).nm = true → KeyOk (c.yr k) := fun h => keyOk_of (by omega) h.1.2 (by omega) h.2
    go_upto_region 8 with (fail)
    refine wp_region_xl wo (by repeat (first | exact Ext.refl _ | (refine Ext.alloc ?_ _) | (refine Ext.trans ?_ (by assumption)))) ?_
    intro hne hrx hry
    try simp only []
    try simp only [List.append_eq, List.cons_append, List.nil_append]
    have hrx0 := fun u o => hrx u (wo.heap.size) o (by first | omega | (simp; done) | (simp; omega))
    skip
    repeat (first
     | go_big_quiet_skip
     | ((with_reducible apply q_and)
        ·exact rfl
        ·exact rfl
        ·exact rfl
        intro K hK
        unfold Then; go_big_quiet_op; (with_reducible refine hK _ ?_); clear hK K)
     | ((with_reducible apply q_or)
        ·exact rfl
        ·exact rfl
        ·exact rfl
        intro K hK
        unfold Then; go_big_quiet_op; (with_reducible refine hK _ ?_); clear hK K)
     | (go_big_quiet_want; go_big_quiet_op; go_big_quiet_on)
     | (go_big_quiet_want; go_big_quiet_op; apply Exists.intro; refine ⟨fun u => ?_, ?_⟩
        ·first
          | (go_at_call 87; refine (isName_any _ _).mono ?_; rintro e w' ⟨rfl, rfl⟩; exact ⟨rfl, u, rfl⟩)
        go_big_quiet_on)
     | ((with_reducible apply q_and_g)
        ·first | exact wanted_pt rfl rfl rfl | exact wanted_pf rfl rfl rfl | exact wanted_gt rfl rfl rfl | exact wanted_gf rfl rfl rfl
        ·exact rfl
        ·exact rfl
        ·exact rfl
        intro K hK
        unfold Then; go_big_quiet_op; (with_reducible refine hK _ ?_); clear hK K)
     | ((with_reducible apply q_or_g)
        ·first | exact wanted_pt rfl rfl rfl | exact wanted_pf rfl rfl rfl | exact wanted_gt rfl rfl rfl | exact wanted_gf rfl rfl rfl
        ·exact rfl
        ·exact rfl
        ·exact rfl
        intro K hK
        unfold Then; go_big_quiet_op; (with_reducible refine hK _ ?_); clear hK K)
     | ((with_reducible apply q_sym)
        ·first | exact wanted_pt rfl rfl rfl | exact wanted_pf rfl rfl rfl | exact wanted_gt rfl rfl rfl | exact wanted_gf rfl rfl rfl
        apply Exists.intro
        refine And.intro (fun hgb => ?_) ?_
        ·intro u
         try simp at hgb
         go_simp
         try simp only [if_pos hsl]
         try simp only [if_pos (hin (by omega))]
         try (simp only [hd0 (by omega)]; go_simp)
         try (rw [hlook _ (Ext.trans (by repeat (first | exact Ext.refl _ | (refine Ext.alloc ?_ _) | (refine Ext.trans ?_ (by assumption)))) u.e) (hlk0 hgb)]; go_simp)
         first
          | (with_reducible exact rfl)
          | (go_at_call 87; refine (isName_any _ _).mono ?_; rintro e w' ⟨rfl, rfl⟩; exact ⟨rfl, u, rfl⟩)
        intro K hK
        unfold Then; go_big_quiet_op; (with_reducible refine hK _ ?_); clear hK K))
    clear hne hry hrx hrx0
    refine wpQuiet_nil ?_
    intro wn hwn
    obtain ⟨hcwn, hfwn, hzwn⟩ := Ext.rules hwn
    try simp only [World.size_alloc] at hzwn
    have hk0wn := fun o => hcwn (wo.heap.size) o (by first | omega | (simp; done) | (simp; omega))
    have hj0wn := fun o => hfwn (wo.heap.size) o (by first | omega | (simp; done) | (simp; omega))
    have hl0wn : wo.heap.size < wn.heap.size := (by first | omega | (simp; done) | (simp; omega))
    obtain ⟨hcbwn, hfbwn, hzbwn⟩ := Ext.rules (show Ext wo wn from (by repeat (first | exact Ext.refl _ | (refine Ext.alloc ?_ _) | (refine Ext.trans ?_ (by assumption)))))
    clear hcwn hfwn
    generalize hs : (decide ((c.yr k).k < c.prevK k) || decide ((c.nk : Int) ≤ (c.yr k).k) || !isName (c.yr k).nm || hadF c.yr (c.yr k) k || decide ((c.yr k).db < 0) || decide (12 < (c.yr k).db) || decide ((c.yr k).lg < 0) || decide (8191 < (c.yr k).lg) || ((c.yr k).db == 0 && decide (4096 ≤ (c.yr k).lg))) = s at *
    have HS : Hid (c.yearOk k = !s) := HY.out
    clear hs HY
    cases s
    ·have hY1 : YearsTo c (k + 1) := to_snoc hY HS.out
     have hyk : KeyOk (c.yr k) := keyOk_to hY1 hnk k (by omega)
     have hMn := ownsMap_ext hM (w' := wn) (Ext.trans (by repeat (first | exact Ext.refl _ | (refine Ext.alloc ?_ _) | (refine Ext.trans ?_ (by assumption)))) hwn)
     obtain ⟨w1, hrun1, hM1, hg1⟩ := hMn.update named_law named_map (show k < 9223372036854775807 by omega) (keyOf_named hyk.1 hyk.2) (plainElem_bool bool_under true)
     have hsz : (w.alloc (.cells #[.slice A c.nk ca, .slice (some ⟨b, off, none⟩) c.ny cb] 25)).heap.size ≤ wq.heap.size := hB0.size
     have hE1 : Ext (w.alloc (.cells #[.slice A c.nk ca, .slice (some ⟨b, off, none⟩) c.ny cb] 25)) w1 := Ext.grown (w := wn) (by repeat (first | exact Ext.refl _ | (refine Ext.alloc ?_ _) | (refine Ext.trans ?_ (by assumption)))) hg1 (fun j hj => by cases hj; exact hsz)
     go_wp2
     exact ⟨⟨k + 1, by omega, by go_num, rfl, hY1, hE1, hM1⟩, by simp [intOf]; omega⟩
    ·go_wp2
     go_ret
     exact ⟨ret_bool (valid_year hlt HS.out).symm, (by repeat (first | exact Ext.refl _ | (refine Ext.alloc ?_ _) | (refine Ext.trans ?_ (by assumption))))⟩
   ·have hY' : YearsTo c c.ny := fun i hi => hY i (by omega)
    go_wp2
    go_ret
    exact ⟨ret_bool (valid_yes' HF.out hY').symm, (by repeat (first | exact Ext.refl _ | (refine Ext.alloc ?_ _) | (refine Ext.trans ?_ (by assumption))))⟩
 ·go_wp2
  go_ret
  exact ⟨ret_bool (valid_size' HF.out).symm, (by repeat (first | exact Ext.refl _ | (refine Ext.alloc ?_ _) | (refine Ext.trans ?_ (by assumption))))⟩
end Go.Proofs.YtneiofnlmblglaaGreatDoor
namespace Go.Proofs.YtneiofnlmblglaaGreatDoor
open Go Go.RowKit
attribute [local go_sem] gv_yes
theorem chk_yes {c : Cal} (h : c.valid = true) : c.chk = 0 := by simp [Cal.chk, h]
theorem chk_no {c : Cal} (h : c.valid = false) : c.chk = 70 := by simp [Cal.chk, h]
set_option maxHeartbeats 1000000 in
theorem check_any (A A' : Option Addr) (ca cb : Nat) (c : Cal) (w : World) (hC : CalAt w A ca A' cb c) :
  Calls Tryz.prog 100 #[.agg #[.slice A c.nk ca, .slice A' c.ny cb]] w fun e w' => e = .returned (.int .i64 c.chk) ∧ Ext w w' := by
 go_enter Tryz.func100, Tryz.ntmps100
 go_upto_region 1 with (fail)
 refine wp_region_xl w (by repeat (first | exact Ext.refl _ | (refine Ext.alloc ?_ _) | (refine Ext.trans ?_ (by assumption)))) ?_
 intro hne hrx hry
 try simp only []
 try simp only [List.append_eq, List.cons_append, List.nil_append]
 have hrx0 := fun u o => hrx u (w.heap.size) o (by first | omega | (simp; done) | (simp; omega))
 skip
 repeat (first
  | go_big_quiet_skip
  | ((with_reducible apply q_and)
     ·exact rfl
     ·exact rfl
     ·exact rfl
     intro K hK
     unfold Then; go_big_quiet_op; (with_reducible refine hK _ ?_); clear hK K)
  | ((with_reducible apply q_or)
     ·exact rfl
     ·exact rfl
     ·exact rfl
     intro K hK
     unfold Then; go_big_quiet_op; (with_reducible refine hK _ ?_); clear hK K)
  | (go_big_quiet_want; go_big_quiet_op; go_big_quiet_on)
  | (go_big_quiet_want; go_big_quiet_op; apply Exists.intro; refine ⟨fun u => ?_, ?_⟩
     ·first
       | (go_at_call 125; refine (valid_any _ _ _ _ c _ (hC.ext (Ext.trans (by repeat (first | exact Ext.refl _ | (refine Ext.alloc ?_ _) | (refine Ext.trans ?_ (by assumption)))) u.e))).mono ?_; rintro e w' ⟨rfl, hb⟩; exact ⟨rfl, u.back hb⟩)
     go_big_quiet_on)
  | ((with_reducible apply q_and_g)
     ·first | exact wanted_pt rfl rfl rfl | exact wanted_pf rfl rfl rfl | exact wanted_gt rfl rfl rfl | exact wanted_gf rfl rfl rfl
     ·exact rfl
     ·exact rfl
     ·exact rfl
     intro K hK
     unfold Then; go_big_quiet_op; (with_reducible refine hK _ ?_); clear hK K)
  | ((with_reducible apply q_or_g)
     ·first | exact wanted_pt rfl rfl rfl | exact wanted_pf rfl rfl rfl | exact wanted_gt rfl rfl rfl | exact wanted_gf rfl rfl rfl
     ·exact rfl
     ·exact rfl
     ·exact rfl
     intro K hK
     unfold Then; go_big_quiet_op; (with_reducible refine hK _ ?_); clear hK K)
  | ((with_reducible apply q_sym)
     ·first | exact wanted_pt rfl rfl rfl | exact wanted_pf rfl rfl rfl | exact wanted_gt rfl rfl rfl | exact wanted_gf rfl rfl rfl
     apply Exists.intro
     refine And.intro (fun hgb => ?_) ?_
     ·intro u
      try simp at hgb
      go_simp
      try simp only [if_pos hsl]
      try simp only [if_pos (hin (by omega))]
      try (simp only [hd0 (by omega)]; go_simp)
      try (rw [hlook _ (Ext.trans (by repeat (first | exact Ext.refl _ | (refine Ext.alloc ?_ _) | (refine Ext.trans ?_ (by assumption)))) u.e) (hlk0 hgb)]; go_simp)
      first
       | (with_reducible exact rfl)
       | (go_at_call 125; refine (valid_any _ _ _ _ c _ (hC.ext (Ext.trans (by repeat (first | exact Ext.refl _ | (refine Ext.alloc ?_ _) | (refine Ext.trans ?_ (by assumption)))) u.e))).mono ?_; rintro e w' ⟨rfl, hb⟩; exact ⟨rfl, u.back hb⟩)
     intro K hK
     unfold Then; go_big_quiet_op; (with_reducible refine hK _ ?_); clear hK K))
 clear hne hry hrx hrx0
 refine wpQuiet_nil ?_
 intro wq hq
 obtain ⟨hcwq, hfwq, hzwq⟩ := Ext.rules hq
 try simp only [World.size_alloc] at hzwq
 have hk0wq := fun o => hcwq (w.heap.size) o (by first | omega | (simp; done) | (simp; omega))
 have hj0wq := fun o => hfwq (w.heap.size) o (by first | omega | (simp; done) | (simp; omega))
 have hl0wq : w.heap.size < wq.heap.size := (by first | omega | (simp; done) | (simp; omega))
 obtain ⟨hcbwq, hfbwq, hzbwq⟩ := Ext.rules (show Ext w wq from (by repeat (first | exact Ext.refl _ | (refine Ext.alloc ?_ _) | (refine Ext.trans ?_ (by assumption)))))
 clear hcwq hfwq
 generalize hv : c.valid = v at *
 cases v
 ·go_wp2
  go_ret
  exact ⟨ret_int (chk_no hv).symm, (by repeat (first | exact Ext.refl _ | (refine Ext.alloc ?_ _) | (refine Ext.trans ?_ (by assumption))))⟩
 ·go_wp2
  go_ret
  exact ⟨ret_int (chk_yes hv).symm, (by repeat (first | exact Ext.refl _ | (refine Ext.alloc ?_ _) | (refine Ext.trans ?_ (by assumption))))⟩
end Go.Proofs.YtneiofnlmblglaaGreatDoor
