/- A region that draws its order, by steps: operations that leave the world are taken first; at a fork each of two operations. No program in sight; no conditions. -/
import Derived.Test.YtfchchmmjabjnaaDoorRg
namespace Go.Proofs.YtfchchmmjabjnaaDoor
open Go Go.RowKit

section
variable {P : Program} {ops : Array Oper} {md : Region.Mode} {C : World → Prop} {R : Act → World → Prop}
def stillKs (md : Region.Mode) (ops : Array Oper) : List Nat → Array Bool → Bool
  | [], _ => true
  | k :: ks, L => (Region.ready md ops L).contains k && Region.free md ops L k && stillKs md ops ks (L.setIfInBounds k true)
def setAll : List Nat → Array Bool → Array Bool
  | [], L => L
  | k :: ks, L => setAll ks (L.setIfInBounds k true)
def sizesB (a : Act) (l : List Oper) : Bool := l.all fun o => match o.dst with | some d => decide (d < a.tmps.size) | none => true
theorem any_stills_go {W : World} {A : Act} {g : Nat} (hs : Region.noSelect ops = true) : ∀ (ks : List Nat) (l : List Oper) (L : Array Bool) (a : Act) (w : World), l.map some = ks.map (fun k => ops[k]?) → dstsB l = true → sizesB a l = true →
    stillKs md ops ks L = true → Ext W w → (∀ u : XW W, wpQuiet P ops (fun w' => w' = u.w) (fun a' => a' = A) l a) → wpAnyC P md ops (Ext W) R g (setAll ks L) A w → wpAnyC P md ops (Ext W) R (l.length + g) L a w
  | [], [], L, a, w, _, _, _, _, _, h, H => by
    have e : a = A := h ⟨W, Ext.refl W⟩
    subst e
    rw [List.length_nil, Nat.zero_add]
    exact H
  | k :: ks, o :: l, L, a, w, hl, hd, hz, hB, hw, h, H => by
    simp only [List.map_cons, List.cons.injEq] at hl
    have h0 : ops[k]? = some o := hl.1.symm
    simp only [stillKs, Bool.and_eq_true] at hB
    obtain ⟨⟨hr, hf⟩, hB'⟩ := hB
    have hzo := hz
    simp only [sizesB, List.all_cons, Bool.and_eq_true] at hzo
    obtain ⟨v, hy, hn⟩ := still_vals hd (fun d he => by have := hzo.1; rw [he] at this; simpa using this) h
    have hd' : dstsB l = true := by simp only [dstsB, Bool.and_eq_true] at hd; exact hd.2
    have hsz : (a.put o.dst v).tmps.size = a.tmps.size := by cases o.dst <;> simp [Act.put]
    rw [show (o :: l).length + g = (l.length + g) + 1 by simp only [List.length_cons]; omega]
    exact wpAnyC_first h0 (Region.noSelect_spec hs) _ L a w (Region.free_spec h0 hf) (by simpa using hr) hw hy
      (any_stills_go hs ks l _ _ w hl.2 hd' (by unfold sizesB; rw [hsz]; exact hzo.2) hB' hw hn H)
  | [], _ :: _, _, _, _, hl, _, _, _, _, _, _ => by simp at hl
  | _ :: _, [], _, _, _, hl, _, _, _, _, _, _ => by simp at hl
def Picks (ops : Array Oper) : List Nat → List Oper → Prop
  | [], [] => True
  | k :: ks, o :: l => ops[k]? = some o ∧ Picks ops ks l
  | _, _ => False
theorem picks_map : ∀ {ks : List Nat} {l : List Oper}, Picks ops ks l → l.map some = ks.map (fun k => ops[k]?)
  | [], [], _ => rfl
  | k :: ks, o :: l, h => by rw [List.map_cons, List.map_cons, h.1, picks_map h.2]
  | [], _ :: _, h => h.elim
  | _ :: _, [], h => h.elim
theorem any_stills {W : World} {g f : Nat} {L : Array Bool} {a : Act} {w : World} (ks : List Nat) (l : List Oper) (hl : Picks ops ks l) (hB : (Region.noSelect ops && dstsB l && stillKs md ops ks L && decide (f = l.length + g)) = true) (hz : sizesB a l = true) (hw : Ext W w)
    (h : ∃ A, (∀ u : XW W, wpQuiet P ops (fun w' => w' = u.w) (fun a' => a' = A) l a) ∧ wpAnyC P md ops (Ext W) R g (setAll ks L) A w) : wpAnyC P md ops (Ext W) R f L a w := by
  obtain ⟨A, h1, h2⟩ := h
  simp only [Bool.and_eq_true, decide_eq_true_eq] at hB
  obtain ⟨⟨⟨hs, hd⟩, hk⟩, rfl⟩ := hB
  exact any_stills_go hs ks l L a w (picks_map hl) hd hz hk hw h1 h2
theorem any_one {f : Nat} {L : Array Bool} {a : Act} {w : World} {o : Oper} (k : Nat) (ho : ops[k]? = some o) (hB : decide (Region.ready md ops L = [k]) = true)
    (h : wpList P ops (onQ fun a' w' => C w' ∧ wpAnyC P md ops C R f (L.setIfInBounds k true) a' w') [o] a w) : wpAnyC P md ops C R (f + 1) L a w := by
  have hB := of_decide_eq_true hB
  refine ⟨fun h => (by rw [hB] at h; cases h), fun j hj => ?_⟩
  rw [hB, List.mem_singleton] at hj
  subst hj
  exact wpOp_onQ (wpOp_of_list1 ho h)
theorem any_fork {f : Nat} {L : Array Bool} {a : Act} {w : World} {o1 o2 : Oper} (k1 k2 : Nat) (h1 : ops[k1]? = some o1) (h2 : ops[k2]? = some o2) (hB : decide (Region.ready md ops L = [k1, k2]) = true)
    (ha : wpList P ops (onQ fun a' w' => C w' ∧ wpAnyC P md ops C R f (L.setIfInBounds k1 true) a' w') [o1] a w)
    (hb : wpList P ops (onQ fun a' w' => C w' ∧ wpAnyC P md ops C R f (L.setIfInBounds k2 true) a' w') [o2] a w) : wpAnyC P md ops C R (f + 1) L a w := by
  have hB := of_decide_eq_true hB
  refine ⟨fun h => (by rw [hB] at h; cases h), fun j hj => ?_⟩
  rw [hB] at hj
  rcases List.mem_cons.1 hj with rfl | hj
  · exact wpOp_onQ (wpOp_of_list1 h1 ha)
  · rw [List.mem_singleton] at hj
    subst hj
    exact wpOp_onQ (wpOp_of_list1 h2 hb)
theorem any_done {L : Array Bool} {a : Act} {w : World} (hB : decide (Region.ready md ops L = []) = true) (h : R a w) : wpAnyC P md ops C R 0 L a w := ⟨of_decide_eq_true hB, h⟩
end
theorem wp_region_steps {P : Program} {id : Nat} {Q : Exit → Act → World → Prop} {a : Act} {w : World} {l : List Oper} (n : Nat) (w₀ : World) (hm : P.follows .mixedOrders = true) (hn : n = l.length) (he : Ext w₀ w)
    (h : Nonempty (XW w) → (∀ (u : XW w) b o, b < w.heap.size → u.w.cell? ⟨b, o, none⟩ = w.cell? ⟨b, o, none⟩) → (∀ (u : XW w) b o, b < w₀.heap.size → u.w.cell? ⟨b, o, none⟩ = w₀.cell? ⟨b, o, none⟩) →
      ∀ w', Ext w w' → wpAnyC P .any l.toArray (Ext w) (fun a w => Q .normal a w) n (Array.replicate n false) a w') : (Code.region id l.toArray true).wp P Q a w := by
  have H := h (XW.some w) (fun u => u.cell) (fun u => u.from he) { w with drawn := w.drawn + 1 } ⟨rfl, rfl, rfl, Nat.le_refl _, fun _ _ => rfl⟩
  refine Code.wp_mono (Q := onQ fun a w => Q .normal a w) (fun e a' w' h' => by cases e <;> first | exact h' | exact False.elim h') (wp_region_any hm (wpAny_of_C (C := Ext w) _ _ _ _ ?_))
  subst hn
  simpa using H
end Go.Proofs.YtfchchmmjabjnaaDoor
