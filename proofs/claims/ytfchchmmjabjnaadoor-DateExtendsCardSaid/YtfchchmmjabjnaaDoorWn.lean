/- A loop over a calendar's months; the walk of number. -/
import Derived.Test.YtfchchmmjabjnaaDoorWm
import Derived.Test.YtfchchmmjabjnaaDoorEq
import Derived.Test.YtfchchmmjabjnaaDoorW9
import Derived.Sort.CutIn
import Derived.Shelf.Abstract
import Derived.Shelf.RegionOpen
namespace Go.Proofs.YtfchchmmjabjnaaDoor
open Go Go.RowKit Go.Shelf
attribute [local go_sem] Oper.semAt_some gv_yes
attribute [local go_sem high] eql_month

theorem Ext.putObj {W w : World} (h : Ext W w) {k : Nat} (hk : W.heap.size ≤ k) (o : Obj) : Ext W (w.putObj k o) := h.grown (grownBy_putObj' w k o) (fun j e => by cases e; exact hk)
theorem ownFrom_ext {β : Type} {B : Nat} {w₀ : World} (hB : w₀.heap.size ≤ B) : OwnFrom B (fun (_ : β) W => Ext w₀ W) := ownFrom_below (Nat.le_refl _) hB
theorem keepsFrom_ext {B : Nat} {W W' : World} (e : Ext W W') : KeepsFrom B W W' := ⟨e.size, fun _ _ _ h _ => (e.block (Array.getElem?_eq_some_iff.1 h).1).trans h⟩
theorem ret_none {F : Fence} {n : Nat} {P : Program} {fn : Func} {R : Ending → World → Prop} {tmps : Array Value} {w : World} {v : Value} (hr : (results fn tmps).run P w = .ok v w) (hR : R (.returned v) w) :
    bodyPostM F n P fn R .ret { tmps := tmps, defers := [] } w := ⟨v, hr, hR⟩
theorem ret_mark {F : Fence} {n : Nat} {P : Program} {fn : Func} {R : Ending → World → Prop} {tmps : Array Value} {w : World} {v : Value} {D : Nat} (hK : w.heap[D]? = some (.deferred (some [])))
    (hr : (results fn tmps).run P (w.putObj D (.deferred none)) = .ok v (w.putObj D (.deferred none))) (hR : R (.returned v) (w.putObj D (.deferred none))) :
    bodyPostM F n P fn R .ret { tmps := tmps, defers := [{ target := .collected D, args := #[] }] } w := ⟨by simp, .inl ⟨_, _, rfl, run_takeDeferred hK, v, hr, hR⟩⟩
theorem boxed_turned {W : World} {B : Nat} {t : TypeId} {v : Value} (h : Boxed W B t v) {D : Nat} {o o' : Obj} (hK : W.heap[D]? = some o) (ho : o.isCells = false) : Boxed (W.putObj D o') B t v :=
  h.kept (grownBy_putObj' W D o') (fun e => by
    cases e
    rw [show W.heap[B]? = _ from h] at hK; cases hK; cases ho)

set_option maxRecDepth 100000 in
/-- 'for m, first := range months(c)': the law of such a loop. -/
theorem loop_months {g : Operand} {ps : Array Tmp} {assign body : Code} {Q : Exit → Act → World → Prop} {a : Act} {A A' : Option Addr} {ca cb : Nat} {c : Cal} {B : Nat} (w₀ w : World)
    (hg : a.eval g = .func (.func 123) #[] #[.pointer (some ⟨B, 0, none⟩)]) (hps : ps.size = 2)
    (hC : CalAt w₀ A ca A' cb c) (hlg : ∀ i, i < c.ny → 0 ≤ (c.yr i).lg ∧ (c.yr i).lg ≤ 8191) (hny : c.ny ≤ 400) (he : Ext w₀ w) (hB : w.cell? ⟨B, 1, none⟩ = some (.slice A' c.ny cb)) (hBl : B < w.heap.size)
    (I : List (Mo c) → World → Prop) (Ix : Code → List (Mo c) → World → Prop) (hI : OwnFrom w.heap.size I) (hIx : ∀ c, OwnFrom w.heap.size (Ix c)) (h0 : I [] w) (Ax : Mo c → Act → World → Prop)
    (hAx : ∀ x a', OwnFrom w.heap.size (fun (_ : Unit) W => Ax x a' W))
    (hassign : ∀ (l : Nat) (pre : List (Mo c)) (x : Mo c) (W : World) (K : Act → World → Prop), I pre W → (∀ a' W', KeepsFrom w.heap.size W W' → KpY w₀.heap.size W W' → I pre W' → Ax x a' W' → K a' W') →
      assign.wpIn (Fence.wide.inRound l) 7 Tryd.prog (Exit.then K (fun _ _ _ => False)) { tmps := (ps.zip (Mo.enc x)).foldl (fun t (p, v) => t.setIfInBounds p v) a.tmps, defers := [] } W)
    (hbody : ∀ (l : Nat) (pre : List (Mo c)) (x : Mo c) (a' : Act) (W : World), w.heap.size ≤ l → I pre W → Ax x a' W → pre.length < 13 * c.ny → body.wpIn (Fence.wide.inRound l) 7 Tryd.prog (ownPostG w.heap.size (KpY w₀.heap.size) I Ix (pre ++ [x]) W) a' W)
    (hdone : ∀ (D : Nat) (xs : List (Mo c)) (W : World), w.heap.size ≤ D → Mo.its xs = c.items → I xs W → W.heap[D]? = some (.deferred (some [])) → Q .normal { a with defers := { target := .collected D, args := #[] } :: a.defers } W)
    (hstop : ∀ (D : Nat) (c' : Code) (pre : List (Mo c)) (W : World), w.heap.size ≤ D → Mo.its pre <+: c.items → Ix c' pre W → W.heap[D]? = some (.deferred (some [])) → c'.wp Tryd.prog Q { a with defers := { target := .collected D, args := #[] } :: a.defers } W) :
    (Code.rangeFunc g ps assign body).wp Tryd.prog Q a w := by
  refine (wpIn_wide (n := 9)).1 (wpIn_rangeFunc_ownH rfl (by omega) hg trivial (enters_of Tryd.func123 (by kernel_rfl) rfl) (months1_stops A A' ca cb c B 8 w₀ w hC hlg hny (by omega) he hB hBl)
    KpY.trans (KpY.turn he.size) (Below.refl _ _) (fun _ => hps.symm) I Ix hI hIx h0 Ax hAx hassign (fun l pre x a' W hl _ hi hx hlt => hbody l pre x a' W hl hi hx (Nat.lt_of_lt_of_le hlt (itemsTo_length c c.ny))) hdone
    (fun D c' pre W hD hp hx hK => wpIn_wide.2 (hstop D c' pre W hD hp hx hK)))

theorem ownFrom_ex {β γ : Type} {B : Nat} {I : γ → β → World → Prop} (h : ∀ x, OwnFrom B (I x)) : OwnFrom B (fun s W => ∃ x, I x s W) := fun s X Y row ⟨x, hs⟩ hg hr => ⟨x, h x s X Y row hs hg hr⟩
theorem ownFrom_box {β : Type} (B b : Nat) (t : TypeId) (f : β → Value) : OwnFrom B (fun s W => Boxed W b t (f s)) := Own.from (boxed_own b t f) B
/-- Block b is just the cells cs. -/
def Held (W : World) (b : Nat) (t : TypeId) (cs : Array Value) : Prop := W.heap[b]? = some (.cells cs t (0, 0))
theorem Held.lt {W : World} {b : Nat} {t : TypeId} {cs : Array Value} (h : Held W b t cs) : b < W.heap.size := (Array.getElem?_eq_some_iff.1 h).1
theorem Held.new (W : World) (t : TypeId) (cs : Array Value) : Held (W.alloc (.cells cs t)) W.heap.size t cs := World.alloc_heap_new W _
theorem Held.at (W : World) (t : TypeId) (cs : Array Value) (b : Nat) (h : b = W.heap.size) : Held (W.alloc (.cells cs t)) b t cs := by rw [h]; exact Held.new W t cs
theorem Held.alloc {W : World} {b : Nat} {t : TypeId} {cs : Array Value} (h : Held W b t cs) (o : Obj) : Held (W.alloc o) b t cs := (Below.heap_alloc W o b h.lt).trans h
theorem Held.boxed {W : World} {b : Nat} {t : TypeId} {v : Value} (h : Held W b t #[v]) : Boxed W b t v := h
theorem Held.ext {W W' : World} {b : Nat} {t : TypeId} {cs : Array Value} (h : Held W b t cs) (e : Ext W W') : Held W' b t cs := (e.block h.lt).trans h
theorem Held.other {W : World} {b b' : Nat} {t : TypeId} {cs : Array Value} (h : Held W b t cs) (hne : b ≠ b') (u : Value) : Held (W.setCell ⟨b', 0, none⟩ u) b t cs := ((grownBy_setCell' W b' u).block b h.lt (fun e => hne (by cases e; rfl))).trans h
theorem Held.cell {W : World} {b : Nat} {t : TypeId} {cs : Array Value} (h : Held W b t cs) (i : Nat) : W.cell? ⟨b, i, none⟩ = cs[i]? := by simp [World.cell?, show W.heap[b]? = _ from h]
theorem Held.frozen {W : World} {b : Nat} {t : TypeId} {cs : Array Value} (h : Held W b t cs) (i : Nat) : W.frozen? ⟨b, i, none⟩ = false := by simp [World.frozen?, show W.heap[b]? = _ from h]
section
variable {W : World} {b : Nat} {t : TypeId} {v0 v1 v2 v3 : Value}
theorem Held.c1 (h : Held W b t #[v0]) : W.cell? ⟨b, 0, none⟩ = some v0 := h.cell 0
theorem Held.c2 (h : Held W b t #[v0, v1]) : W.cell? ⟨b, 0, none⟩ = some v0 ∧ W.cell? ⟨b, 1, none⟩ = some v1 := ⟨h.cell 0, h.cell 1⟩
theorem Held.c3 (h : Held W b t #[v0, v1, v2]) : W.cell? ⟨b, 0, none⟩ = some v0 ∧ W.cell? ⟨b, 1, none⟩ = some v1 ∧ W.cell? ⟨b, 2, none⟩ = some v2 := ⟨h.cell 0, h.cell 1, h.cell 2⟩
theorem Held.c4 (h : Held W b t #[v0, v1, v2, v3]) : W.cell? ⟨b, 0, none⟩ = some v0 ∧ W.cell? ⟨b, 1, none⟩ = some v1 ∧ W.cell? ⟨b, 2, none⟩ = some v2 ∧ W.cell? ⟨b, 3, none⟩ = some v3 := ⟨h.cell 0, h.cell 1, h.cell 2, h.cell 3⟩
end
theorem ownFrom_held {β : Type} (B b : Nat) (t : TypeId) (f : β → Array Value) : OwnFrom B (fun s W => Held W b t (f s)) := fun s X Y row hs hg hr => (hg.block b hs.lt (fun e => by
  obtain ⟨_, o, ho, hc⟩ := hr b e.symm
  rw [show X.heap[b]? = _ from hs] at ho; cases ho; cases hc)).trans hs
theorem boxed_ext {W W' : World} {b : Nat} {t : TypeId} {v : Value} (h : Boxed W b t v) (e : Ext W W') : Boxed W' b t v := (e.block h.lt).trans h
theorem it_of_eq (x : It) (d : Dt) : x.of d = ((x.y : Int) == d.y && (x.n == d.m && x.s == d.s)) := by rw [It.of, Bool.and_assoc]; rfl
/-- What a month's box is behind the assignment, and the frame with it. -/
def AxM (L : Nat) (f : It → Nat → Array Value) {c : Cal} (x : Mo c) (a' : Act) (W : World) : Prop :=
  ∃ Bx, L ≤ Bx ∧ Held W Bx 113 #[.int .i64 (x.1.y : Int), .int .i64 x.1.n, .bool x.1.s] ∧ a' = { tmps := f x.1 Bx, defers := [] }
theorem axM_own {L B : Nat} {f : It → Nat → Array Value} {c : Cal} (x : Mo c) (a' : Act) : OwnFrom B (fun (_ : Unit) W => AxM L f x a' W) :=
  ownFrom_ex fun _ => OwnFrom.and (ownFrom_pure _ _) (OwnFrom.and (ownFrom_held _ _ _ _) (ownFrom_pure _ _))

theorem two_boxes {W : World} {b b' : Nat} {t t' : TypeId} {v v' : Value} (h : Boxed W b t v) (h' : Boxed W b' t' v') (hne : b ≠ b') (u u' : Value) :
    Boxed ((W.setCell ⟨b, 0, none⟩ u).setCell ⟨b', 0, none⟩ u').drew b t u ∧ Boxed ((W.setCell ⟨b, 0, none⟩ u).setCell ⟨b', 0, none⟩ u').drew b' t' u' :=
  ⟨(h.set u).other hne u', (h'.other (Ne.symm hne) u).set u'⟩
/-! ### number -/
def NoneOf (d : Dt) (l : List It) : Prop := ∀ x, x ∈ l → x.of d = false
theorem numFrom_none {d : Dt} : ∀ {l : List It} (k : Int), NoneOf d l → numFrom d l k = (0, 0)
  | [], _, _ => rfl
  | x :: l, k, h => by
    rw [numFrom, h x (List.mem_cons_self ..)]
    exact numFrom_none (k + 1) (fun y hy => h y (List.mem_cons_of_mem _ hy))
theorem numFrom_here {d : Dt} {x : It} (hx : x.of d = true) : ∀ (pre l : List It) (k : Int), NoneOf d pre → numFrom d (pre ++ x :: l) k = (x.first + d.d - 1, k + pre.length + 1)
  | [], l, k, _ => by simp [numFrom, hx]
  | y :: pre, l, k, h => by
    rw [List.cons_append, numFrom, h y (List.mem_cons_self ..)]
    show numFrom d _ (k + 1) = _
    rw [numFrom_here hx pre l (k + 1) (fun z hz => h z (List.mem_cons_of_mem _ hz)), List.length_cons]
    congr 1; omega
theorem num_none {c : Cal} {d : Dt} (h : NoneOf d c.items) : c.num d = (0, 0) := numFrom_none 0 h
theorem num_here {c : Cal} {d : Dt} {pre : List It} {x : It} (hN : NoneOf d pre) (hx : x.of d = true) (hp : pre ++ [x] <+: c.items) : c.num d = (x.first + d.d - 1, (pre.length : Int) + 1) := by
  obtain ⟨t, ht⟩ := hp
  rw [Cal.num, ← ht, List.append_assoc, List.singleton_append, numFrom_here hx pre t 0 hN]
  congr 1; omega
theorem noneOf_snoc {d : Dt} {l : List It} {x : It} (h : NoneOf d l) (hx : x.of d = false) : NoneOf d (l ++ [x]) := fun y hy => by
  rcases List.mem_append.1 hy with hy | hy
  · exact h y hy
  · rw [List.mem_singleton.1 hy]; exact hx
/-- The world in which number has boxed its arguments. -/
def numW (A A' : Option Addr) (ca cb : Nat) (c : Cal) (d : Dt) (w : World) : World := (w.alloc (.cells #[.slice A c.nk ca, .slice A' c.ny cb] 25)).alloc (.cells #[.int .i64 d.y, .int .i64 d.m, .bool d.s, .int .i64 d.d] 39)
set_option maxRecDepth 100000 in
set_option maxHeartbeats 4000000 in
theorem number_any (A A' : Option Addr) (ca cb : Nat) (c : Cal) (d : Dt) (w : World) (hC : CalAt w A ca A' cb c) (hlg : ∀ i, i < c.ny → 0 ≤ (c.yr i).lg ∧ (c.yr i).lg ≤ 8191) (hny : c.ny ≤ 400) (hd : 1 ≤ d.d ∧ d.d ≤ 30) :
    Calls Tryd.prog 83 #[.agg #[.slice A c.nk ca, .slice A' c.ny cb], .agg #[.int .i64 d.y, .int .i64 d.m, .bool d.s, .int .i64 d.d]] w fun e w' => e = .returned (.tuple #[.int .i64 (c.num d).1, .int .i64 (c.num d).2]) ∧ Ext w w' := by
  refine callsIn_wide.1 (callsIn_of_wp_marks (F := Fence.wide) (n := 9) Tryd.func83 rfl trivial (wpIn_wide.2 ?_) rfl)
  simp only [Tryd.ntmps83, List.size_toArray, List.length_cons, List.length_nil, Nat.reduceAdd, Nat.reduceSub, Array.replicate_succ, Array.replicate_zero, List.push_toArray, List.append_toArray, List.nil_append, List.cons_append]
  go_wp2_with (go_at_call 103; refine (months_any _ _ _ _ c _).mono ?_; rintro e w' ⟨rfl, rfl⟩)
  obtain ⟨wd, hwd⟩ : ∃ wd, wd = numW A A' ca cb c d w := ⟨_, rfl⟩
  have hEd : Ext w wd := by rw [hwd]; unfold numW; exact (by repeat (first | exact Ext.refl _ | (refine Ext.alloc ?_ _) | (refine Ext.trans ?_ (by assumption))))
  have hsd : wd.heap.size = w.heap.size + 1 + 1 := by rw [hwd]; simp [numW]
  have hdb : Held wd (w.heap.size + 1) 39 #[.int .i64 d.y, .int .i64 d.m, .bool d.s, .int .i64 d.d] := by rw [hwd]; unfold numW; exact (by repeat (first | (refine Held.at _ _ _ _ ?_; (simp; done)) | refine Held.alloc ?_ _))
  generalize hW5 : World.alloc _ _ = W5
  have hE5 : Ext wd W5 := by rw [← hW5, hwd]; unfold numW; exact (by repeat (first | exact Ext.refl _ | (refine Ext.alloc ?_ _) | (refine Ext.trans ?_ (by assumption))))
  have hs5 : W5.heap.size = w.heap.size + 1 + 1 + 1 + 1 + 1 := by rw [← hW5]; simp
  have b4 : Boxed W5 (w.heap.size + 1 + 1) 3 (.int .i64 0) := by rw [← hW5]; exact Held.boxed (by repeat (first | (refine Held.at _ _ _ _ ?_; (simp; done)) | refine Held.alloc ?_ _))
  have b5 : Boxed W5 (w.heap.size + 1 + 1 + 1) 3 (.int .i64 0) := by rw [← hW5]; exact Held.boxed (by repeat (first | (refine Held.at _ _ _ _ ?_; (simp; done)) | refine Held.alloc ?_ _))
  have hB : W5.cell? ⟨w.heap.size + 1 + 1 + 1 + 1, 1, none⟩ = some (.slice A' c.ny cb) := by rw [← hW5]; exact (Held.cell (t := 25) (cs := #[.slice A c.nk ca, .slice A' c.ny cb]) (by repeat (first | (refine Held.at _ _ _ _ ?_; (simp; done)) | refine Held.alloc ?_ _)) 1)
  clear hW5 hwd
  generalize hs : w.heap.size = s at *
  refine loop_months (A := A) (A' := A') (ca := ca) (cb := cb) (c := c) (B := s + 1 + 1 + 1 + 1) wd W5 rfl rfl (hC.ext hEd) hlg hny hE5 hB (by omega)
    (fun pre W => Ext wd W ∧ Boxed W (s + 1 + 1) 3 (.int .i64 0) ∧ Boxed W (s + 1 + 1 + 1) 3 (.int .i64 (pre.length : Int)) ∧ NoneOf d (Mo.its pre))
    (fun c' pre W => Ext wd W ∧ ∃ p : List (Mo c) × Mo c, Boxed W (s + 1 + 1) 3 (.int .i64 (p.2.1.first + d.d - 1)) ∧ Boxed W (s + 1 + 1 + 1) 3 (.int .i64 (pre.length : Int)) ∧ c' = .ret ∧ pre = p.1 ++ [p.2] ∧ NoneOf d (Mo.its p.1) ∧ p.2.1.of d = true)
    (OwnFrom.and (ownFrom_ext (by omega)) (OwnFrom.and (ownFrom_box _ _ _ _) (OwnFrom.and (ownFrom_box _ _ _ _) (ownFrom_pure _ _))))
    (fun c' => OwnFrom.and (ownFrom_ext (by omega)) (ownFrom_ex fun p => OwnFrom.and (ownFrom_box _ _ _ _) (OwnFrom.and (ownFrom_box _ _ _ _) (ownFrom_pure _ _))))
    ⟨hE5, b4, b5, fun _ h => (by cases h)⟩
    (AxM (s + 1 + 1 + 1 + 1) (fun y Bx => #[.agg #[.slice A c.nk ca, .slice A' c.ny cb], .agg #[.int .i64 d.y, .int .i64 d.m, .bool d.s, .int .i64 d.d], .pointer (some ⟨s, 0, none⟩), .pointer (some ⟨s + 1, 0, none⟩), .pointer (some ⟨s + 1 + 1, 0, none⟩), .pointer (some ⟨s + 1 + 1 + 1, 0, none⟩), .pointer (some ⟨Bx, 0, none⟩), .int .i64 y.first,
      .agg #[.slice A c.nk ca, .slice A' c.ny cb], .func (.func 123) #[] #[.pointer (some ⟨s + 1 + 1 + 1 + 1, 0, none⟩)], .agg #[.int .i64 (y.y : Int), .int .i64 y.n, .bool y.s], .int .i64 y.first, undef, undef, undef, undef, undef, undef, undef, undef, undef, undef, undef, undef])) axM_own ?assign ?body ?done ?stop
  case assign =>
    intro l pre x W K hi hK
    simp only [Mo.enc]
    gi_wp2
    refine hK _ _ (keepsFrom_ext ((Ext.refl W).alloc _)) (KpY.of_ext ((Ext.refl W).alloc _) hi.1.size) ⟨hi.1.alloc _, hi.2.1.alloc _, hi.2.2.1.alloc _, hi.2.2.2⟩ ⟨W.heap.size, hi.2.2.1.lt, Held.new _ _ _, rfl⟩
  case body =>
    rintro l pre x a' W hl ⟨hE, b4, b5, hN⟩ ⟨Bx, hBx, hm, rfl⟩ hlt
    have hcb := b5.cell
    have hfb := b5.frozen
    gi_wp2
    have hKp : KpY wd.heap.size W (W.setCell ⟨s + 1 + 1 + 1, 0, none⟩ (.int .i64 ((pre.length : Int) + 1))) := KpY.box b5 (by decide) (by omega) _
    have hKf : KeepsFrom W5.heap.size W (W.setCell ⟨s + 1 + 1 + 1, 0, none⟩ (.int .i64 ((pre.length : Int) + 1))) := (KeepsOthers.setCell _ _ _).from _
    have hE2 := hE.setCell (p := ⟨s + 1 + 1 + 1, 0, none⟩) (show wd.heap.size ≤ s + 1 + 1 + 1 by omega) (.int .i64 ((pre.length : Int) + 1))
    have b42 := b4.other (B' := s + 1 + 1 + 1) (by omega) (.int .i64 ((pre.length : Int) + 1))
    have b52 := b5.set (.int .i64 ((pre.length : Int) + 1))
    have hm2 := hm.other (b' := s + 1 + 1 + 1) (by omega) (.int .i64 ((pre.length : Int) + 1))
    generalize World.setCell W _ _ = W2 at *
    clear hcb hfb b4 b5 hm hE
    have hd2 := hdb.ext hE2
    have m0 := hm2.cell 0
    have m1 := hm2.cell 1
    have m2 := hm2.cell 2
    have e0 := hd2.cell 0
    have e1 := hd2.cell 1
    have e2 := hd2.cell 2
    have e3 := hd2.cell 3
    have hl1 := hm2.lt
    have hl2 := hd2.lt
    simp at m0 m1 m2 e0 e1 e2 e3
    refine wpIn_region_xw W2 mixed (by kernel_rfl) (by kernel_rfl) (by repeat (first | exact Ext.refl _ | (refine Ext.alloc ?_ _) | (refine Ext.trans ?_ (by assumption)))) ?_
    intro hne hrx hry
    try simp only []
    try simp only [List.append_eq, List.cons_append, List.nil_append]
    skip
    repeat (first
      | go_big_quiet_skip
      | ((with_reducible apply q_and)
         · exact rfl
         · exact rfl
         · exact rfl
         intro K hK
         unfold Then; go_big_quiet_op; (with_reducible refine hK _ ?_); clear hK K)
      | ((with_reducible apply q_or)
         · exact rfl
         · exact rfl
         · exact rfl
         intro K hK
         unfold Then; go_big_quiet_op; (with_reducible refine hK _ ?_); clear hK K)
      | (go_big_quiet_want; go_big_quiet_op; go_big_quiet_on)
      | (go_big_quiet_want; go_big_quiet_op; apply Exists.intro; refine ⟨fun u => ?_, ?_⟩
         · first
             | (go_at_call 85; refine (monthOf_any d _).mono ?_; rintro e w' ⟨rfl, hb⟩; exact ⟨rfl, u.back hb⟩)
         go_big_quiet_on)
      | ((with_reducible apply q_and_g)
         · first | exact wanted_pt rfl rfl rfl | exact wanted_pf rfl rfl rfl | exact wanted_gt rfl rfl rfl | exact wanted_gf rfl rfl rfl
         · exact rfl
         · exact rfl
         · exact rfl
         intro K hK
         unfold Then; go_big_quiet_op; (with_reducible refine hK _ ?_); clear hK K)
      | ((with_reducible apply q_or_g)
         · first | exact wanted_pt rfl rfl rfl | exact wanted_pf rfl rfl rfl | exact wanted_gt rfl rfl rfl | exact wanted_gf rfl rfl rfl
         · exact rfl
         · exact rfl
         · exact rfl
         intro K hK
         unfold Then; go_big_quiet_op; (with_reducible refine hK _ ?_); clear hK K)
      | ((with_reducible apply q_sym)
         · first | exact wanted_pt rfl rfl rfl | exact wanted_pf rfl rfl rfl | exact wanted_gt rfl rfl rfl | exact wanted_gf rfl rfl rfl
         apply Exists.intro
         refine And.intro (fun hgb => ?_) ?_
         · intro u
           try simp at hgb
           go_simp
           try simp only [if_pos hsl]
           try simp only [if_pos (hin (by omega))]
           try (simp only [hd0 (by omega)]; go_simp)
           try (rw [hlook _ (Ext.trans (by repeat (first | exact Ext.refl _ | (refine Ext.alloc ?_ _) | (refine Ext.trans ?_ (by assumption)))) u.e) (hlk0 hgb)]; go_simp)
           first
             | (with_reducible exact rfl)
             | (go_at_call 85; refine (monthOf_any d _).mono ?_; rintro e w' ⟨rfl, hb⟩; exact ⟨rfl, u.back hb⟩)
         intro K hK
         unfold Then; go_big_quiet_op; (with_reducible refine hK _ ?_); clear hK K))
    clear hne hry hrx
    refine wpQuiet_nil ?_
    intro wq hq
    obtain ⟨hcwq, hfwq, hzwq⟩ := Ext.rules hq
    try simp only [World.size_alloc] at hzwq
    obtain ⟨hcbwq, hfbwq, hzbwq⟩ := Ext.rules (show Ext W2 wq from (by repeat (first | exact Ext.refl _ | (refine Ext.alloc ?_ _) | (refine Ext.trans ?_ (by assumption)))))
    clear hcwq hfwq
    have HO : Hid (x.1.of d = _) := it_of_eq x.1 d
    have hxok := x.2
    have hx1 := hxok.f1
    have hx2 := hxok.f2
    clear hxok
    generalize ((x.1.y : Int) == d.y && (x.1.n == d.m && x.1.s == d.s)) = f at *
    have hEq := hE2.trans hq
    have b4q := boxed_ext b42 hq
    have b5q := boxed_ext b52 hq
    have hKq := hKp.trans (KpY.of_ext hq hE2.size)
    have hFq := hKf.trans (keepsFrom_ext hq)
    clear m0 m1 m2 hl1
    cases f
    · gi_wp2
      exact ⟨hFq, hKq, hEq, b4q, by simpa using b5q, by rw [its_snoc]; exact noneOf_snoc hN HO.out⟩
    · have q4 := b4q.cell
      have q5 := b5q.cell
      have f4 := b4q.frozen
      have f5 := b5q.frozen
      have hdq := hd2.ext hq
      clear e0 e1 e2 e3 hd2 hcbwq hfbwq
      have e3 := hdq.cell 3
      simp at e3
      have hl4 := b4q.lt
      have hl5 := b5q.lt
      have hld := hdq.lt
      gi_upto_region 6 with (fail)
      have hmix := mixed
      have HS : Hid (IntKind.i64.wrap (IntKind.i64.wrap (x.1.first + d.d) - 1) = x.1.first + d.d - 1) := by unfold Hid; rw [IntKind.wrap_i64, IntKind.wrap_i64]; omega
      have hEs := fun u v => ((hEq.setCell (p := ⟨s + 1 + 1, 0, none⟩) (show wd.heap.size ≤ s + 1 + 1 by omega) u).setCell (p := ⟨s + 1 + 1 + 1, 0, none⟩) (show wd.heap.size ≤ s + 1 + 1 + 1 by omega) v).drew
      have hBs := fun u v => two_boxes b4q b5q (by omega) u v
      have hFs := fun u v => (((hFq.trans ((KeepsOthers.setCell _ ⟨s + 1 + 1, 0, none⟩ u).from _)).trans ((KeepsOthers.setCell _ ⟨s + 1 + 1 + 1, 0, none⟩ v).from _)).trans ((KeepsOthers.drew _).from _))
      gi_region_with_o (fail)
      all_goals
        gi_wp2
        refine ⟨hFs _ _, hEs _ _, (pre, x), ?_, ?_, rfl, rfl, hN, HO.out⟩
        · rw [← HS.out]; exact (hBs _ _).1
        · rw [List.length_append]; exact (hBs _ _).2
  case done =>
    rintro D xs W hD hxs ⟨hE, b4, b5, hN⟩ hK
    have hc4 := b4.cell
    have hf4 := b4.frozen
    have hc5 := b5.cell
    have hf5 := b5.frozen
    rw [hxs] at hN
    have HN := Lib.hid (num_none hN)
    clear hN hxs
    go_wp2
    have hK2 : ((W.setCell ⟨s + 1 + 1, 0, none⟩ (.int .i64 0)).setCell ⟨s + 1 + 1 + 1, 0, none⟩ (.int .i64 0)).heap[D]? = some (.deferred (some [])) := ((KeepsOthers.setCell W ⟨s + 1 + 1, 0, none⟩ (.int .i64 0)).trans (KeepsOthers.setCell _ ⟨s + 1 + 1 + 1, 0, none⟩ (.int .i64 0))).same D _ hK rfl
    have hB2 := two_boxes b4 b5 (by omega) (.int .i64 0) (.int .i64 0)
    have hE2 : Ext wd ((W.setCell ⟨s + 1 + 1, 0, none⟩ (.int .i64 0)).setCell ⟨s + 1 + 1 + 1, 0, none⟩ (.int .i64 0)) := ((hE.setCell (p := ⟨s + 1 + 1, 0, none⟩) (show wd.heap.size ≤ s + 1 + 1 by omega) (.int .i64 0)).setCell (p := ⟨s + 1 + 1 + 1, 0, none⟩) (show wd.heap.size ≤ s + 1 + 1 + 1 by omega) (.int .i64 0))
    clear hc4 hf4 hc5 hf5
    generalize World.setCell _ _ _ = W6 at *
    have c4 := (boxed_turned (o' := .deferred none) (show Boxed W6 _ _ _ from hB2.1) hK2 rfl).cell
    have c5 := (boxed_turned (o' := .deferred none) (show Boxed W6 _ _ _ from hB2.2) hK2 rfl).cell
    refine ret_mark hK2 (v := .tuple #[.int .i64 0, .int .i64 0]) (by simp [results, Tryd.results83, go_sem, c4, c5]) ⟨by rw [HN.out], hEd.trans (hE2.putObj (by omega) _)⟩
  case stop =>
    rintro D c' pre W hD hpre ⟨hE, ⟨p, x⟩, b4, b5, rfl, rfl, hN, hO⟩ hK
    rw [its_snoc] at hpre
    have HN := Lib.hid (num_here hN hO hpre)
    clear hN hpre hO
    go_wp2
    have c4 := (boxed_turned (o' := .deferred none) b4 hK rfl).cell
    have c5 := (boxed_turned (o' := .deferred none) b5 hK rfl).cell
    refine ret_mark hK (v := .tuple #[.int .i64 (x.1.first + d.d - 1), .int .i64 ((p.length : Int) + 1)]) (by simp [results, Tryd.results83, go_sem, c4, c5]) ⟨by rw [HN.out, its_length], hEd.trans (hE.putObj (by omega) _)⟩
end Go.Proofs.YtfchchmmjabjnaaDoor
