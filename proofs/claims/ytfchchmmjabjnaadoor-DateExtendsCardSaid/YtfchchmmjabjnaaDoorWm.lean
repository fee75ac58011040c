/- The walk of the iterator over a calendar's months: its contract, for every loop that keeps what it reads. -/
import Derived.Test.YtfchchmmjabjnaaDoorW2
import Derived.Test.YtfchchmmjabjnaaDoorRd
import Derived.Test.YtfchchmmjabjnaaDoorPl1
import Derived.Outline
import Derived.Lib.Hide
namespace Go.Proofs.YtfchchmmjabjnaaDoor
open Go Go.RowKit
attribute [local go_sem] Oper.semAt_some

/-- What a round of a loop over the months keeps: what lay in w₀, and each block of years. -/
structure KpY (n₀ : Nat) (W W' : World) : Prop where
  below : Below n₀ W W'
  years : ∀ (k : Nat) (cs : Array Value) (f : Nat × Nat), W.heap[k]? = some (.cells cs 99 f) → W'.heap[k]? = some (.cells cs 99 f)
namespace KpY
variable {n₀ : Nat} {A B C : World}
theorem refl (n₀ : Nat) (W : World) : KpY n₀ W W := ⟨Below.refl _ _, fun _ _ _ h => h⟩
theorem trans (h : KpY n₀ A B) (k : KpY n₀ B C) : KpY n₀ A C := ⟨h.below.trans k.below, fun i cs f hi => k.years i cs f (h.years i cs f hi)⟩
theorem of_ext (e : Ext A B) (hn : n₀ ≤ A.heap.size) : KpY n₀ A B := ⟨e.below.mono hn, fun _ _ _ hi => (e.block (Array.getElem?_eq_some_iff.1 hi).1).trans hi⟩
theorem grown {row : Option Nat} (hg : A.grownBy B row) (hn : n₀ ≤ A.heap.size) (hr : ∀ r, row = some r → n₀ ≤ r ∧ ∃ o, A.heap[r]? = some o ∧ ∀ cs f, o ≠ .cells cs 99 f) : KpY n₀ A B := by
  refine ⟨(Below.refl n₀ A).grown hg hn (fun r e => (hr r e).1), fun i cs f hi => (hg.block i (Array.getElem?_eq_some_iff.1 hi).1 (fun e => ?_)).trans hi⟩
  obtain ⟨_, o, ho, hne⟩ := hr i e.symm
  rw [hi] at ho; cases ho
  exact hne cs f rfl
theorem box {b : Nat} {t : TypeId} {v : Value} (hb : Boxed A b t v) (ht : t ≠ 99) (hn : n₀ ≤ b) (u : Value) : KpY n₀ A (A.setCell ⟨b, 0, none⟩ u) :=
  grown (grownBy_setCell' A b u) (Nat.le_of_lt (Nat.lt_of_le_of_lt hn hb.lt)) (fun r e => by
    cases e; exact ⟨hn, _, hb, fun cs f h => ht (by injection h)⟩)
theorem turn {w : World} (hn : n₀ ≤ w.heap.size) (W : World) (l : Nat) (o o' : Obj) (hl : w.heap.size ≤ l) (h : W.heap[l]? = some o) (hc : o.isCells = false) (_ : o.isWalk = false) : KpY n₀ W (W.putObj l o') :=
  grown (grownBy_putObj' W l o') (by have := (Array.getElem?_eq_some_iff.1 h).1; omega) (fun r e => by
    cases e; exact ⟨by omega, _, h, fun cs f hh => by rw [hh] at hc; cases hc⟩)
end KpY
theorem grown_of_ext {A B : World} (e : Ext A B) : A.grownBy B none := ⟨e.below.os, e.below.tape, e.below.output, e.size, fun _ hk _ => e.block hk⟩
theorem AbidesFrom.ext {β : Type} {B : Nat} {J : β → World → Prop} (h : AbidesFrom B J) {s : β} {W W' : World} (hs : J s W) (e : Ext W W') : J s W' := h s W W' none hs (grown_of_ext e) (fun r h => by cases h)
theorem OwnFrom.ext {β : Type} {B : Nat} {J : β → World → Prop} (h : OwnFrom B J) {s : β} {W W' : World} (hs : J s W) (e : Ext W W') : J s W' := h s W W' none hs (grown_of_ext e) (fun r h => by cases h)

/-- A month that a loop is handed. -/
abbrev Mo (c : Cal) := { x : It // c.okIt x }
def Mo.its {c : Cal} (l : List (Mo c)) : List It := l.map (·.1)
def Mo.enc {c : Cal} (x : Mo c) : Array Value := #[.agg #[.int .i64 (x.1.y : Int), .int .i64 x.1.n, .bool x.1.s], .int .i64 x.1.first]
theorem its_snoc {c : Cal} (l : List (Mo c)) (x : Mo c) : Mo.its (l ++ [x]) = Mo.its l ++ [x.1] := by simp [Mo.its]
theorem its_length {c : Cal} (l : List (Mo c)) : (Mo.its l).length = l.length := by simp [Mo.its]

theorem months_any (A A' : Option Addr) (ca cb : Nat) (c : Cal) (w : World) :
    Calls Tryd.prog 103 #[.agg #[.slice A c.nk ca, .slice A' c.ny cb]] w fun e w' => e = .returned (.func (.func 123) #[] #[.pointer (some ⟨w.heap.size, 0, none⟩)]) ∧ w.alloc (.cells #[.slice A c.nk ca, .slice A' c.ny cb] 25) = w' := by
  go_enter Tryd.func103, Tryd.ntmps103
  go_wp2
  go_ret
  exact ⟨rfl, rfl⟩

theorem fourCells {w : World} {Y : Nat} {t : TypeId} {v0 v1 v2 v3 : Value} (h : w.heap[Y]? = some (.cells #[v0, v1, v2, v3] t (0, 0))) :
    w.cell? ⟨Y, 0, none⟩ = some v0 ∧ w.cell? ⟨Y, 1, none⟩ = some v1 ∧ w.cell? ⟨Y, 2, none⟩ = some v2 ∧ w.cell? ⟨Y, 3, none⟩ = some v3 := by
  refine ⟨?_, ?_, ?_, ?_⟩ <;> simp [World.cell?, h]

set_option maxRecDepth 100000 in
set_option maxHeartbeats 4000000 in
theorem months1_stops (A A' : Option Addr) (ca cb : Nat) (c : Cal) (B n : Nat) (w₀ w : World) (hC : CalAt w₀ A ca A' cb c) (hlg : ∀ i, i < c.ny → 0 ≤ (c.yr i).lg ∧ (c.yr i).lg ≤ 8191) (hny : c.ny ≤ 400) (hn : 1 ≤ n) (he : Ext w₀ w)
    (hB : w.cell? ⟨B, 1, none⟩ = some (.slice A' c.ny cb)) (hBl : B < w.heap.size) :
    SeqStopsK Fence.wide n Tryd.prog 123 #[.pointer (some ⟨B, 0, none⟩)] (Mo.enc (c := c)) (KpY w₀.heap.size) (fun xs => Mo.its xs = c.items) (fun pre => Mo.its pre <+: c.items) c.items.length w := by
  intro l J Jx W hW hJ hJx hY h0
  have hWe : Ext w₀ W := he.trans hW
  have hB' : W.cell? ⟨B, 1, none⟩ = some (.slice A' c.ny cb) := (hW.cell (p := ⟨B, 1, none⟩) hBl).trans hB
  clear hB hBl he
  refine callsIn_of_wp Tryd.func123 rfl trivial ?_ rfl
  simp only [Tryd.ntmps123, List.size_toArray, List.length_cons, List.length_nil, Nat.reduceAdd, Nat.reduceSub, Array.replicate_succ, Array.replicate_zero, List.push_toArray, List.append_toArray, List.nil_append, List.cons_append]
  gi_wp2
  gi_loopw [3, 10] (fun d i wr => ∃ k : Nat, k ≤ c.ny ∧ i = .int .i64 k ∧ d = .int .i64 (c.dayAt k) ∧ ∃ pre : List (Mo c), Mo.its pre = c.itemsTo k ∧ J pre wr ∧ Ext w₀ wr) (fun _ i _ => c.ny - (intOf i).toNat)
  case atStart => exact ⟨0, Nat.zero_le _, rfl, rfl, [], rfl, h0, hWe⟩
  case round =>
    obtain ⟨k, hk, rfl, rfl, pre, hpre, hJp, hE⟩ := hrel
    obtain ⟨wo, rfl⟩ : ∃ wo : World, wo = wr := ⟨_, rfl⟩
    by_cases hlt : k < c.ny
    · obtain ⟨b, off, rfl, hb, c0, c1, c2, c3⟩ := (hC.ext hE).year hlt
      gi_wp2
      have hlgk := hlg k hlt
      have hE2 : Ext w₀ (wo.alloc (.cells #[.int .i64 (c.yr k).k, .string (c.yr k).nm, .int .i64 (c.yr k).lg, .int .i64 (c.yr k).db] 99)) := hE.alloc _
      have hY0 := World.alloc_heap_new wo (.cells #[.int .i64 (c.yr k).k, .string (c.yr k).nm, .int .i64 (c.yr k).lg, .int .i64 (c.yr k).db] 99)
      have hJ0 := AbidesFrom.ext hJ hJp ((Ext.refl wo).alloc (.cells #[.int .i64 (c.yr k).k, .string (c.yr k).nm, .int .i64 (c.yr k).lg, .int .i64 (c.yr k).db] 99))
      generalize hyb : wo.heap.size = Y at *
      clear hyb c0 c1 c2 c3 hb
      gi_loopw [3, 6] (fun d m wq => ∃ j : Nat, j ≤ 12 ∧ m = .int .i64 (j + 1) ∧ d = .int .i64 (c.dayTo k j) ∧ ∃ pre : List (Mo c), Mo.its pre = c.upTo k j ∧ J pre wq ∧ Ext w₀ wq ∧
        wq.heap[Y]? = some (.cells #[.int .i64 (c.yr k).k, .string (c.yr k).nm, .int .i64 (c.yr k).lg, .int .i64 (c.yr k).db] 99 (0, 0))) (fun _ m _ => 13 - (intOf m).toNat)
      case atStart => exact ⟨0, Nat.zero_le _, rfl, by rw [dayTo_zero], pre, by rw [upTo_zero, hpre], hJ0, hE2, hY0⟩
      case round =>
        clear hE hE2 hY0 hJ0 hJp hpre pre
        obtain ⟨j, hj, rfl, rfl, pre, hpre, hJp, hE, hYb⟩ := hrel
        by_cases hlj : j < 12
        · obtain ⟨y0, y1, y2, y3⟩ := fourCells hYb
          have hx := hY pre ⟨_, it1_ok hlt hlj⟩ wr hJp (by have := lt_of_pre (hpre ▸ one_pre hlt hlj); rw [its_length] at this; exact this)
          obtain ⟨fn, tmps, assign, body, hy, hR⟩ := hx
          simp only [Mo.enc, Cal.it1] at hy
          gi_wp2
          refine hR.mono ?_
          rintro e W3 (⟨rfl, hJ3, hk3⟩ | ⟨rfl, hJx3⟩)
          · clear hR hy
            have hYb3 := hk3.years _ _ _ hYb
            have hE3 : Ext w₀ W3 := Below.trans hE hk3.below
            obtain ⟨z0, z1, z2, z3⟩ := fourCells hYb3
            have hbd := dayTo_bd c (i := k) (k := j) (by omega)
            have hbl := len_29 (c.yr k) ((j : Int) + 1) false
            by_cases hdb : (c.yr k).db = (j : Int) + 1
            · have hd1 : ((c.yr k).db != (j : Int) + 1) = false := bne_eq_false_iff_eq.2 hdb
              have HD := Lib.hid hdb
              clear hdb y0 y1 y2 y3
              gi_wp2_with (refine ⟨trivial, ?_⟩; gi_at_call 106; refine (callsIn_wide.2 (length_any (c.yr k) _ _ _ (by omega) (by omega) hlgk.1 hlgk.2)).mono ?_; rintro e w4 ⟨rfl, hb4⟩; obtain ⟨fn2, tmps2, assign2, body2, hy2, hR2⟩ := hY _ ⟨_, it2_ok hlt hlj⟩ w4 (AbidesFrom.ext hJ hJ3 hb4) (by have := lt_of_pre (two_pre hlt hlj HD.out); rwa [← hpre, ← its_snoc pre ⟨c.it1 k j, it1_ok hlt hlj⟩, its_length] at this); simp only [Mo.enc, Cal.it2] at hy2; have hYb4 := (hb4.block (Array.getElem?_eq_some_iff.1 hYb3).1).trans hYb3; obtain ⟨x0, x1, x2, x3⟩ := fourCells hYb4; clear z0 z1 z2 z3)
              refine hR2.mono ?_
              rintro e W5 (⟨rfl, hJ5, hk5⟩ | ⟨rfl, hJx5⟩)
              · clear hR2 hy2
                have hYb5 := hk5.years _ _ _ hYb4
                have hE5 : Ext w₀ W5 := Below.trans (hE3.trans hb4) hk5.below
                obtain ⟨s0, s1, s2, s3⟩ := fourCells hYb5
                clear x0 x1 x2 x3 hd1
                have hbl2 := len_29 (c.yr k) ((j : Int) + 1) true
                gi_wp2_with (refine ⟨trivial, ?_⟩; gi_at_call 106; refine (callsIn_wide.2 (length_any (c.yr k) _ _ _ (by omega) (by omega) hlgk.1 hlgk.2)).mono ?_; rintro e w6 ⟨rfl, hb6⟩)
                exact ⟨⟨j + 1, by omega, by go_num, by rw [dayTo_two HD.out], _, by rw [its_snoc, its_snoc, hpre, upTo_two HD.out], AbidesFrom.ext hJ hJ5 hb6, hE5.trans hb6, (hb6.block (Array.getElem?_eq_some_iff.1 hYb5).1).trans hYb5⟩, by simp [intOf]; omega⟩
              · gi_wp2
                refine bodyPost_ret (results_none rfl _ _ _) rfl ?_
                exact ⟨⟨_, rfl⟩, .inr ⟨_, by rw [its_snoc, its_snoc, hpre]; exact two_pre hlt hlj HD.out, hJx5⟩⟩
            · have hd1 : ((c.yr k).db != (j : Int) + 1) = true := bne_iff_ne.2 hdb
              have HD := Lib.hid hdb
              clear hdb y0 y1 y2 y3
              gi_wp2_with (refine ⟨trivial, ?_⟩; gi_at_call 106; refine (callsIn_wide.2 (length_any (c.yr k) _ _ _ (by omega) (by omega) hlgk.1 hlgk.2)).mono ?_; rintro e w4 ⟨rfl, hb4⟩; have hYb4 := (hb4.block (Array.getElem?_eq_some_iff.1 hYb3).1).trans hYb3; obtain ⟨x0, x1, x2, x3⟩ := fourCells hYb4; clear z0 z1 z2 z3)
              exact ⟨⟨j + 1, by omega, by go_num, by rw [dayTo_one HD.out], _, by rw [its_snoc, hpre, upTo_one HD.out], AbidesFrom.ext hJ hJ3 hb4, hE3.trans hb4, (hb4.block (Array.getElem?_eq_some_iff.1 hYb3).1).trans hYb3⟩, by simp [intOf]; omega⟩
          · gi_wp2
            refine bodyPost_ret (results_none rfl _ _ _) rfl ?_
            exact ⟨⟨_, rfl⟩, .inr ⟨_, by rw [its_snoc, hpre]; exact one_pre hlt hlj, hJx3⟩⟩
        · obtain rfl : j = 12 := by omega
          gi_wp2
          exact ⟨⟨k + 1, by omega, by go_num, rfl, pre, by rw [hpre]; rfl, hJp, hE⟩, by simp [intOf]; omega⟩
    · gi_wp2
      go_end0
      exact ⟨⟨_, rfl⟩, .inl ⟨pre, by rw [hpre, show k = c.ny from by omega]; rfl, hJp⟩⟩
end Go.Proofs.YtfchchmmjabjnaaDoor
