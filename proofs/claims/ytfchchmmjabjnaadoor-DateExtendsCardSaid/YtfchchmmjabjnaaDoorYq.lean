/- Extend of the program. -/
import Derived.Test.YtfchchmmjabjnaaDoorYp
import Derived.Test.YtfchchmmjabjnaaDoorY2
import Derived.Test.YtfchchmmjabjnaaDoorYm
namespace Go.Proofs.YtfchchmmjabjnaaDoor
open Go Go.RowKit
attribute [local go_sem] gv_yes

def cut5x (A : Option Addr → Nat → Option Addr → Nat → Nat → Act) (S : World → Option Addr → Nat → Option Addr → Nat → Nat → Prop) : Exit → Act → World → Prop := fun e a' w' => e = .normal ∧ ∃ p i q j r, S w' p i q j r ∧ a' = A p i q j r
theorem cut5x_is {A : Option Addr → Nat → Option Addr → Nat → Nat → Act} {S : World → Option Addr → Nat → Option Addr → Nat → Nat → Prop} {w' : World} (p : Option Addr) (i : Nat) (q : Option Addr) (j r : Nat) {a' : Act} (h : S w' p i q j r) (ha : a' = A p i q j r) : cut5x A S .normal a' w' := ⟨rfl, p, i, q, j, r, h, ha⟩
theorem wp_cut5x {P : Program} {c : Code} {Q : Exit → Act → World → Prop} {a : Act} {w : World} {A : Option Addr → Nat → Option Addr → Nat → Nat → Act} (S : World → Option Addr → Nat → Option Addr → Nat → Nat → Prop) (h1 : c.wp P (cut5x A S) a w) (h2 : ∀ p i q j r w', S w' p i q j r → Q .normal (A p i q j r) w') : c.wp P Q a w :=
  Code.wp_mono (fun e a' w' ⟨he, p, i, q, j, r, hs, ha⟩ => by subst he; subst ha; exact h2 p i q j r w' hs) h1
def cut1x (A : Nat → Act) (S : World → Nat → Prop) : Exit → Act → World → Prop := fun e a' w' => e = .normal ∧ ∃ r, S w' r ∧ a' = A r
theorem cut1x_is {A : Nat → Act} {S : World → Nat → Prop} {w' : World} (r : Nat) {a' : Act} (h : S w' r) (ha : a' = A r) : cut1x A S .normal a' w' := ⟨rfl, r, h, ha⟩
theorem wp_cut1x {P : Program} {c : Code} {Q : Exit → Act → World → Prop} {a : Act} {w : World} {A : Nat → Act} (S : World → Nat → Prop) (h1 : c.wp P (cut1x A S) a w) (h2 : ∀ r w', S w' r → Q .normal (A r) w') : c.wp P Q a w :=
  Code.wp_mono (fun e a' w' ⟨he, r, hs, ha⟩ => by subst he; subst ha; exact h2 r w' hs) h1
theorem held_third {W : World} {b : Nat} {t : TypeId} {v0 v1 v2 v3 : Value} (h : Held W b t #[v0, v1, v2, v3]) (u : Value) : Held (W.setCell ⟨b, 2, none⟩ u) b t #[v0, v1, u, v3] := by unfold Held at h ⊢; simp [World.setCell, Array.getElem?_modify, h]
theorem own_slice {W : World} {base size k : Nat} {e : TypeId} {v : Value} {xs : List Value} (h : W.ownsRow base e size v k xs) : ∃ F m, v = .slice F k m := by
  rcases h.2 with ⟨rfl, h0⟩ | ⟨g, cap, cur, rfl, _⟩
  · exact ⟨none, 0, by rw [h0]⟩
  · exact ⟨_, _, rfl⟩
theorem held_fst {W : World} {b : Nat} {t : TypeId} {v0 v1 : Value} (h : Held W b t #[v0, v1]) (u : Value) : Held (W.setCell ⟨b, 0, none⟩ u) b t #[u, v1] := by unfold Held at h ⊢; simp [World.setCell, Array.getElem?_modify, h]
theorem flatL_congr {f g : Nat → List Value} : ∀ {k : Nat}, (∀ i, i < k → f i = g i) → flatL f k = flatL g k
  | 0, _ => rfl
  | k + 1, h => by rw [flatL_succ, flatL_succ, flatL_congr (fun i hi => h i (by omega)), h k (by omega)]
theorem grown_set (W : World) (b j : Nat) (v : Value) : W.grownBy (W.setCell ⟨b, j, none⟩ v) (some b) :=
  ⟨rfl, rfl, rfl, (KeepsWalks.setCell W _ v).size, fun k _ hk => Below.heap_setCell _ _ _ k (fun e => hk (by rw [e]))⟩
theorem own_set {W : World} {b : Nat} {t e : TypeId} {cs : Array Value} (h : Held W b t cs) (hte : t ≠ e) {base size k : Nat} {v : Value} {xs : List Value} (hr : W.ownsRow base e size v k xs) (j : Nat) (u : Value) : (W.setCell ⟨b, j, none⟩ u).ownsRow base e size v k xs :=
  hr.kept (grown_set W b j u) (.inr (h.not_row hte hr).symm)
theorem held_other {W : World} {b b' : Nat} {t : TypeId} {cs : Array Value} (h : Held W b t cs) (hne : b ≠ b') (j : Nat) (u : Value) : Held (W.setCell ⟨b', j, none⟩ u) b t cs := h.kept (grown_set W b' j u) (fun e => hne (by cases e; rfl))
theorem held_snd {W : World} {b : Nat} {t : TypeId} {v0 v1 : Value} (h : Held W b t #[v0, v1]) (u : Value) : Held (W.setCell ⟨b, 1, none⟩ u) b t #[v0, u] := by unfold Held at h ⊢; simp [World.setCell, Array.getElem?_modify, h]
/-- What a round of the loop leaves. -/
structure ExS (b W : World) (bo bk : Nat) (K : Int) (vk vy : Value) (nk : Nat) (kx : List Value) (ny : Nat) (yx : List Value) : Prop where
  e : Ext b W
  k : W.ownsRow b.heap.size 9 1 vk nk kx
  y : W.ownsRow b.heap.size 99 4 vy ny yx
  o : Held W bo 25 #[vk, vy]
  h : Held W bk 3 #[.int .i64 K]
  lo : b.heap.size ≤ bo
namespace ExS
variable {b W W' : World} {bo bk nk ny : Nat} {K : Int} {vk vy : Value} {kx yx : List Value}
theorem ext (h : ExS b W bo bk K vk vy nk kx ny yx) (x : Ext W W') : ExS b W' bo bk K vk vy nk kx ny yx := ⟨h.e.trans x, ownsRow_ext h.k x, ownsRow_ext h.y x, h.o.ext x, h.h.ext x, h.lo⟩
theorem push (h : ExS b W bo bk K vk vy nk kx ny yx) {w1 : World} {v' : Value} {ob : Obj} {news : List Value} {m : Nat} (hown : w1.ownsRow b.heap.size 99 4 v' m news) (hgrow : (W.alloc ob).grownBy w1 vy.ownBlock) :
    Held w1 bo 25 #[vk, vy] ∧ ExS b (w1.setCell ⟨bo, 1, none⟩ v') bo bk K vk v' nk kx m news := by
  have ha := h.ext ((Ext.refl W).alloc ob)
  have e1 : Ext b w1 := ha.e.grown hgrow (fun q hq => (row_type ha.y q hq).1)
  have k1 := ha.k.kept hgrow (rows_apart ha.k ha.y (by decide))
  have o1 := ha.o.kept hgrow (ha.o.not_row (by decide) ha.y)
  have h1 := ha.h.kept hgrow (ha.h.not_row (by decide) ha.y)
  have hne : bk ≠ bo := fun e => by
    have e1 := (show w1.heap[bk]? = _ from h1)
    rw [e, show w1.heap[bo]? = _ from o1] at e1
    simp at e1
  exact ⟨o1, e1.setCell (p := ⟨bo, 1, none⟩) h.lo _, own_set o1 (by decide) k1 1 v', own_set o1 (by decide) hown 1 v', held_snd o1 v', held_other h1 hne 1 v', h.lo⟩
end ExS
set_option maxRecDepth 100000 in
set_option maxHeartbeats 8000000 in
theorem extend_any (A A' Bn : Option Addr) (ca cb n cap : Nat) (c : Cal) (g : Nat → ByteArray) (p : Int) (w : World) (hC : CalAt w A ca A' cb c) (hN : RowsAt w Bn n 1 (fun i => [.string (g i)])) (hn : n ≤ 9223372036854775807) :
    Calls Tryd.prog 72 #[.agg #[.slice A c.nk ca, .slice A' c.ny cb], .slice Bn n cap, .int .i64 p] w fun e w' => ∃ F F' da db, e = .returned (.tuple #[.agg #[.slice F (c.extV g n p).nk da, .slice F' (c.extV g n p).ny db], .int .i64 (c.extE g n p)]) ∧ Ext w w' ∧ CalAt w' F da F' db (c.extV g n p) := by
  have NT := fun v (h : CalAt v A ca A' cb c) => checksNone_any A A' ca cb c v h
  cases hv : c.valid
  · have HR : Hid (c.extE g n p = 70) := by unfold Hid Cal.extE; rw [hv]; rfl
    simp only [chk_no hv] at NT
    clear hv
    go_enter Tryd.func72, Tryd.ntmps72
    go_upto_region 1 with (fail)
    obtain ⟨v, hv⟩ : ∃ v, v = ((w.alloc (.cells #[.slice A c.nk ca, .slice A' c.ny cb] 25)).alloc (.cells #[.slice none 0 0, .slice none 0 0] 25)) := ⟨_, rfl⟩
    rw [← hv]
    have E : Ext w v := by rw [hv]; exact ((Ext.refl _).alloc _).alloc _
    have B1 : Held v w.heap.size 25 #[.slice A c.nk ca, .slice A' c.ny cb] := by rw [hv]; exact (Held.new _ _ _).alloc _
    have B2 : Held v (w.heap.size + 1) 25 #[.slice none 0 0, .slice none 0 0] := by rw [hv]; exact Held.at _ _ _ _ (by simp)
    clear hv
    have C := hC.ext E
    clear hC
    generalize hb1 : w.heap.size = b1 at *
    replace hb1 := Lib.hid hb1
    obtain ⟨k0, k1⟩ := B1.c2; have lk := B1.lt
    obtain ⟨p0, p1⟩ := B2.c2; have lp := B2.lt
    go_upto_region 2 with (go_at_call 75; (with_reducible refine Calls.mono (NT _ C) ?_); rintro e v2 ⟨rfl, h⟩)
    replace E := Ext.trans E h
    replace C := C.ext h
    replace B1 := B1.ext h
    replace B2 := B2.ext h
    clear h
    clear k0 k1 lk
    clear p0 p1 lp
    obtain ⟨k0, k1⟩ := B1.c2; have lk := B1.lt
    obtain ⟨p0, p1⟩ := B2.c2; have lp := B2.lt
    have f0 := B2.frozen 0
    have f1 := B2.frozen 1
    go_wp2
    have H2 := held_two B2 (.slice none 0 0) (.slice none 0 0)
    obtain ⟨y0, y1⟩ := H2.c2
    have E2 := (E.setCell (p := ⟨b1 + 1, 0, none⟩) (by have := hb1.out; show w.heap.size ≤ b1 + 1; omega) (.slice none 0 0)).setCell (p := ⟨b1 + 1, 1, none⟩) (by have := hb1.out; show w.heap.size ≤ b1 + 1; omega) (.slice none 0 0)
    refine bodyPost_ret (v := .tuple #[.agg #[.slice none 0 0, .slice none 0 0], .int .i64 70]) (by simp [results, Tryd.results72, go_sem, y0, y1]) rfl ⟨none, none, 0, 0, by rw [HR.out]; unfold Cal.extV; rw [HR.out]; rfl, E2, by unfold Cal.extV; rw [HR.out]; exact ⟨fun h => absurd h (by show ¬ 0 < 0; omega), fun h => absurd h (by show ¬ 0 < 0; omega), Nat.zero_le _, Nat.zero_le _, Nat.le_refl _, Nat.le_refl _⟩⟩
  · have ok := valid_iff.1 hv
    have hny := ok.ny
    have hnk := ok.nk
    simp only [chk_yes hv] at NT
    by_cases hp : 1 ≤ p ∧ p ≤ 19
    · by_cases hl : n ≤ 38 ∧ c.ny + n ≤ 400
      · obtain ⟨P, rfl⟩ : ∃ P : Nat, p = (P : Int) := ⟨p.toNat, by omega⟩
        have HR : Hid (c.extE g n (P : Int) = if c.extAll P g n then 0 else 5) := by unfold Hid Cal.extE; rw [if_pos hv, if_pos hp, if_pos hl]; rfl
        have hP1 : 1 ≤ P := by omega
        have hP2 : P ≤ 19 := by omega
        have p1 : decide ((P : Int) < 1) = false := decide_eq_false (by omega)
        have p2 : decide (19 < (P : Int)) = false := decide_eq_false (by omega)
        have l1b : decide (38 < (n : Int)) = false := decide_eq_false (by omega)
        have l2b : decide (400 < (c.ny : Int) + (n : Int)) = false := decide_eq_false (by omega)
        obtain ⟨i0, hi, hz0, hz1, hz2⟩ := info_parts info_year
        clear hv ok hp
        go_enter Tryd.func72, Tryd.ntmps72
        go_upto_region 1 with (fail)
        obtain ⟨v, hv⟩ : ∃ v, v = ((w.alloc (.cells #[.slice A c.nk ca, .slice A' c.ny cb] 25)).alloc (.cells #[.slice none 0 0, .slice none 0 0] 25)) := ⟨_, rfl⟩
        rw [← hv]
        have E : Ext w v := by rw [hv]; exact ((Ext.refl _).alloc _).alloc _
        have B1 : Held v w.heap.size 25 #[.slice A c.nk ca, .slice A' c.ny cb] := by rw [hv]; exact (Held.new _ _ _).alloc _
        have B2 : Held v (w.heap.size + 1) 25 #[.slice none 0 0, .slice none 0 0] := by rw [hv]; exact Held.at _ _ _ _ (by simp)
        clear hv
        have C := hC.ext E
        clear hC
        generalize hb1 : w.heap.size = b1 at *
        replace hb1 := Lib.hid hb1
        obtain ⟨k0, k1⟩ := B1.c2; have lk := B1.lt
        obtain ⟨p0, p1⟩ := B2.c2; have lp := B2.lt
        go_upto_region 4 with (go_at_call 75; (with_reducible refine Calls.mono (NT _ C) ?_); rintro e v2 ⟨rfl, h⟩)
        replace E := Ext.trans E h
        replace C := C.ext h
        replace B1 := B1.ext h
        replace B2 := B2.ext h
        clear h
        clear k0 k1 lk
        clear p0 p1 lp
        obtain ⟨k0, k1⟩ := B1.c2; have lk := B1.lt
        obtain ⟨p0, p1⟩ := B2.c2; have lp := B2.lt
        obtain ⟨kb, ko, hA, hkb, q9⟩ := C.king (i := 0) (by omega)
        obtain ⟨yb, yo, hA', hyb, y0, y1, y2, y3⟩ := C.year (i := 0) (by omega)
        subst hA
        subst hA'
        clear q9 y0 y1 y2 y3
        have NCT := fun v (h : RowsAt v (some ⟨kb, ko, none⟩) c.nk 1 (fun i => [.string (c.kg i)])) => cloneTexts_any _ c.nk ca c.kg v h (fun h => by cases h) (by omega)
        have NCY := fun v (h : RowsAt v (some ⟨yb, yo, none⟩) c.ny 4 (fun i => (c.yr i).cells)) => cloneYears_any _ c.ny cb c.yr v h (fun h => by cases h) (by omega)
        go_upto_region 8 with (fail)
        apply wp_cut5x (S := fun w' F1 m1 F2 m2 bo => Ext v2 w' ∧ v2.heap.size ≤ bo ∧ Held w' bo 25 #[.slice F1 c.nk m1, .slice F2 c.ny m2] ∧ w'.ownsRow v2.heap.size 9 1 (.slice F1 c.nk m1) c.nk (flatL (strRow c.kg) c.nk) ∧ w'.ownsRow v2.heap.size 99 4 (.slice F2 c.ny m2) c.ny (flatL (fun i => (c.yr i).cells) c.ny))
        · refine wp_region_stepsW 9 v2 mixed rfl (Ext.refl _) ?_
          intro hne hrx v3 h3
          refine any_stills (g := 5) [0, 1, 3, 4] [_, _, _, _] ⟨rfl, rfl, rfl, rfl, trivial⟩ (by kernel_rfl) (by kernel_rfl) h3 ?_
          simp only [List.getElem_toArray, List.getElem_cons_succ, List.getElem_cons_zero]
          apply Exists.intro
          refine ⟨fun u => ?_, ?_⟩
          · repeat (first | go_big_quiet_skip | (go_big_quiet_want; go_big_quiet_op; go_big_quiet_on))
            refine wpQuiet_nil ?_
            rfl
          refine any_fork 2 7 rfl rfl (by kernel_rfl) ?_ ?_
          · simp only [List.getElem_toArray, List.getElem_cons_succ, List.getElem_cons_zero]
            go_wp2_with (go_at_call 109; (with_reducible refine Calls.mono (NCT _ (C.kings.ext h3)) ?_); rintro e w4 ⟨vk, rfl, h4, hK⟩; obtain ⟨F1, m1, rfl⟩ := own_slice hK)
            have e4 := h3.trans h4
            have hK4 := World.ownsRow.mono hK h3.size
            refine onQ_in e4 ?_
            refine any_fork 5 7 rfl rfl (by kernel_rfl) ?_ ?_
            · simp only [List.getElem_toArray, List.getElem_cons_succ, List.getElem_cons_zero]
              go_wp2_with (go_at_call 110; (with_reducible refine Calls.mono (NCY _ (C.years.ext e4)) ?_); rintro e w5 ⟨vy, rfl, h5, hY⟩; obtain ⟨F2, m2, rfl⟩ := own_slice hY)
              have e5 := e4.trans h5
              have hK5 := ownsRow_ext hK4 h5
              have hY5 := World.ownsRow.mono hY e4.size
              refine onQ_in e5 ?_
              refine any_stills (g := 2) [6] [_] ⟨rfl, trivial⟩ (by kernel_rfl) (by kernel_rfl) e5 ?_
              simp only [List.getElem_toArray, List.getElem_cons_succ, List.getElem_cons_zero]
              apply Exists.intro
              refine ⟨fun u => ?_, ?_⟩
              · repeat (first | go_big_quiet_skip | (go_big_quiet_want; go_big_quiet_op; go_big_quiet_on))
                refine wpQuiet_nil ?_
                rfl
              refine any_one 7 rfl (by kernel_rfl) ?_
              simp only [List.getElem_toArray, List.getElem_cons_succ, List.getElem_cons_zero]
              go_wp2
              refine onQ_in (e5.alloc _) ?_
              refine any_one 8 rfl (by kernel_rfl) ?_
              simp only [List.getElem_toArray, List.getElem_cons_succ, List.getElem_cons_zero]
              have hbo := (e5).size
              have HB0 := Held.new w5 25 #[.slice none 0 0, .slice none 0 0]
              have h6 : Ext w5 (w5.alloc (.cells #[.slice none 0 0, .slice none 0 0] 25)) := (Ext.refl _).alloc _
              generalize w5.heap.size = bo at *
              generalize World.alloc w5 _ = w6 at *
              have HBx := HB0
              have f0 := HBx.frozen 0
              have f1 := HBx.frozen 1
              obtain ⟨z0, z1⟩ := HBx.c2
              have lz := HBx.lt
              have hKx := ownsRow_ext hK5 h6
              have hYx := ownsRow_ext hY5 h6
              have Ex := e5.trans h6
              have H2 := held_two HBx (.slice F1 c.nk m1) (.slice F2 c.ny m2)
              have hK2 := own_set (held_fst HBx (.slice F1 c.nk m1)) (by decide) (own_set HBx (by decide) hKx 0 (.slice F1 c.nk m1)) 1 (.slice F2 c.ny m2)
              have hY2 := own_set (held_fst HBx (.slice F1 c.nk m1)) (by decide) (own_set HBx (by decide) hYx 0 (.slice F1 c.nk m1)) 1 (.slice F2 c.ny m2)
              have E2 := (Ex.setCell (p := ⟨bo, 0, none⟩) hbo (.slice F1 c.nk m1)).setCell (p := ⟨bo, 1, none⟩) hbo (.slice F2 c.ny m2)
              go_wp2
              refine onQ_in E2 ?_
              refine any_done (by kernel_rfl) ?_
              exact cut5x_is F1 m1 F2 m2 bo ⟨E2, hbo, H2, hK2, hY2⟩ rfl
            · simp only [List.getElem_toArray, List.getElem_cons_succ, List.getElem_cons_zero]
              go_wp2
              refine onQ_in (e4.alloc _) ?_
              have hbo := (e4).size
              have HB0 := Held.new w4 25 #[.slice none 0 0, .slice none 0 0]
              have h6 : Ext w4 (w4.alloc (.cells #[.slice none 0 0, .slice none 0 0] 25)) := (Ext.refl _).alloc _
              generalize w4.heap.size = bo at *
              generalize World.alloc w4 _ = w6 at *
              have e6 := e4.trans h6
              refine any_one 5 rfl (by kernel_rfl) ?_
              simp only [List.getElem_toArray, List.getElem_cons_succ, List.getElem_cons_zero]
              go_wp2_with (go_at_call 110; (with_reducible refine Calls.mono (NCY _ (C.years.ext (e6))) ?_); rintro e w5 ⟨vy, rfl, h5, hY⟩; obtain ⟨F2, m2, rfl⟩ := own_slice hY)
              have e5 := e6.trans h5
              have hK5 := ownsRow_ext hK4 (h6.trans h5)
              have hY5 := World.ownsRow.mono hY e6.size
              refine onQ_in e5 ?_
              refine any_one 6 rfl (by kernel_rfl) ?_
              simp only [List.getElem_toArray, List.getElem_cons_succ, List.getElem_cons_zero]
              go_wp2
              refine onQ_in e5 ?_
              refine any_one 8 rfl (by kernel_rfl) ?_
              simp only [List.getElem_toArray, List.getElem_cons_succ, List.getElem_cons_zero]
              have HBx := HB0.ext h5
              have f0 := HBx.frozen 0
              have f1 := HBx.frozen 1
              obtain ⟨z0, z1⟩ := HBx.c2
              have lz := HBx.lt
              have hKx := hK5
              have hYx := hY5
              have Ex := e5
              have H2 := held_two HBx (.slice F1 c.nk m1) (.slice F2 c.ny m2)
              have hK2 := own_set (held_fst HBx (.slice F1 c.nk m1)) (by decide) (own_set HBx (by decide) hKx 0 (.slice F1 c.nk m1)) 1 (.slice F2 c.ny m2)
              have hY2 := own_set (held_fst HBx (.slice F1 c.nk m1)) (by decide) (own_set HBx (by decide) hYx 0 (.slice F1 c.nk m1)) 1 (.slice F2 c.ny m2)
              have E2 := (Ex.setCell (p := ⟨bo, 0, none⟩) hbo (.slice F1 c.nk m1)).setCell (p := ⟨bo, 1, none⟩) hbo (.slice F2 c.ny m2)
              go_wp2
              refine onQ_in E2 ?_
              refine any_done (by kernel_rfl) ?_
              exact cut5x_is F1 m1 F2 m2 bo ⟨E2, hbo, H2, hK2, hY2⟩ rfl
          · simp only [List.getElem_toArray, List.getElem_cons_succ, List.getElem_cons_zero]
            go_wp2
            refine onQ_in (h3.alloc _) ?_
            have hbo := (h3).size
            have HB0 := Held.new v3 25 #[.slice none 0 0, .slice none 0 0]
            have h6 : Ext v3 (v3.alloc (.cells #[.slice none 0 0, .slice none 0 0] 25)) := (Ext.refl _).alloc _
            generalize v3.heap.size = bo at *
            generalize World.alloc v3 _ = w6 at *
            have e6 := h3.trans h6
            refine any_one 2 rfl (by kernel_rfl) ?_
            simp only [List.getElem_toArray, List.getElem_cons_succ, List.getElem_cons_zero]
            go_wp2_with (go_at_call 109; (with_reducible refine Calls.mono (NCT _ (C.kings.ext (e6))) ?_); rintro e w4 ⟨vk, rfl, h4, hK⟩; obtain ⟨F1, m1, rfl⟩ := own_slice hK)
            have e4 := e6.trans h4
            have hK4 := World.ownsRow.mono hK e6.size
            refine onQ_in e4 ?_
            refine any_one 5 rfl (by kernel_rfl) ?_
            simp only [List.getElem_toArray, List.getElem_cons_succ, List.getElem_cons_zero]
            go_wp2_with (go_at_call 110; (with_reducible refine Calls.mono (NCY _ (C.years.ext (e4))) ?_); rintro e w5 ⟨vy, rfl, h5, hY⟩; obtain ⟨F2, m2, rfl⟩ := own_slice hY)
            have e5 := e4.trans h5
            have hK5 := ownsRow_ext hK4 h5
            have hY5 := World.ownsRow.mono hY e4.size
            refine onQ_in e5 ?_
            refine any_one 6 rfl (by kernel_rfl) ?_
            simp only [List.getElem_toArray, List.getElem_cons_succ, List.getElem_cons_zero]
            go_wp2
            refine onQ_in e5 ?_
            refine any_one 8 rfl (by kernel_rfl) ?_
            simp only [List.getElem_toArray, List.getElem_cons_succ, List.getElem_cons_zero]
            have HBx := (HB0.ext h4).ext h5
            have f0 := HBx.frozen 0
            have f1 := HBx.frozen 1
            obtain ⟨z0, z1⟩ := HBx.c2
            have lz := HBx.lt
            have hKx := hK5
            have hYx := hY5
            have Ex := e5
            have H2 := held_two HBx (.slice F1 c.nk m1) (.slice F2 c.ny m2)
            have hK2 := own_set (held_fst HBx (.slice F1 c.nk m1)) (by decide) (own_set HBx (by decide) hKx 0 (.slice F1 c.nk m1)) 1 (.slice F2 c.ny m2)
            have hY2 := own_set (held_fst HBx (.slice F1 c.nk m1)) (by decide) (own_set HBx (by decide) hYx 0 (.slice F1 c.nk m1)) 1 (.slice F2 c.ny m2)
            have E2 := (Ex.setCell (p := ⟨bo, 0, none⟩) hbo (.slice F1 c.nk m1)).setCell (p := ⟨bo, 1, none⟩) hbo (.slice F2 c.ny m2)
            go_wp2
            refine onQ_in E2 ?_
            refine any_done (by kernel_rfl) ?_
            exact cut5x_is F1 m1 F2 m2 bo ⟨E2, hbo, H2, hK2, hY2⟩ rfl
        · intro F1 m1 F2 m2 bo wf ⟨Ef, hbo, HBo, hK, hY⟩
          clear NCT NCY
          have Cf := C.ext Ef
          have B1f := B1.ext Ef
          clear k0 k1 lk
          obtain ⟨k0, k1⟩ := B1f.c2
          have lk := B1f.lt
          obtain ⟨yb', yo', ee, hyb', y0, y1, y2, y3⟩ := Cf.year (i := c.ny - 1) (by omega)
          cases ee
          obtain ⟨K, hKK⟩ : ∃ K, K = (c.yr (c.ny - 1)).k := ⟨_, rfl⟩
          have hLK : Hid (c.lastK = K) := hKK.symm
          rw [← hKK] at y0
          clear hKK y1 y2 y3
          have x0 : (0 : Int) ≤ (c.ny : Int) - 1 := by omega
          have x1 : (c.ny : Int) - 1 < (c.ny : Int) := by omega
          go_upto_region 10 with (fail)
          obtain ⟨wk, hwk⟩ : ∃ x, x = wf.alloc (.cells #[.int .i64 K] 3) := ⟨_, rfl⟩
          rw [← hwk]
          have hk6 : Ext wf wk := by rw [hwk]; exact (Ext.refl _).alloc _
          have HBk : Held wk wf.heap.size 3 #[.int .i64 K] := by rw [hwk]; exact Held.new _ _ _
          have hS0 : ExS v2 wk bo wf.heap.size K (.slice F1 c.nk m1) (.slice F2 c.ny m2) c.nk (flatL (strRow c.kg) c.nk) c.ny (flatL (fun i => (c.yr i).cells) c.ny) := ⟨Ef.trans hk6, ownsRow_ext hK hk6, ownsRow_ext hY hk6, HBo.ext hk6, HBk, hbo⟩
          clear hwk hk6 HBk HBo hK hY B1f Cf
          generalize wf.heap.size = bk at *
          have hS1 : ∃ vy, ExS v2 wk bo bk K (.slice F1 c.nk m1) vy c.nk (flatL (strRow c.kg) c.nk) (c.ny + 0) (flatL (fun i => (c.extY P g i).cells) (c.ny + 0)) := ⟨_, by
            rw [Nat.add_zero, show flatL (fun i => (c.extY P g i).cells) c.ny = flatL (fun i => (c.yr i).cells) c.ny from flatL_congr fun i hi => by rw [extY_old hi]]
            exact hS0⟩
          clear hS0
          go_upto_region 11 with (fail)
          go_loopw [2, 58] (fun pv iv wr => ∃ k : Nat, k ≤ n ∧ iv = .int .i64 (k : Int) ∧ pv = .int .i64 (placeAt P k : Int) ∧ Hid (∀ i, i < k → c.extGood P g i = true) ∧ ∃ vy, ExS v2 wr bo bk K (.slice F1 c.nk m1) vy c.nk (flatL (strRow c.kg) c.nk) (c.ny + k) (flatL (fun i => (c.extY P g i).cells) (c.ny + k))) (fun _ iv _ => n - (intOf iv).toNat)
          case atStart => exact ⟨0, Nat.zero_le _, rfl, by rw [placeAt_zero hP1 hP2], fun i h => absurd h (by omega), hS1⟩
          case round =>
            clear hS1 k0 k1 lk y0
            obtain ⟨k, hk, rfl, rfl, hgood, vy, hS⟩ := hrel
            obtain ⟨wo, rfl⟩ : ∃ wo : World, wo = wr := ⟨_, rfl⟩
            by_cases hlt : k < n
            · obtain ⟨nb, no, hNN, hnb, hc⟩ := (hN.ext (E.trans hS.e)) (by omega)
              subst hNN
              have c0 : wo.cell? ⟨nb, no + k, none⟩ = some (.string (g k)) := by simpa using hc k 0 _ hlt rfl
              clear hc
              have hpb := placeAt_bd P k
              have hps := Lib.hid (placeAt_succ P k)
              have hnew := Lib.hid (extY_new c P g k)
              have hEG : Hid (c.extGood P g k = (isName (g k) && !((List.range (c.ny + k)).any fun j => isYr K (g k) (c.extY P g j)))) := by
                show _ = _
                rw [← hLK.out]; rfl
              go_upto_region 13 with (fail)
              obtain ⟨ws, hws⟩ : ∃ x, x = wo.alloc (.cells #[.string (g k)] 9) := ⟨_, rfl⟩
              rw [← hws]
              have h6 : Ext wo ws := by rw [hws]; exact (Ext.refl _).alloc _
              have HBs : Held ws wo.heap.size 9 #[.string (g k)] := by rw [hws]; exact Held.new _ _ _
              clear hws c0
              generalize wo.heap.size = bs at *
              have hSs := hS.ext h6
              clear hS
              obtain ⟨F3, m3, rfl, hRY, hm3, hm4, hm5, hm6⟩ := flat_rows (f := fun i => (c.extY P g i).cells) (sz := 4) (fun _ => rfl) hSs.y
              have NCF := contains_any F3 (c.ny + k) m3 (c.extY P g) K (g k) bk bs ws hRY (by omega) (by simpa using hSs.h.cell 0) (by simpa using HBs.cell 0) hSs.h.lt HBs.lt
              have NIS := isName_any (g k) ws
              generalize ((List.range (c.ny + k)).any fun j => isYr K (g k) (c.extY P g j)) = ab at *
              generalize isName (g k) = ib at *
              obtain ⟨o0, o1⟩ := hSs.o.c2
              have lo := hSs.o.lt
              obtain s0 : ws.cell? ⟨bs, 0, none⟩ = some (.string (g k)) := by simpa using HBs.cell 0
              have ls := HBs.lt
              cases ib
              · have HR3 : Hid (c.extE g n (P : Int) = 5) := by unfold Hid; rw [HR.out, extAll_no hlt (by rw [hEG.out]; rfl)]; rfl
                have BZ := B2.ext hSs.e
                have EZ := E.trans hSs.e
                have f0 := BZ.frozen 0
                have f1 := BZ.frozen 1
                obtain ⟨r0, r1⟩ := BZ.c2
                have lr := BZ.lt
                go_wp2_with (go_at_call 111; refine NIS.mono ?_; rintro e w' ⟨rfl, rfl⟩)
                have H2 := held_two BZ (.slice none 0 0) (.slice none 0 0)
                obtain ⟨y0, y1⟩ := H2.c2
                have E2 := (EZ.setCell (p := ⟨b1 + 1, 0, none⟩) (by have := hb1.out; show w.heap.size ≤ b1 + 1; omega) (.slice none 0 0)).setCell (p := ⟨b1 + 1, 1, none⟩) (by have := hb1.out; show w.heap.size ≤ b1 + 1; omega) (.slice none 0 0)
                refine bodyPost_ret (v := .tuple #[.agg #[.slice none 0 0, .slice none 0 0], .int .i64 5]) (by simp [results, Tryd.results72, go_sem, y0, y1]) rfl ⟨none, none, 0, 0, by rw [HR3.out]; unfold Cal.extV; rw [HR3.out]; rfl, E2, by unfold Cal.extV; rw [HR3.out]; exact ⟨fun h => absurd h (by show ¬ 0 < 0; omega), fun h => absurd h (by show ¬ 0 < 0; omega), Nat.zero_le _, Nat.zero_le _, Nat.le_refl _, Nat.le_refl _⟩⟩
              · cases ab
                · have hgk : c.extGood P g k = true := hEG.out
                  clear hEG
                  go_upto_region 15 with (first | (go_at_call 111; refine NIS.mono ?_; rintro e w' ⟨rfl, rfl⟩) | (go_at_call 112; (with_reducible refine Calls.mono NCF ?_); rintro e w7 ⟨rfl, h7⟩))
                  have S7 := hSs.ext h7
                  have HBs7 := HBs.ext h7
                  clear hSs HBs NCF NIS o0 o1 lo s0 ls hRY hm3 hm4 hm5 hm6
                  have hkc : w7.cell? ⟨bk, 0, none⟩ = some (.int .i64 K) := by simpa using S7.h.cell 0
                  have hsc : w7.cell? ⟨bs, 0, none⟩ = some (.string (g k)) := by simpa using HBs7.cell 0
                  have lkc := S7.h.lt
                  have lsc := HBs7.lt
                  have ND := fun w => double_any (placeAt P k) hpb.1 hpb.2 w
                  generalize placeAt P k = q at *
                  have hdc := dbl_cases q
                  generalize hdq : dbl q = dq at *
                  apply wp_cut1x (S := fun w' r => Ext w7 w' ∧ w7.heap.size ≤ r ∧ Held w' r 99 #[.int .i64 K, .string (g k), .int .i64 1365, .int .i64 dq])
                  · refine wp_region_stepsW 7 w7 mixed rfl (Ext.refl _) ?_
                    intro hne hrx v3 h3
                    refine any_stills (g := 4) [0, 1, 2] [_, _, _] ⟨rfl, rfl, rfl, trivial⟩ (by kernel_rfl) (by kernel_rfl) h3 ?_
                    simp only [List.getElem_toArray, List.getElem_cons_succ, List.getElem_cons_zero]
                    apply Exists.intro
                    refine ⟨fun u => ?_, ?_⟩
                    · repeat (first | go_big_quiet_skip | (go_big_quiet_want; go_big_quiet_op; go_big_quiet_on))
                      refine wpQuiet_nil ?_
                      rfl
                    refine any_fork 3 5 rfl rfl (by kernel_rfl) ?_ ?_
                    · simp only [List.getElem_toArray, List.getElem_cons_succ, List.getElem_cons_zero]
                      go_wp2_with (go_at_call 114; (with_reducible refine Calls.mono (ND _) ?_); rintro e w8 ⟨rfl, h8⟩)
                      have e8 := h3.trans h8
                      refine onQ_in e8 ?_
                      refine any_stills (g := 2) [4] [_] ⟨rfl, trivial⟩ (by kernel_rfl) (by kernel_rfl) e8 ?_
                      simp only [List.getElem_toArray, List.getElem_cons_succ, List.getElem_cons_zero]
                      apply Exists.intro
                      refine ⟨fun u => ?_, ?_⟩
                      · repeat (first | go_big_quiet_skip | (go_big_quiet_want; go_big_quiet_op; go_big_quiet_on))
                        refine wpQuiet_nil ?_
                        rfl
                      refine any_one 5 rfl (by kernel_rfl) ?_
                      simp only [List.getElem_toArray, List.getElem_cons_succ, List.getElem_cons_zero]
                      go_wp2
                      refine onQ_in (e8.alloc _) ?_
                      refine any_one 6 rfl (by kernel_rfl) ?_
                      simp only [List.getElem_toArray, List.getElem_cons_succ, List.getElem_cons_zero]
                      have hle := e8.size
                      have HB0 := Held.new w8 99 #[.int .i64 0, .string ⟨#[]⟩, .int .i64 0, .int .i64 0]
                      have h6' : Ext w8 (w8.alloc (.cells #[.int .i64 0, .string ⟨#[]⟩, .int .i64 0, .int .i64 0] 99)) := (Ext.refl _).alloc _
                      generalize w8.heap.size = by_ at *
                      generalize World.alloc w8 _ = w9 at *
                      have e9 := e8.trans h6'
                      have g0 := HB0.frozen 0
                      have g1 := HB0.frozen 1
                      have g2 := HB0.frozen 2
                      have g3 := HB0.frozen 3
                      obtain ⟨t0, t1, t2, t3⟩ := HB0.c4
                      have lt := HB0.lt
                      obtain hx := held_set4 HB0 (.int .i64 K) (.string (g k)) (.int .i64 1365) (.int .i64 dq)
                      have ex := (four_set HB0 (.int .i64 K) (.string (g k)) (.int .i64 1365) (.int .i64 dq)).2 w7 e9 hle
                      go_wp2
                      refine onQ_in ex ?_
                      refine any_done (by kernel_rfl) ?_
                      exact cut1x_is by_ ⟨ex, hle, hx⟩ rfl
                    · simp only [List.getElem_toArray, List.getElem_cons_succ, List.getElem_cons_zero]
                      go_wp2
                      refine onQ_in (h3.alloc _) ?_
                      have hle := h3.size
                      have HB0 := Held.new v3 99 #[.int .i64 0, .string ⟨#[]⟩, .int .i64 0, .int .i64 0]
                      have h6' : Ext v3 (v3.alloc (.cells #[.int .i64 0, .string ⟨#[]⟩, .int .i64 0, .int .i64 0] 99)) := (Ext.refl _).alloc _
                      generalize v3.heap.size = by_ at *
                      generalize World.alloc v3 _ = w8 at *
                      have e8 := h3.trans h6'
                      refine any_one 3 rfl (by kernel_rfl) ?_
                      simp only [List.getElem_toArray, List.getElem_cons_succ, List.getElem_cons_zero]
                      go_wp2_with (go_at_call 114; (with_reducible refine Calls.mono (ND _) ?_); rintro e w9 ⟨rfl, h8⟩)
                      have e9 := e8.trans h8
                      replace HB0 := HB0.ext h8
                      refine onQ_in e9 ?_
                      refine any_one 4 rfl (by kernel_rfl) ?_
                      simp only [List.getElem_toArray, List.getElem_cons_succ, List.getElem_cons_zero]
                      go_wp2
                      refine onQ_in e9 ?_
                      refine any_one 6 rfl (by kernel_rfl) ?_
                      simp only [List.getElem_toArray, List.getElem_cons_succ, List.getElem_cons_zero]
                      have g0 := HB0.frozen 0
                      have g1 := HB0.frozen 1
                      have g2 := HB0.frozen 2
                      have g3 := HB0.frozen 3
                      obtain ⟨t0, t1, t2, t3⟩ := HB0.c4
                      have lt := HB0.lt
                      obtain hx := held_set4 HB0 (.int .i64 K) (.string (g k)) (.int .i64 1365) (.int .i64 dq)
                      have ex := (four_set HB0 (.int .i64 K) (.string (g k)) (.int .i64 1365) (.int .i64 dq)).2 w7 e9 hle
                      go_wp2
                      refine onQ_in ex ?_
                      refine any_done (by kernel_rfl) ?_
                      exact cut1x_is by_ ⟨ex, hle, hx⟩ rfl
                  · intro by_ w9 ⟨e9, hle, HBy⟩
                    have HDQ := Lib.hid hdq
                    clear hdq hkc hsc lkc lsc ND
                    rcases hdc with rfl | rfl | rfl
                    · have S9 := S7.ext e9
                      obtain ⟨o0, o1⟩ := S9.o.c2
                      have lo := S9.o.lt
                      obtain ⟨t0, t1, t2, t3⟩ := HBy.c4
                      have lt := HBy.lt
                      go_wp2_with (at_builtin; refine wpList_append_own _ rfl _ _ 23 rfl v2.heap.size 99 i0 (.agg #[.int .i64 0, .string ⟨#[]⟩, .int .i64 0, .int .i64 0]) 4 40 Tryd.underlying23 hi hz0 hz1 hz2 rfl (by decide) _ _ _ rfl (S9.y.alloc _) ⟨w9.heap.size, 0, none⟩ 1 1 [.int .i64 K, .string (g k), .int .i64 1365, .int .i64 0] rfl rfl (cells_newL _ _ _) (by simp [Value.oneCell']) (by unfold maxLen; omega) (by omega) (by have := S9.e.size; simp; omega) ?_; intro v' w11 hown' hgrow hnil; obtain ⟨F4, m4, rfl⟩ := own_slice hown'; obtain ⟨hO, hP⟩ := S9.push hown' hgrow; obtain ⟨z0, z1⟩ := hO.c2; have fz := hO.frozen 1; have lz := hO.lt)
                      have hfl : Hid (flatL (fun i => (c.extY P g i).cells) (c.ny + k) ++ [.int .i64 K, .string (g k), .int .i64 1365, .int .i64 0] = flatL (fun i => (c.extY P g i).cells) (c.ny + (k + 1))) := by
                        unfold Hid
                        rw [show c.ny + (k + 1) = c.ny + k + 1 from rfl, flatL_succ, hnew.out]
                        unfold newYr lgOf
                        rw [hLK.out, HDQ.out]; rfl
                      exact ⟨⟨k + 1, by omega, by go_num, by rw [hps.out]; go_num, fun i hi => by
                        by_cases e : i = k
                        · subst e; exact hgk
                        · exact hgood.out i (by omega), _, by rw [← hfl.out]; exact hP⟩, by simp [intOf]; omega⟩
                    · obtain ⟨t0, t1, t2, t3⟩ := HBy.c4
                      have g2 := HBy.frozen 2
                      have lt := HBy.lt
                      have hor : bits BinOp.or IntKind.i64 1365 4096 = 5461 := by kernel_rfl
                      go_upto_region 18 with (fail)
                      obtain ⟨w10, h10⟩ : ∃ x, x = w9.setCell ⟨by_, 2, none⟩ (.int .i64 5461) := ⟨_, rfl⟩
                      rw [← h10]
                      have e10 : Ext w7 w10 := by rw [h10]; exact e9.setCell (p := ⟨by_, 2, none⟩) hle _
                      have HB10 : Held w10 by_ 99 #[.int .i64 K, .string (g k), .int .i64 5461, .int .i64 6] := by rw [h10]; exact held_third HBy _
                      clear h10 t0 t1 t2 t3 g2 lt
                      have S10 := S7.ext e10
                      obtain ⟨o0, o1⟩ := S10.o.c2
                      have lo := S10.o.lt
                      obtain ⟨t0, t1, t2, t3⟩ := HB10.c4
                      have lt := HB10.lt
                      go_wp2_with (at_builtin; refine wpList_append_own _ rfl _ _ 23 rfl v2.heap.size 99 i0 (.agg #[.int .i64 0, .string ⟨#[]⟩, .int .i64 0, .int .i64 0]) 4 40 Tryd.underlying23 hi hz0 hz1 hz2 rfl (by decide) _ _ _ rfl (S10.y.alloc _) ⟨w10.heap.size, 0, none⟩ 1 1 [.int .i64 K, .string (g k), .int .i64 5461, .int .i64 6] rfl rfl (cells_newL _ _ _) (by simp [Value.oneCell']) (by unfold maxLen; omega) (by omega) (by have := S10.e.size; simp; omega) ?_; intro v' w11 hown' hgrow hnil; obtain ⟨F4, m4, rfl⟩ := own_slice hown'; obtain ⟨hO, hP⟩ := S10.push hown' hgrow; obtain ⟨z0, z1⟩ := hO.c2; have fz := hO.frozen 1; have lz := hO.lt)
                      have hfl : Hid (flatL (fun i => (c.extY P g i).cells) (c.ny + k) ++ [.int .i64 K, .string (g k), .int .i64 5461, .int .i64 6] = flatL (fun i => (c.extY P g i).cells) (c.ny + (k + 1))) := by
                        unfold Hid
                        rw [show c.ny + (k + 1) = c.ny + k + 1 from rfl, flatL_succ, hnew.out]
                        unfold newYr lgOf
                        rw [hLK.out, HDQ.out]; rfl
                      exact ⟨⟨k + 1, by omega, by go_num, by rw [hps.out]; go_num, fun i hi => by
                        by_cases e : i = k
                        · subst e; exact hgk
                        · exact hgood.out i (by omega), _, by rw [← hfl.out]; exact hP⟩, by simp [intOf]; omega⟩
                    · obtain ⟨t0, t1, t2, t3⟩ := HBy.c4
                      have g2 := HBy.frozen 2
                      have lt := HBy.lt
                      have hor : bits BinOp.or IntKind.i64 1365 4096 = 5461 := by kernel_rfl
                      go_upto_region 18 with (fail)
                      obtain ⟨w10, h10⟩ : ∃ x, x = w9.setCell ⟨by_, 2, none⟩ (.int .i64 5461) := ⟨_, rfl⟩
                      rw [← h10]
                      have e10 : Ext w7 w10 := by rw [h10]; exact e9.setCell (p := ⟨by_, 2, none⟩) hle _
                      have HB10 : Held w10 by_ 99 #[.int .i64 K, .string (g k), .int .i64 5461, .int .i64 12] := by rw [h10]; exact held_third HBy _
                      clear h10 t0 t1 t2 t3 g2 lt
                      have S10 := S7.ext e10
                      obtain ⟨o0, o1⟩ := S10.o.c2
                      have lo := S10.o.lt
                      obtain ⟨t0, t1, t2, t3⟩ := HB10.c4
                      have lt := HB10.lt
                      go_wp2_with (at_builtin; refine wpList_append_own _ rfl _ _ 23 rfl v2.heap.size 99 i0 (.agg #[.int .i64 0, .string ⟨#[]⟩, .int .i64 0, .int .i64 0]) 4 40 Tryd.underlying23 hi hz0 hz1 hz2 rfl (by decide) _ _ _ rfl (S10.y.alloc _) ⟨w10.heap.size, 0, none⟩ 1 1 [.int .i64 K, .string (g k), .int .i64 5461, .int .i64 12] rfl rfl (cells_newL _ _ _) (by simp [Value.oneCell']) (by unfold maxLen; omega) (by omega) (by have := S10.e.size; simp; omega) ?_; intro v' w11 hown' hgrow hnil; obtain ⟨F4, m4, rfl⟩ := own_slice hown'; obtain ⟨hO, hP⟩ := S10.push hown' hgrow; obtain ⟨z0, z1⟩ := hO.c2; have fz := hO.frozen 1; have lz := hO.lt)
                      have hfl : Hid (flatL (fun i => (c.extY P g i).cells) (c.ny + k) ++ [.int .i64 K, .string (g k), .int .i64 5461, .int .i64 12] = flatL (fun i => (c.extY P g i).cells) (c.ny + (k + 1))) := by
                        unfold Hid
                        rw [show c.ny + (k + 1) = c.ny + k + 1 from rfl, flatL_succ, hnew.out]
                        unfold newYr lgOf
                        rw [hLK.out, HDQ.out]; rfl
                      exact ⟨⟨k + 1, by omega, by go_num, by rw [hps.out]; go_num, fun i hi => by
                        by_cases e : i = k
                        · subst e; exact hgk
                        · exact hgood.out i (by omega), _, by rw [← hfl.out]; exact hP⟩, by simp [intOf]; omega⟩
                · have HR3 : Hid (c.extE g n (P : Int) = 5) := by unfold Hid; rw [HR.out, extAll_no hlt (by rw [hEG.out]; rfl)]; rfl
                  go_wp2_with (first | (go_at_call 111; refine NIS.mono ?_; rintro e w' ⟨rfl, rfl⟩) | (go_at_call 112; (with_reducible refine Calls.mono NCF ?_); rintro e w7 ⟨rfl, h7⟩; have BZ := B2.ext (hSs.e.trans h7); have f0 := BZ.frozen 0; have f1 := BZ.frozen 1; obtain ⟨r0, r1⟩ := BZ.c2; have lr := BZ.lt))
                  have EZ := E.trans (hSs.e.trans h7)
                  have H2 := held_two BZ (.slice none 0 0) (.slice none 0 0)
                  obtain ⟨y0, y1⟩ := H2.c2
                  have E2 := (EZ.setCell (p := ⟨b1 + 1, 0, none⟩) (by have := hb1.out; show w.heap.size ≤ b1 + 1; omega) (.slice none 0 0)).setCell (p := ⟨b1 + 1, 1, none⟩) (by have := hb1.out; show w.heap.size ≤ b1 + 1; omega) (.slice none 0 0)
                  refine bodyPost_ret (v := .tuple #[.agg #[.slice none 0 0, .slice none 0 0], .int .i64 5]) (by simp [results, Tryd.results72, go_sem, y0, y1]) rfl ⟨none, none, 0, 0, by rw [HR3.out]; unfold Cal.extV; rw [HR3.out]; rfl, E2, by unfold Cal.extV; rw [HR3.out]; exact ⟨fun h => absurd h (by show ¬ 0 < 0; omega), fun h => absurd h (by show ¬ 0 < 0; omega), Nat.zero_le _, Nat.zero_le _, Nat.le_refl _, Nat.le_refl _⟩⟩
            · obtain rfl : k = n := by omega
              have hall := extAll_yes (c := c) (p := P) (g := g) (n := k) hgood.out
              have HR3 : Hid (c.extE g k (P : Int) = 0) := by unfold Hid; rw [HR.out, if_pos hall]
              have HV3 : Hid (c.extV g k (P : Int) = c.ext P g k) := by unfold Hid Cal.extV; rw [if_pos HR3.out]; rfl
              obtain ⟨F4, m4, rfl⟩ := own_slice hS.y
              obtain ⟨F5, m5, e5, hRK, a1, a2, a3, a4⟩ := flat_rows (f := strRow c.kg) (sz := 1) (fun _ => rfl) hS.k
              cases e5
              obtain ⟨F6, m6, e6, hRY, d1, d2, d3, d4⟩ := flat_rows (f := fun i => (c.extY P g i).cells) (sz := 4) (fun _ => rfl) hS.y
              cases e6
              have hb2 := B2.lt
              have BZ := B2.ext hS.e
              have EZ := E.trans hS.e
              have f0 := BZ.frozen 0
              have f1 := BZ.frozen 1
              obtain ⟨r0, r1⟩ := BZ.c2
              have lr := BZ.lt
              obtain ⟨o0, o1⟩ := hS.o.c2
              have lo := hS.o.lt
              go_wp2
              have H2 := held_two BZ (.slice F1 c.nk m1) (.slice F4 (c.ny + k) m4)
              obtain ⟨y0, y1⟩ := H2.c2
              have E2 := (EZ.setCell (p := ⟨b1 + 1, 0, none⟩) (by have := hb1.out; show w.heap.size ≤ b1 + 1; omega) (.slice F1 c.nk m1)).setCell (p := ⟨b1 + 1, 1, none⟩) (by have := hb1.out; show w.heap.size ≤ b1 + 1; omega) (.slice F4 (c.ny + k) m4)
              have hm63 : maxLen ≤ 9223372036854775807 := by decide
              refine bodyPost_ret (v := .tuple #[.agg #[.slice F1 c.nk m1, .slice F4 (c.ny + k) m4], .int .i64 0]) (by simp [results, Tryd.results72, go_sem, y0, y1]) rfl ⟨F1, F4, m1, m4, by rw [HR3.out, HV3.out]; rfl, E2, by
                rw [HV3.out]
                exact ⟨rows_set2 hRK (fun a h => by have := a4 a h; omega) 0 1 _ _, rows_set2 hRY (fun a h => by have := d4 a h; omega) 0 1 _ _, by show c.nk ≤ _; omega, by show c.ny + k ≤ _; omega, a1, d1⟩⟩
      · have HR : Hid (c.extE g n p = 3) := by unfold Hid Cal.extE; rw [if_pos hv, if_pos hp, if_neg hl]
        have p1 : decide (p < 1) = false := decide_eq_false (by omega)
        have p2 : decide (19 < p) = false := decide_eq_false (by omega)
        have hl2 : 38 < n ∨ (n ≤ 38 ∧ 400 < c.ny + n) := by omega
        clear hv ok hp
        rcases hl2 with l1 | ⟨l1, l2⟩
        · have l1b : decide (38 < (n : Int)) = true := decide_eq_true (by omega)
          go_enter Tryd.func72, Tryd.ntmps72
          go_upto_region 1 with (fail)
          obtain ⟨v, hv⟩ : ∃ v, v = ((w.alloc (.cells #[.slice A c.nk ca, .slice A' c.ny cb] 25)).alloc (.cells #[.slice none 0 0, .slice none 0 0] 25)) := ⟨_, rfl⟩
          rw [← hv]
          have E : Ext w v := by rw [hv]; exact ((Ext.refl _).alloc _).alloc _
          have B1 : Held v w.heap.size 25 #[.slice A c.nk ca, .slice A' c.ny cb] := by rw [hv]; exact (Held.new _ _ _).alloc _
          have B2 : Held v (w.heap.size + 1) 25 #[.slice none 0 0, .slice none 0 0] := by rw [hv]; exact Held.at _ _ _ _ (by simp)
          clear hv
          have C := hC.ext E
          clear hC
          generalize hb1 : w.heap.size = b1 at *
          replace hb1 := Lib.hid hb1
          obtain ⟨k0, k1⟩ := B1.c2; have lk := B1.lt
          obtain ⟨p0, p1⟩ := B2.c2; have lp := B2.lt
          go_upto_region 4 with (go_at_call 75; (with_reducible refine Calls.mono (NT _ C) ?_); rintro e v2 ⟨rfl, h⟩)
          replace E := Ext.trans E h
          replace C := C.ext h
          replace B1 := B1.ext h
          replace B2 := B2.ext h
          clear h
          clear k0 k1 lk
          clear p0 p1 lp
          obtain ⟨k0, k1⟩ := B1.c2; have lk := B1.lt
          obtain ⟨p0, p1⟩ := B2.c2; have lp := B2.lt
          have f0 := B2.frozen 0
          have f1 := B2.frozen 1
          go_wp2
          have H2 := held_two B2 (.slice none 0 0) (.slice none 0 0)
          obtain ⟨y0, y1⟩ := H2.c2
          have E2 := (E.setCell (p := ⟨b1 + 1, 0, none⟩) (by have := hb1.out; show w.heap.size ≤ b1 + 1; omega) (.slice none 0 0)).setCell (p := ⟨b1 + 1, 1, none⟩) (by have := hb1.out; show w.heap.size ≤ b1 + 1; omega) (.slice none 0 0)
          refine bodyPost_ret (v := .tuple #[.agg #[.slice none 0 0, .slice none 0 0], .int .i64 3]) (by simp [results, Tryd.results72, go_sem, y0, y1]) rfl ⟨none, none, 0, 0, by rw [HR.out]; unfold Cal.extV; rw [HR.out]; rfl, E2, by unfold Cal.extV; rw [HR.out]; exact ⟨fun h => absurd h (by show ¬ 0 < 0; omega), fun h => absurd h (by show ¬ 0 < 0; omega), Nat.zero_le _, Nat.zero_le _, Nat.le_refl _, Nat.le_refl _⟩⟩
        · have l1b : decide (38 < (n : Int)) = false := decide_eq_false (by omega)
          have l2b : decide (400 < (c.ny : Int) + (n : Int)) = true := decide_eq_true (by omega)
          go_enter Tryd.func72, Tryd.ntmps72
          go_upto_region 1 with (fail)
          obtain ⟨v, hv⟩ : ∃ v, v = ((w.alloc (.cells #[.slice A c.nk ca, .slice A' c.ny cb] 25)).alloc (.cells #[.slice none 0 0, .slice none 0 0] 25)) := ⟨_, rfl⟩
          rw [← hv]
          have E : Ext w v := by rw [hv]; exact ((Ext.refl _).alloc _).alloc _
          have B1 : Held v w.heap.size 25 #[.slice A c.nk ca, .slice A' c.ny cb] := by rw [hv]; exact (Held.new _ _ _).alloc _
          have B2 : Held v (w.heap.size + 1) 25 #[.slice none 0 0, .slice none 0 0] := by rw [hv]; exact Held.at _ _ _ _ (by simp)
          clear hv
          have C := hC.ext E
          clear hC
          generalize hb1 : w.heap.size = b1 at *
          replace hb1 := Lib.hid hb1
          obtain ⟨k0, k1⟩ := B1.c2; have lk := B1.lt
          obtain ⟨p0, p1⟩ := B2.c2; have lp := B2.lt
          go_upto_region 4 with (go_at_call 75; (with_reducible refine Calls.mono (NT _ C) ?_); rintro e v2 ⟨rfl, h⟩)
          replace E := Ext.trans E h
          replace C := C.ext h
          replace B1 := B1.ext h
          replace B2 := B2.ext h
          clear h
          clear k0 k1 lk
          clear p0 p1 lp
          obtain ⟨k0, k1⟩ := B1.c2; have lk := B1.lt
          obtain ⟨p0, p1⟩ := B2.c2; have lp := B2.lt
          have f0 := B2.frozen 0
          have f1 := B2.frozen 1
          go_wp2
          have H2 := held_two B2 (.slice none 0 0) (.slice none 0 0)
          obtain ⟨y0, y1⟩ := H2.c2
          have E2 := (E.setCell (p := ⟨b1 + 1, 0, none⟩) (by have := hb1.out; show w.heap.size ≤ b1 + 1; omega) (.slice none 0 0)).setCell (p := ⟨b1 + 1, 1, none⟩) (by have := hb1.out; show w.heap.size ≤ b1 + 1; omega) (.slice none 0 0)
          refine bodyPost_ret (v := .tuple #[.agg #[.slice none 0 0, .slice none 0 0], .int .i64 3]) (by simp [results, Tryd.results72, go_sem, y0, y1]) rfl ⟨none, none, 0, 0, by rw [HR.out]; unfold Cal.extV; rw [HR.out]; rfl, E2, by unfold Cal.extV; rw [HR.out]; exact ⟨fun h => absurd h (by show ¬ 0 < 0; omega), fun h => absurd h (by show ¬ 0 < 0; omega), Nat.zero_le _, Nat.zero_le _, Nat.le_refl _, Nat.le_refl _⟩⟩
    · have HR : Hid (c.extE g n p = 8) := by unfold Hid Cal.extE; rw [if_pos hv, if_neg hp]
      clear hv ok
      by_cases h1 : p < 1
      · have p1 : decide (p < 1) = true := decide_eq_true h1
        go_enter Tryd.func72, Tryd.ntmps72
        go_upto_region 1 with (fail)
        obtain ⟨v, hv⟩ : ∃ v, v = ((w.alloc (.cells #[.slice A c.nk ca, .slice A' c.ny cb] 25)).alloc (.cells #[.slice none 0 0, .slice none 0 0] 25)) := ⟨_, rfl⟩
        rw [← hv]
        have E : Ext w v := by rw [hv]; exact ((Ext.refl _).alloc _).alloc _
        have B1 : Held v w.heap.size 25 #[.slice A c.nk ca, .slice A' c.ny cb] := by rw [hv]; exact (Held.new _ _ _).alloc _
        have B2 : Held v (w.heap.size + 1) 25 #[.slice none 0 0, .slice none 0 0] := by rw [hv]; exact Held.at _ _ _ _ (by simp)
        clear hv
        have C := hC.ext E
        clear hC
        generalize hb1 : w.heap.size = b1 at *
        replace hb1 := Lib.hid hb1
        obtain ⟨k0, k1⟩ := B1.c2; have lk := B1.lt
        obtain ⟨p0, p1⟩ := B2.c2; have lp := B2.lt
        go_upto_region 4 with (go_at_call 75; (with_reducible refine Calls.mono (NT _ C) ?_); rintro e v2 ⟨rfl, h⟩)
        replace E := Ext.trans E h
        replace C := C.ext h
        replace B1 := B1.ext h
        replace B2 := B2.ext h
        clear h
        clear k0 k1 lk
        clear p0 p1 lp
        obtain ⟨k0, k1⟩ := B1.c2; have lk := B1.lt
        obtain ⟨p0, p1⟩ := B2.c2; have lp := B2.lt
        have f0 := B2.frozen 0
        have f1 := B2.frozen 1
        go_wp2
        have H2 := held_two B2 (.slice none 0 0) (.slice none 0 0)
        obtain ⟨y0, y1⟩ := H2.c2
        have E2 := (E.setCell (p := ⟨b1 + 1, 0, none⟩) (by have := hb1.out; show w.heap.size ≤ b1 + 1; omega) (.slice none 0 0)).setCell (p := ⟨b1 + 1, 1, none⟩) (by have := hb1.out; show w.heap.size ≤ b1 + 1; omega) (.slice none 0 0)
        refine bodyPost_ret (v := .tuple #[.agg #[.slice none 0 0, .slice none 0 0], .int .i64 8]) (by simp [results, Tryd.results72, go_sem, y0, y1]) rfl ⟨none, none, 0, 0, by rw [HR.out]; unfold Cal.extV; rw [HR.out]; rfl, E2, by unfold Cal.extV; rw [HR.out]; exact ⟨fun h => absurd h (by show ¬ 0 < 0; omega), fun h => absurd h (by show ¬ 0 < 0; omega), Nat.zero_le _, Nat.zero_le _, Nat.le_refl _, Nat.le_refl _⟩⟩
      · have p1 : decide (p < 1) = false := decide_eq_false h1
        have p2 : decide (19 < p) = true := decide_eq_true (by omega)
        go_enter Tryd.func72, Tryd.ntmps72
        go_upto_region 1 with (fail)
        obtain ⟨v, hv⟩ : ∃ v, v = ((w.alloc (.cells #[.slice A c.nk ca, .slice A' c.ny cb] 25)).alloc (.cells #[.slice none 0 0, .slice none 0 0] 25)) := ⟨_, rfl⟩
        rw [← hv]
        have E : Ext w v := by rw [hv]; exact ((Ext.refl _).alloc _).alloc _
        have B1 : Held v w.heap.size 25 #[.slice A c.nk ca, .slice A' c.ny cb] := by rw [hv]; exact (Held.new _ _ _).alloc _
        have B2 : Held v (w.heap.size + 1) 25 #[.slice none 0 0, .slice none 0 0] := by rw [hv]; exact Held.at _ _ _ _ (by simp)
        clear hv
        have C := hC.ext E
        clear hC
        generalize hb1 : w.heap.size = b1 at *
        replace hb1 := Lib.hid hb1
        obtain ⟨k0, k1⟩ := B1.c2; have lk := B1.lt
        obtain ⟨p0, p1⟩ := B2.c2; have lp := B2.lt
        go_upto_region 4 with (go_at_call 75; (with_reducible refine Calls.mono (NT _ C) ?_); rintro e v2 ⟨rfl, h⟩)
        replace E := Ext.trans E h
        replace C := C.ext h
        replace B1 := B1.ext h
        replace B2 := B2.ext h
        clear h
        clear k0 k1 lk
        clear p0 p1 lp
        obtain ⟨k0, k1⟩ := B1.c2; have lk := B1.lt
        obtain ⟨p0, p1⟩ := B2.c2; have lp := B2.lt
        have f0 := B2.frozen 0
        have f1 := B2.frozen 1
        go_wp2
        have H2 := held_two B2 (.slice none 0 0) (.slice none 0 0)
        obtain ⟨y0, y1⟩ := H2.c2
        have E2 := (E.setCell (p := ⟨b1 + 1, 0, none⟩) (by have := hb1.out; show w.heap.size ≤ b1 + 1; omega) (.slice none 0 0)).setCell (p := ⟨b1 + 1, 1, none⟩) (by have := hb1.out; show w.heap.size ≤ b1 + 1; omega) (.slice none 0 0)
        refine bodyPost_ret (v := .tuple #[.agg #[.slice none 0 0, .slice none 0 0], .int .i64 8]) (by simp [results, Tryd.results72, go_sem, y0, y1]) rfl ⟨none, none, 0, 0, by rw [HR.out]; unfold Cal.extV; rw [HR.out]; rfl, E2, by unfold Cal.extV; rw [HR.out]; exact ⟨fun h => absurd h (by show ¬ 0 < 0; omega), fun h => absurd h (by show ¬ 0 < 0; omega), Nat.zero_le _, Nat.zero_le _, Nat.le_refl _, Nat.le_refl _⟩⟩
end Go.Proofs.YtfchchmmjabjnaaDoor
