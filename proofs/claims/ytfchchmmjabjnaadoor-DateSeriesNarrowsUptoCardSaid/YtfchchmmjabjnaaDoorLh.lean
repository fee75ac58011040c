/- The walk of DateSeriesHolds. -/
import Derived.Maps.AppendAt
import Derived.Test.YtfchchmmjabjnaaDoorLg
import Derived.Test.YtfchchmmjabjnaaDoorPl5
namespace Go.Proofs.YtfchchmmjabjnaaDoor
open Go Go.RowKit
attribute [local go_sem] gv_yes

theorem info_int : (Tryd.prog.info? 3).map (fun i => (i.zero, i.size, i.bytes)) = some (some (.int .i64 0), 1, 8) := by kernel_rfl
theorem cells_new1 (w : World) (x : Value) (t : TypeId) : ∀ j u, [x][j]? = some u → (w.alloc (.cells #[x] t)).cell? ((⟨w.heap.size, 0, none⟩ : Addr).add j) = some u := fun j u hj => by
  have h := Held.new w t #[x]
  match j, hj with
  | 0, hj => simp at hj; subst hj; exact h.cell 0
def gA (l : List Sp) (i : Nat) : Int := (l.getD i zSp).a
def gB (l : List Sp) (i : Nat) : Int := (l.getD i zSp).b
def ints (g : Nat → Int) (k : Nat) : List Value := (List.range k).map fun i => .int .i64 (g i)
theorem ints_succ (g : Nat → Int) (k : Nat) : ints g (k + 1) = ints g k ++ [.int .i64 (g k)] := by simp [ints, List.range_succ]
theorem ints_get {g : Nat → Int} {k i : Nat} (h : i < k) : (ints g k)[i]? = some (.int .i64 (g i)) := by simp [ints, h]
/-- Two rows of integers that lie apart, in blocks made since wE. -/
structure TwoR (wE wr : World) (l : List Sp) (k1 k2 : Nat) (x y : Value) : Prop where
  e : Ext wE wr
  a : wr.ownsRow wE.heap.size 3 1 x k1 (ints (gA l) k1)
  b : wr.ownsRow wE.heap.size 3 1 y k2 (ints (gB l) k2)
  ne : ∀ q, x.ownBlock = some q → y.ownBlock ≠ some q
namespace TwoR
variable {wE wr w1 : World} {l : List Sp} {k1 k2 : Nat} {x y x' : Value}
theorem zero (w : World) (l : List Sp) : TwoR w w l 0 0 (.slice none 0 0) (.slice none 0 0) := ⟨Ext.refl _, ⟨rfl, .inl ⟨rfl, rfl⟩⟩, ⟨rfl, .inl ⟨rfl, rfl⟩⟩, fun q h => by cases h⟩
theorem fst (h : TwoR wE wr l k1 k2 x y) {o : Obj} (_hk : k1 < l.length) (hown : w1.ownsRow wE.heap.size 3 1 x' (k1 + 1) (ints (gA l) k1 ++ [.int .i64 (gA l k1)])) (hg : (wr.alloc o).grownBy w1 x.ownBlock)
    (hb : x'.ownBlock = x.ownBlock ∨ x'.ownBlock = some (wr.alloc o).heap.size) : TwoR wE w1 l (k1 + 1) k2 x' y := by
  refine ⟨(h.e.alloc o).grown hg (fun q hq => (h.a.lt q hq).1), by rw [ints_succ]; exact hown, (h.b.alloc o).kept hg ?_, fun q hq => ?_⟩
  · cases hx : x.ownBlock with
    | none => cases hy : y.ownBlock with
      | none => exact .inl rfl
      | some r => exact .inr (fun e => by cases e)
    | some q => exact .inr (h.ne q hx)
  · rcases hb with hb | hb
    · exact h.ne q (hb ▸ hq)
    · intro hy
      rw [hb] at hq
      have := (h.b.lt q hy).2
      have e := Option.some.inj hq
      simp at e
      omega
theorem snd (h : TwoR wE wr l k1 k2 x y) {o : Obj} {y' : Value} (_hk : k2 < l.length) (hown : w1.ownsRow wE.heap.size 3 1 y' (k2 + 1) (ints (gB l) k2 ++ [.int .i64 (gB l k2)])) (hg : (wr.alloc o).grownBy w1 y.ownBlock)
    (hb : y'.ownBlock = y.ownBlock ∨ y'.ownBlock = some (wr.alloc o).heap.size) : TwoR wE w1 l k1 (k2 + 1) x y' := by
  refine ⟨(h.e.alloc o).grown hg (fun q hq => (h.b.lt q hq).1), (h.a.alloc o).kept hg ?_, by rw [ints_succ]; exact hown, fun q hq => ?_⟩
  · cases hx : x.ownBlock with
    | none => exact .inl rfl
    | some q => exact .inr (fun e => h.ne q hx e.symm)
  · rcases hb with hb | hb
    · rw [hb]; exact h.ne q hq
    · rw [hb]
      intro e
      have := (h.a.lt q hq).2
      have e := Option.some.inj e
      simp at e
      omega
theorem row {w : World} {base k : Nat} {v : Value} {g : Nat → Int} (h : w.ownsRow base 3 1 v k (ints g k)) : ∃ F c, v = .slice F k c ∧ RowsAt w F k 1 (fun i => [.int .i64 (g i)]) ∧ k ≤ maxLen := by
  rcases h.2 with ⟨rfl, h0⟩ | ⟨q, cap, cur, rfl, hb, hq, hn, hm, _⟩
  · exact ⟨none, 0, by rw [h0], fun hp => by omega, by omega⟩
  · refine ⟨_, _, rfl, fun _ => ⟨q, 0, rfl, (Array.getElem?_eq_some_iff.1 hq).1, fun i j v hi hv => ?_⟩, Nat.le_trans hn hm⟩
    have hj : j = 0 := by have := (List.getElem?_eq_some_iff.1 hv).1; simp at this; omega
    subst hj
    rw [Nat.zero_add, Nat.mul_one, Nat.add_zero, World.ownsRow.cellAt h i (by omega), ints_get hi]
    exact hv
theorem rowsA (h : TwoR wE wr l k1 k2 x y) : ∃ F c, x = .slice F k1 c ∧ RowsAt wr F k1 1 (fun i => [.int .i64 (gA l i)]) ∧ k1 ≤ maxLen := row h.a
theorem rowsB (h : TwoR wE wr l k1 k2 x y) : ∃ F c, y = .slice F k2 c ∧ RowsAt wr F k2 1 (fun i => [.int .i64 (gB l i)]) ∧ k2 ≤ maxLen := row h.b
end TwoR

/-! ### An assignment fits -/
theorem fitOk_of {c : Cal} {f : Nat → Tr} {g : Nat → Int} {k : Nat} (hv : c.valid = true) (hok : (f k).ok = true) (hin : inS (c.spans (f k)) (g k)) (hord : k = 0 ∨ g (k - 1) ≤ g k) : c.fitOk f g k = true := by
  obtain ⟨d, hd, hf⟩ := (fit_iff (c := c) (t := f k)).2 hin
  have hh := (at_has hd).1
  have e1 : c.atE (g k) = 0 := by unfold Cal.atE; rw [hv, hd]; rfl
  have e2 : c.atV (g k) = d := by unfold Cal.atV; rw [hv, hd]; rfl
  have e3 : c.fitE (f k) d = 0 := by unfold Cal.fitE trChk; rw [if_pos (inE_of hv hh), hok]; rfl
  unfold Cal.fitOk
  rw [e2, e3, e1]
  unfold Cal.fitV
  rw [e3, hf]
  rcases hord with h | h
  · rw [decide_eq_true h]; rfl
  · rw [decide_eq_true h, Bool.or_true]; rfl
theorem fitOk_inv {c : Cal} {f : Nat → Tr} {g : Nat → Int} {k : Nat} (h : c.fitOk f g k = true) : c.valid = true ∧ (f k).ok = true ∧ inS (c.spans (f k)) (g k) ∧ (k = 0 ∨ g (k - 1) ≤ g k) := by
  simp only [Cal.fitOk, Bool.and_eq_true, Bool.or_eq_true, decide_eq_true_eq] at h
  obtain ⟨⟨⟨h1, h2⟩, h3⟩, h4⟩ := h
  have hv : c.valid = true := by
    cases hv : c.valid
    · unfold Cal.atE at h1; rw [hv] at h1; cases h1
    · rfl
  have hd : c.at? (g k) = some (c.atV (g k)) := by
    unfold Cal.atE at h1
    unfold Cal.atV
    rw [hv] at h1 ⊢
    cases ho : c.at? (g k) with
    | none => rw [ho] at h1; cases h1
    | some d => rfl
  have hh := (at_has hd).1
  have hok : (f k).ok = true := by
    unfold Cal.fitE trChk at h3
    rw [if_pos (inE_of hv hh)] at h3
    cases hk : (f k).ok
    · rw [hk] at h3; cases h3
    · rfl
  refine ⟨hv, hok, ?_, h2⟩
  unfold Cal.fitV at h4
  rw [h3] at h4
  exact fit_iff.1 ⟨_, hd, by simpa using h4⟩
theorem fitting_of {c : Cal} {f : Nat → Tr} {g : Nat → Int} {n : Nat} (hv : c.valid = true) (hok : serOk f n = true) (hA : Asg (fun i => c.spans (f i)) n g) : c.fitting f n g n = true :=
  fitting_yes fun k hk => fitOk_of hv (by have := List.all_eq_true.1 hok k (List.mem_range.2 hk); exact this) (hA.1 k hk) (by
    rcases Nat.eq_zero_or_pos k with h | h
    · exact .inl h
    · have := hA.2 (k - 1) (by omega)
      rw [show k - 1 + 1 = k by omega] at this
      exact .inr this)
theorem fitting_asg {c : Cal} {f : Nat → Tr} {g : Nat → Int} {n m : Nat} (h : c.fitting f n g m = true) : m = n ∧ serOk f n = true ∧ Asg (fun i => c.spans (f i)) n g ∧ (0 < n → c.valid = true) := by
  simp only [Cal.fitting, Bool.and_eq_true, decide_eq_true_eq, List.all_eq_true, List.mem_range] at h
  refine ⟨h.1, List.all_eq_true.2 fun k hk => (fitOk_inv (h.2 k (List.mem_range.1 hk))).2.1, ⟨fun i hi => (fitOk_inv (h.2 i hi)).2.2.1, fun i hi => ?_⟩, fun hn => (fitOk_inv (h.2 0 hn)).1⟩
  have := (fitOk_inv (h.2 (i + 1) hi)).2.2.2
  rcases this with h | h
  · omega
  · simpa using h
theorem serE_ok {c : Cal} {f : Nat → Tr} {n : Nat} (h : c.serE f n = 0) : c.valid = true ∧ n ≤ 64 ∧ serOk f n = true ∧ serFail (fun i => c.spans (f i)) n = false ∧ c.serV f n = serL (fun i => c.spans (f i)) n := by
  have hV : c.serV f n = serL (fun i => c.spans (f i)) n := by unfold Cal.serV; rw [if_pos h]
  unfold Cal.serE at h
  cases hv : c.valid <;> rw [hv] at h
  · cases h
  · by_cases h64 : 64 < n
    · rw [if_pos rfl, if_pos h64] at h; cases h
    · rw [if_pos rfl, if_neg h64] at h
      cases hk : serOk f n <;> rw [hk] at h
      · cases h
      · cases hf : serFail (fun i => c.spans (f i)) n <;> rw [hf] at h
        · exact ⟨rfl, by omega, rfl, rfl, hV⟩
        · cases h
theorem serE_of {c : Cal} {f : Nat → Tr} {n : Nat} (hv : c.valid = true) (hn : n ≤ 64) (hok : serOk f n = true) (hf : serFail (fun i => c.spans (f i)) n = false) : c.serE f n = 0 := by
  unfold Cal.serE; rw [hv, if_pos rfl, if_neg (by omega), hok, hf]; rfl
theorem serL_len (sp : Nat → List Sp) (n : Nat) : (serL sp n).length = n := by simp [serL]
theorem serL_get {sp : Nat → List Sp} {n i : Nat} (hi : i < n) : (serL sp n).getD i zSp = ⟨early sp (i + 1), late sp n i⟩ := by simp [serL, List.getD_eq_getElem?_getD, List.getElem?_map, List.getElem?_range hi]
theorem asg_congr {sp : Nat → List Sp} {n : Nat} {g g' : Nat → Int} (h : Asg sp n g) (he : ∀ i, i < n → g' i = g i) : Asg sp n g' :=
  ⟨fun i hi => by rw [he i hi]; exact h.1 i hi, fun i hi => by rw [he i (by omega), he (i + 1) hi]; exact h.2 i hi⟩
theorem holds_sum {c : Cal} {f : Nat → Tr} {n : Nat} (h : c.serE f n = 0) : n ≤ 64 ∧ (c.serV f n).length = n ∧ (c.fitting f n (gA (c.serV f n)) n = true ∧ ∀ i, i < n → 1 ≤ gA (c.serV f n) i ∧ gA (c.serV f n) i ≤ 156000) ∧ (c.fitting f n (gB (c.serV f n)) n = true ∧ ∀ i, i < n → 1 ≤ gB (c.serV f n) i ∧ gB (c.serV f n) i ≤ 156000) := by
  obtain ⟨hv, hn, hok, hf, hV⟩ := serE_ok h
  have hS : ∀ i, SpOk (c.spans (f i)) := fun i => spans_ok (valid_ny hv) _
  have hA : Asg (fun i => c.spans (f i)) n (gA (c.serV f n)) := by rw [hV]; exact asg_congr (early_asg hS hf) fun i hi => by unfold gA; rw [serL_get hi]
  have hB : Asg (fun i => c.spans (f i)) n (gB (c.serV f n)) := by rw [hV]; exact asg_congr (late_asg hS hf) fun i hi => by unfold gB; rw [serL_get hi]
  exact ⟨hn, by rw [hV]; exact serL_len _ _, ⟨fitting_of hv hok hA, fun i hi => (hS i).in (hA.1 i hi)⟩, fitting_of hv hok hB, fun i hi => (hS i).in (hB.1 i hi)⟩
set_option maxRecDepth 100000 in
set_option maxHeartbeats 8000000 in
theorem dateSeriesHolds_walk (hwk : WorksOk) (A A' : Option Addr) (ca cb : Nat) (c : Cal) (B : Option Addr) (n cap : Nat) (f : Nat → Tr) (w : World) (hC : CalAt w A ca A' cb c) (hT : RowsAt w B n 7 (fun i => (f i).cells)) (hn : n ≤ 9223372036854775807) :
    Calls Tryd.prog 9 #[.agg #[.slice A c.nk ca, .slice A' c.ny cb], .slice B n cap] w fun e w' => e = .returned (.bool true) ∧ Ext w w' := by
  have hwk : ∀ w : World, Calls Tryd.prog 28 #[] w fun e w' => e = .returned (.bool true) ∧ Ext w w' := hwk
  have N1 := fun v (h : CalAt v A ca A' cb c) (hT : RowsAt v B n 7 (fun i => (f i).cells)) => seriesX_any A A' ca cb c B n cap f v h hT hn
  by_cases h1 : c.serE f n = 0
  · obtain ⟨h64, hl, ⟨ha, ha2⟩, hb, hb2⟩ := holds_sum h1
    simp only [h1] at N1
    clear h1
    generalize hlq : c.serV f n = l at *
    clear hlq
    subst hl
    have HN := Lib.hid h64
    clear h64
    have FA : ∀ (F : Option Addr) (cF : Nat) (v : World), CalAt v A ca A' cb c → RowsAt v B l.length 7 (fun i => (f i).cells) → RowsAt v F l.length 1 (fun i => [.int .i64 (gA l i)]) → Calls Tryd.prog 40 #[.agg #[.slice A c.nk ca, .slice A' c.ny cb], .slice B l.length cap, .slice F l.length cF] v fun e w' => e = .returned (.bool true) ∧ Ext v w' := fun F cF v h1 h2 h3 => by
      have := fitting_any A A' ca cb c B F l.length cap l.length cF f _ v h1 h2 h3 hn hn (fun i hi => by have := ha2 i hi; omega)
      rw [ha] at this
      exact this
    have FB : ∀ (F : Option Addr) (cF : Nat) (v : World), CalAt v A ca A' cb c → RowsAt v B l.length 7 (fun i => (f i).cells) → RowsAt v F l.length 1 (fun i => [.int .i64 (gB l i)]) → Calls Tryd.prog 40 #[.agg #[.slice A c.nk ca, .slice A' c.ny cb], .slice B l.length cap, .slice F l.length cF] v fun e w' => e = .returned (.bool true) ∧ Ext v w' := fun F cF v h1 h2 h3 => by
      have := fitting_any A A' ca cb c B F l.length cap l.length cF f _ v h1 h2 h3 hn hn (fun i hi => by have := hb2 i hi; omega)
      rw [hb] at this
      exact this
    clear ha ha2 hb hb2
    go_enter Tryd.func9, Tryd.ntmps9
    go_upto_region 1 with (fail)
    obtain ⟨v, hv⟩ : ∃ v, v = (w.alloc (.cells #[.slice A c.nk ca, .slice A' c.ny cb] 25)) := ⟨_, rfl⟩
    rw [← hv]
    have E : Ext w v := by rw [hv]; exact (Ext.refl _).alloc _
    have B1 : Held v w.heap.size 25 #[.slice A c.nk ca, .slice A' c.ny cb] := by rw [hv]; exact (Held.new _ _ _)
    clear hv
    have C := hC.ext E
    clear hC
    generalize w.heap.size = b1 at *
    obtain ⟨k0, k1⟩ := B1.c2; have lk := B1.lt
    have HT := hT.ext E
    clear hT
    go_upto_region 2 with (go_at_call 24; (with_reducible refine Calls.mono (N1 _ C HT) ?_); rintro e v2 ⟨sv, rfl, h, S⟩)
    replace HT := HT.ext h
    replace E := Ext.trans E h
    replace C := C.ext h
    replace B1 := B1.ext h
    clear h
    clear k0 k1 lk
    obtain ⟨k0, k1⟩ := B1.c2; have lk := B1.lt
    obtain ⟨Z, zc, rfl, hZ, hcap, hmax⟩ := S
    have h63 : l.length ≤ 9223372036854775807 := Nat.le_trans hcap (Nat.le_trans hmax (by decide))
    clear hcap hmax
    obtain ⟨i0, hi, hz0, hz1, hz2⟩ := info_parts info_int
    go_upto_region 6 with (fail)
    go_loopw [7, 8, 9] (fun x y i wr => ∃ k : Nat, k ≤ l.length ∧ i = .int .i64 k ∧ TwoR v2 wr l k k x y) (fun _ _ i _ => l.length - (intOf i).toNat)
    case atStart => exact ⟨0, Nat.zero_le _, rfl, TwoR.zero _ _⟩
    case round =>
      obtain ⟨k, hk, rfl, hR⟩ := hrel
      obtain ⟨wo, rfl⟩ : ∃ wo : World, wo = wr := ⟨_, rfl⟩
      by_cases hlt : k < l.length
      · obtain ⟨zb, zo, rfl, hzb, c0, c1⟩ := span_get hZ hlt
        have d0 := (hR.e.cell (p := ⟨zb, zo + k * 2, none⟩) hzb).trans c0
        have lz := Nat.lt_of_lt_of_le hzb hR.e.size
        have hx : Hid ((l.getD k zSp).a = (l.getD k zSp).a) := rfl
        obtain ⟨x, hx⟩ : ∃ x, x = (l.getD k zSp).a := ⟨_, rfl⟩
        obtain ⟨y, hy⟩ : ∃ y, y = (l.getD k zSp).b := ⟨_, rfl⟩
        rw [← hx] at c0 d0
        rw [← hy] at c1
        replace hx := Lib.hid hx
        replace hy := Lib.hid hy
        go_upto_region 9 with (at_builtin; refine wpList_append_own_at _ rfl _ _ 63 rfl v2.heap.size 3 i0 (.int .i64 0) 1 8 Tryd.underlying63 hi hz0 hz1 hz2 rfl (by decide) _ _ _ rfl (hR.a.alloc _) ⟨wo.heap.size, 0, none⟩ 1 1 [.int .i64 x] rfl rfl (cells_new1 _ _ _) (by simp [Value.oneCell']) (by have := HN.out; unfold maxLen; omega) (by have := HN.out; omega) (by have := hR.e.size; simp; omega) ?_; intro x' w1 hown hgrow _ hblk)
        replace hR := hR.fst hlt (by rw [show gA l k = x from hx.out.symm]; exact hown) hgrow hblk
        clear d0 lz hown hgrow hblk
        have d1 := (hR.e.cell (p := ⟨zb, zo + k * 2 + 1, none⟩) hzb).trans c1
        have lz := Nat.lt_of_lt_of_le hzb hR.e.size
        clear c0 c1
        go_upto_region 7 with (at_builtin; refine wpList_append_own_at _ rfl _ _ 63 rfl v2.heap.size 3 i0 (.int .i64 0) 1 8 Tryd.underlying63 hi hz0 hz1 hz2 rfl (by decide) _ _ _ rfl (hR.b.alloc _) ⟨w1.heap.size, 0, none⟩ 1 1 [.int .i64 y] rfl rfl (cells_new1 _ _ _) (by simp [Value.oneCell']) (by have := HN.out; unfold maxLen; omega) (by have := HN.out; omega) (by have := hR.e.size; simp; omega) ?_; intro y' w2 hown hgrow _ hblk)
        replace hR := hR.snd hlt (by rw [show gB l k = y from hy.out.symm]; exact hown) hgrow hblk
        clear d1 lz hown hgrow hblk
        go_wp2
        exact ⟨⟨k + 1, by omega, by go_num, hR⟩, by simp [intOf]; omega⟩
      · have hkl : k = l.length := by omega
        subst hkl
        obtain ⟨F1, f1, rfl, r1, m1⟩ := hR.rowsA
        obtain ⟨F2, f2, rfl, r2, m2⟩ := hR.rowsB
        have E1 := E.trans hR.e
        have C1 := C.ext hR.e
        have T1 := HT.ext hR.e
        have B1 := B1.ext hR.e
        clear hR C HT k0 k1 lk
        obtain ⟨k0, k1⟩ := B1.c2
        have lk := B1.lt
        go_wp2_with (first
          | (go_at_call 40; (with_reducible refine Calls.mono (FA _ _ _ C1 T1 r1) ?_); rintro e v3 ⟨rfl, h3⟩; have C3 := C1.ext h3; have T3 := T1.ext h3; have r3 := r2.ext h3; clear k0 k1 lk; obtain ⟨k0, k1⟩ := (B1.ext h3).c2; have lk := (B1.ext h3).lt)
          | (go_at_call 40; (with_reducible refine Calls.mono (FB _ _ _ C3 T3 r3) ?_); rintro e v4 ⟨rfl, h4⟩)
          | (go_at_call 28; (with_reducible refine Calls.mono (hwk _) ?_); rintro e v5 ⟨rfl, h⟩))
        go_ret
        exact ⟨rfl, E1.trans (h3.trans (h4.trans h))⟩
  · have hl : c.serV f n = [] := by unfold Cal.serV; rw [if_neg h1]
    simp only [hl] at N1
    clear hl
    generalize c.serE f n = e at *
    have he : (e == 0) = false := beq_eq_false_iff_ne.2 h1
    go_enter Tryd.func9, Tryd.ntmps9
    go_upto_region 1 with (fail)
    obtain ⟨v, hv⟩ : ∃ v, v = (w.alloc (.cells #[.slice A c.nk ca, .slice A' c.ny cb] 25)) := ⟨_, rfl⟩
    rw [← hv]
    have E : Ext w v := by rw [hv]; exact (Ext.refl _).alloc _
    have B1 : Held v w.heap.size 25 #[.slice A c.nk ca, .slice A' c.ny cb] := by rw [hv]; exact (Held.new _ _ _)
    clear hv
    have C := hC.ext E
    clear hC
    generalize w.heap.size = b1 at *
    obtain ⟨k0, k1⟩ := B1.c2; have lk := B1.lt
    have HT := hT.ext E
    clear hT
    go_upto_region 2 with (go_at_call 24; (with_reducible refine Calls.mono (N1 _ C HT) ?_); rintro e v2 ⟨sv, rfl, h, S⟩)
    replace HT := HT.ext h
    replace E := Ext.trans E h
    replace C := C.ext h
    replace B1 := B1.ext h
    clear h
    clear k0 k1 lk
    obtain ⟨k0, k1⟩ := B1.c2; have lk := B1.lt
    obtain ⟨Z, zc, rfl, _, _, _⟩ := S
    go_wp2_with (go_at_call 28; (with_reducible refine Calls.mono (hwk _) ?_); rintro e v3 ⟨rfl, h⟩)
    go_ret
    exact ⟨rfl, E.trans h⟩
end Go.Proofs.YtfchchmmjabjnaaDoor
