/- Walks of the program's functions and plain facts, packed; proved: the lemmas below; no conditions but those that each states. -/
import Derived.Maps.OwnRows
import Derived.Maps.GroupsBeside
import Derived.Maps.Views
import Derived.Test.YthmjpbafbohelaaDoorK5
import Derived.Test.YthmjpbafbohelaaDoorK4
import Derived.Test.YthmjpbafbohelaaDoorK3
namespace Go.Proofs.YthmjpbafbohelaaDoor
open Go Go.RowKit

section
variable {P : Program} {ops : Array Oper} {md : Region.Mode} {C : World → Prop} {R : Act → World → Prop}
theorem still_valsC {W : World} (hW : C W) {A : Act} {o : Oper} {l : List Oper} {a : Act} (hb : dstsB (o :: l) = true) (hz : ∀ d, o.dst = some d → d < a.tmps.size) (h : ∀ u, C u → wpQuiet P ops (fun w' => w' = u) (fun a' => a' = A) (o :: l) a) :
    ∃ v, StillIn P ops C o v a ∧ ∀ u, C u → wpQuiet P ops (fun w' => w' = u) (fun a' => a' = A) l (a.put o.dst v) := by
  simp only [dstsB, Bool.and_eq_true] at hb
  obtain ⟨⟨hg, hd⟩, _⟩ := hb
  cases ho : o.dst with
  | none => rw [ho] at hd; cases hd
  | some d =>
    rw [ho] at hd
    have hw : Region.wanted o (yielded ops a.tmps) = true := by
      unfold Region.wanted
      cases hgo : o.guard with
      | none => rfl
      | some g => rw [hgo] at hg; cases hg
    have each : ∀ u, C u → ∃ v, o.quietAt P a (fun w' => w' = u) u v ∧ A.tmps[d]? = some v ∧ wpQuiet P ops (fun w' => w' = u) (fun a' => a' = A) l (a.put (some d) v) := fun u hu => by
      have h1 := h u hu
      unfold wpQuiet at h1
      rw [if_pos hw] at h1
      obtain ⟨v, h2, h3⟩ := h1
      rw [ho] at h3
      refine ⟨v, h2 _ rfl, ?_, h3⟩
      rw [quiet_keeps l _ hd h3]
      simp [Act.put, hz d ho]
    obtain ⟨v, _, hv, _⟩ := each W hW
    have same : ∀ u, C u → o.quietAt P a (fun w' => w' = u) u v ∧ wpQuiet P ops (fun w' => w' = u) (fun a' => a' = A) l (a.put (some d) v) := fun u hu => by
      obtain ⟨v', h1, h2, h3⟩ := each u hu
      have e : v' = v := Option.some.inj (h2.symm.trans hv)
      subst e
      exact ⟨h1, h3⟩
    exact ⟨v, ⟨hw, fun w hw => (same w hw).1⟩, fun u hu => (same u hu).2⟩
theorem any_stills_goC {W : World} (hW : C W) {A : Act} {g : Nat} (hs : Region.noSelect ops = true) : ∀ (ks : List Nat) (l : List Oper) (L : Array Bool) (a : Act), l.map some = ks.map (fun k => ops[k]?) → dstsB l = true → sizesB a l = true →
    stillKs md ops ks L = true → (∀ u, C u → wpQuiet P ops (fun w' => w' = u) (fun a' => a' = A) l a) → wpAnyC P md ops C R g (setAll ks L) A W → wpAnyC P md ops C R (l.length + g) L a W
  | [], [], L, a, _, _, _, _, h, H => by
    have e : a = A := h W hW
    subst e
    rw [List.length_nil, Nat.zero_add]
    exact H
  | k :: ks, o :: l, L, a, hl, hd, hz, hB, h, H => by
    simp only [List.map_cons, List.cons.injEq] at hl
    have h0 : ops[k]? = some o := hl.1.symm
    simp only [stillKs, Bool.and_eq_true] at hB
    obtain ⟨⟨hr, hf⟩, hB'⟩ := hB
    have hzo := hz
    simp only [sizesB, List.all_cons, Bool.and_eq_true] at hzo
    obtain ⟨v, hy, hn⟩ := still_valsC hW hd (fun d he => by have := hzo.1; rw [he] at this; simpa using this) h
    have hd' : dstsB l = true := by simp only [dstsB, Bool.and_eq_true] at hd; exact hd.2
    have hsz : (a.put o.dst v).tmps.size = a.tmps.size := by cases o.dst <;> simp [Act.put]
    rw [show (o :: l).length + g = (l.length + g) + 1 by simp only [List.length_cons]; omega]
    exact wpAnyC_first h0 (Region.noSelect_spec hs) _ L a W (Region.free_spec h0 hf) (by simpa using hr) hW hy
      (any_stills_goC hW hs ks l _ _ hl.2 hd' (by unfold sizesB; rw [hsz]; exact hzo.2) hB' hn H)
  | [], _ :: _, _, _, hl, _, _, _, _, _ => by simp at hl
  | _ :: _, [], _, _, hl, _, _, _, _, _ => by simp at hl
theorem any_stillsC {g f : Nat} {L : Array Bool} {a : Act} {w : World} (ks : List Nat) (l : List Oper) (hl : Picks ops ks l) (hB : (Region.noSelect ops && dstsB l && stillKs md ops ks L && decide (f = l.length + g)) = true) (hz : sizesB a l = true) (hw : C w)
    (h : ∃ A, (∀ u, C u → wpQuiet P ops (fun w' => w' = u) (fun a' => a' = A) l a) ∧ wpAnyC P md ops C R g (setAll ks L) A w) : wpAnyC P md ops C R f L a w := by
  obtain ⟨A, h1, h2⟩ := h
  simp only [Bool.and_eq_true, decide_eq_true_eq] at hB
  obtain ⟨⟨⟨hs, hd⟩, hk⟩, rfl⟩ := hB
  exact any_stills_goC hw hs ks l L a (picks_map hl) hd hz hk h1 h2
end
theorem wp_region_stepsC {P : Program} {id : Nat} {Q : Exit → Act → World → Prop} {a : Act} {w : World} {l : List Oper} (n : Nat) (C : World → Prop) (hm : P.follows .mixedOrders = true) (hn : n = l.length)
    (h : ∀ w', Ext w w' → wpAnyC P .any l.toArray C (fun a w => Q .normal a w) n (Array.replicate n false) a w') : (Code.region id l.toArray true).wp P Q a w := by
  have H := h { w with drawn := w.drawn + 1 } ⟨rfl, rfl, rfl, Nat.le_refl _, fun _ _ => rfl⟩
  refine Code.wp_mono (Q := onQ fun a w => Q .normal a w) (fun e a' w' h' => by cases e <;> first | exact h' | exact False.elim h') (wp_region_any hm (wpAny_of_C (C := C) _ _ _ _ ?_))
  subst hn
  simpa using H
end Go.Proofs.YthmjpbafbohelaaDoor

namespace Go.Proofs.YthmjpbafbohelaaDoor
open Go Go.RowKit
attribute [local go_sem] gv_yes

end Go.Proofs.YthmjpbafbohelaaDoor

namespace Go.Proofs.YthmjpbafbohelaaDoor
open Go Go.RowKit
attribute [local go_sem] gv_yes

theorem yearE_cases (c : Cal) (y : Int) : (c.valid = false ∧ c.yearE y = 70) ∨ (c.valid = true ∧ ¬ (0 ≤ y ∧ y < c.ny) ∧ c.yearE y = 8) ∨ (c.valid = true ∧ (0 ≤ y ∧ y < c.ny) ∧ c.yearE y = 0) := by
  unfold Cal.yearE
  cases hv : c.valid
  · exact .inl ⟨rfl, rfl⟩
  · by_cases h : 0 ≤ y ∧ y < c.ny
    · rw [if_pos rfl, if_pos h]; exact .inr (.inr ⟨rfl, h, rfl⟩)
    · rw [if_pos rfl, if_neg h]; exact .inr (.inl ⟨rfl, h, rfl⟩)
theorem checksNone_any (A A' : Option Addr) (ca cb : Nat) (c : Cal) (w : World) (hC : CalAt w A ca A' cb c) :
    Calls Tryd.prog 48 #[.agg #[.slice A c.nk ca, .slice A' c.ny cb], .slice none 0 0] w fun e w' => e = .returned (.int .i64 c.chk) ∧ Ext w w' := by
  have := checks_any A A' ca cb c none 0 0 (fun _ => ⟨0, 0, false, 0⟩) w hC (rows_none _ _ _) (by omega)
  rwa [checks_none] at this
set_option maxRecDepth 100000 in
set_option maxHeartbeats 4000000 in
theorem reign_any (A A' : Option Addr) (ca cb : Nat) (c : Cal) (y : Int) (hi1 : -9223372036854775808 ≤ y) (hi2 : y ≤ 9223372036854775807) (w : World) (hC : CalAt w A ca A' cb c) :
    Calls Tryd.prog 40 #[.agg #[.slice A c.nk ca, .slice A' c.ny cb], .int .i64 y] w fun e w' => e = .returned (.tuple #[.string (c.reignS y), .int .i64 (c.reignN y), .int .i64 (c.yearE y)]) ∧ Ext w w' := by
  have hnyle := hC.ny_le
  have NT := fun v (h : CalAt v A ca A' cb c) => checksNone_any A A' ca cb c v h
  have NH := fun v => hasYear_any A A' ca cb c y v hnyle
  rcases yearE_cases c y with ⟨hv, hE⟩ | ⟨hv, hy, hE⟩ | ⟨hv, hy, hE⟩
  · have HR : Hid (c.reignS y = ⟨#[]⟩ ∧ c.reignN y = 0 ∧ c.yearE y = 70) := by unfold Hid Cal.reignS Cal.reignN; rw [hE]; exact ⟨rfl, rfl, rfl⟩
    simp only [chk_no hv] at NT
    clear hv hE
    go_enter Tryd.func40, Tryd.ntmps40
    go_upto_region 1 with (fail)
    obtain ⟨v, hv⟩ : ∃ v, v = (w.alloc (.cells #[.slice A c.nk ca, .slice A' c.ny cb] 25)) := ⟨_, rfl⟩
    rw [← hv]
    have E : Ext w v := by rw [hv]; exact (Ext.refl _).alloc _
    have B1 : Held v w.heap.size 25 #[.slice A c.nk ca, .slice A' c.ny cb] := by rw [hv]; exact (Held.new _ _ _)
    clear hv
    have C := hC.ext E
    clear hC
    generalize w.heap.size = b1 at *
    obtain ⟨k0, k1⟩ := B1.c2; have lk := B1.lt
    go_upto_region 2 with (go_at_call 48; (with_reducible refine Calls.mono (NT _ C) ?_); rintro e v2 ⟨rfl, h⟩)
    replace E := Ext.trans E h
    replace C := C.ext h
    replace B1 := B1.ext h
    clear h
    clear k0 k1 lk
    obtain ⟨k0, k1⟩ := B1.c2; have lk := B1.lt
    go_wp2
    go_ret3
    exact ⟨by rw [HR.out.1, HR.out.2.1, HR.out.2.2]; rfl, E⟩
  · have HR : Hid (c.reignS y = ⟨#[]⟩ ∧ c.reignN y = 0 ∧ c.yearE y = 8) := by unfold Hid Cal.reignS Cal.reignN; rw [hE]; exact ⟨rfl, rfl, rfl⟩
    simp only [chk_yes hv] at NT
    simp only [decide_eq_false hy] at NH
    clear hv hE
    go_enter Tryd.func40, Tryd.ntmps40
    go_upto_region 1 with (fail)
    obtain ⟨v, hv⟩ : ∃ v, v = (w.alloc (.cells #[.slice A c.nk ca, .slice A' c.ny cb] 25)) := ⟨_, rfl⟩
    rw [← hv]
    have E : Ext w v := by rw [hv]; exact (Ext.refl _).alloc _
    have B1 : Held v w.heap.size 25 #[.slice A c.nk ca, .slice A' c.ny cb] := by rw [hv]; exact (Held.new _ _ _)
    clear hv
    have C := hC.ext E
    clear hC
    generalize w.heap.size = b1 at *
    obtain ⟨k0, k1⟩ := B1.c2; have lk := B1.lt
    go_upto_region 2 with (go_at_call 48; (with_reducible refine Calls.mono (NT _ C) ?_); rintro e v2 ⟨rfl, h⟩)
    replace E := Ext.trans E h
    replace C := C.ext h
    replace B1 := B1.ext h
    clear h
    clear k0 k1 lk
    obtain ⟨k0, k1⟩ := B1.c2; have lk := B1.lt
    go_wp2_with (go_at_call 87; (with_reducible refine Calls.mono (NH _) ?_); rintro e v3 ⟨rfl, h⟩)
    go_ret3
    exact ⟨by rw [HR.out.1, HR.out.2.1, HR.out.2.2]; rfl, E.trans h⟩
  · obtain ⟨Y, rfl⟩ : ∃ Y : Nat, y = (Y : Int) := ⟨y.toNat, by omega⟩
    have hYn : Y < c.ny := by omega
    have HR : Hid (c.reignS (Y : Int) = c.kg (c.yr Y).k.toNat ∧ c.reignN (Y : Int) = (c.ofKing (c.yr Y).k (Y + 1) : Int) ∧ c.yearE (Y : Int) = 0) := by unfold Hid Cal.reignS Cal.reignN; rw [hE]; exact ⟨rfl, rfl, rfl⟩
    have ok := valid_iff.1 hv
    have hkk0 : 0 ≤ (c.yr Y).k := ok.k0 hYn
    have hkk1 : (c.yr Y).k < c.nk := (ok.yk Y hYn).2
    have hny := ok.ny.2
    have hnk := ok.nk.2
    have hS : ∀ j, c.ofKing (c.yr Y).k (j + 1) = c.ofKing (c.yr Y).k j + (if (c.yr j).k = (c.yr Y).k then 1 else 0) := fun _ => rfl
    have hL := ofKing_le c (c.yr Y).k
    have hZ : c.ofKing (c.yr Y).k 0 = 0 := rfl
    generalize c.ofKing (c.yr Y).k = N at *
    simp only [chk_yes hv] at NT
    simp only [decide_eq_true hy] at NH
    clear hv hE ok hy
    go_enter Tryd.func40, Tryd.ntmps40
    go_upto_region 1 with (fail)
    obtain ⟨v, hv⟩ : ∃ v, v = (w.alloc (.cells #[.slice A c.nk ca, .slice A' c.ny cb] 25)) := ⟨_, rfl⟩
    rw [← hv]
    have E : Ext w v := by rw [hv]; exact (Ext.refl _).alloc _
    have B1 : Held v w.heap.size 25 #[.slice A c.nk ca, .slice A' c.ny cb] := by rw [hv]; exact (Held.new _ _ _)
    clear hv
    have C := hC.ext E
    clear hC
    generalize w.heap.size = b1 at *
    obtain ⟨k0, k1⟩ := B1.c2; have lk := B1.lt
    go_upto_region 4 with (go_at_call 48; (with_reducible refine Calls.mono (NT _ C) ?_); rintro e v2 ⟨rfl, h⟩)
    replace E := Ext.trans E h
    replace C := C.ext h
    replace B1 := B1.ext h
    clear h
    clear k0 k1 lk
    obtain ⟨k0, k1⟩ := B1.c2; have lk := B1.lt
    go_upto_region 6 with (go_at_call 87; (with_reducible refine Calls.mono (NH _) ?_); rintro e v3 ⟨rfl, h⟩)
    replace E := Ext.trans E h
    replace C := C.ext h
    replace B1 := B1.ext h
    clear h
    clear k0 k1 lk
    obtain ⟨k0, k1⟩ := B1.c2; have lk := B1.lt
    obtain ⟨yb, yo, hA', hyb, y0, y1, y2, y3⟩ := C.year hYn
    have hcb := C.ny_cap
    subst hA'
    go_wp2
    clear y0 y1 y2 y3
    go_loopw [5, 32] (fun nv iv wr => ∃ j : Nat, j ≤ Y + 1 ∧ iv = .int .i64 (j : Int) ∧ nv = .int .i64 (N j : Int) ∧ Ext v3 wr) (fun _ iv _ => Y + 1 - (intOf iv).toNat)
    case atStart => exact ⟨0, Nat.zero_le _, rfl, by rw [hZ]; rfl, Ext.refl _⟩
    case round =>
      obtain ⟨j, hj, rfl, rfl, hE2⟩ := hrel
      obtain ⟨wo, rfl⟩ : ∃ wo : World, wo = wr := ⟨_, rfl⟩
      have Co := C.ext hE2
      obtain ⟨k0, k1⟩ := (B1.ext hE2).c2
      have lk := (B1.ext hE2).lt
      have hLj := hL j
      by_cases hlt : j < Y + 1
      · have hjb : decide ((j : Int) < (Y : Int) + 1) = true := decide_eq_true (by omega)
        have hjb2 : decide ((j : Int) ≤ (Y : Int)) = true := decide_eq_true (by omega)
        obtain ⟨yb, yo, hA', hyb, y0, y1, y2, y3⟩ := Co.year (show j < c.ny by omega)
        obtain ⟨yb', yo', hA'', hyb', z0, z1, z2, z3⟩ := Co.year hYn
        skip
        cases hA'
        cases hA''
        by_cases hq : (c.yr j).k = (c.yr Y).k
        · have hqb : ((c.yr j).k == (c.yr Y).k) = true := beq_iff_eq.2 hq
          have hs : N (j + 1) = N j + 1 := by rw [hS, if_pos hq]
          clear hq
          go_wp2
          exact ⟨⟨j + 1, by omega, by go_num, by rw [hs]; go_num, (by repeat (first | exact Ext.refl _ | (refine Ext.alloc ?_ _) | (refine Ext.trans ?_ (by assumption))))⟩, by simp [intOf]; omega⟩
        · have hqb : ((c.yr j).k == (c.yr Y).k) = false := beq_eq_false_iff_ne.2 hq
          have hs : N (j + 1) = N j := by rw [hS, if_neg hq]; rfl
          clear hq
          go_wp2
          exact ⟨⟨j + 1, by omega, by go_num, by rw [hs], (by repeat (first | exact Ext.refl _ | (refine Ext.alloc ?_ _) | (refine Ext.trans ?_ (by assumption))))⟩, by simp [intOf]; omega⟩
      · obtain rfl : j = Y + 1 := by omega
        have hjb : decide (((Y + 1 : Nat) : Int) < (Y : Int) + 1) = false := decide_eq_false (by omega)
        have hjb2 : decide (((Y + 1 : Nat) : Int) ≤ (Y : Int)) = false := decide_eq_false (by omega)
        obtain ⟨kb, ko, hA, hkb, q9⟩ := Co.kingI hkk0 hkk1
        subst hA
        go_wp2
        go_ret3
        exact ⟨by rw [HR.out.1, HR.out.2.1, HR.out.2.2]; rfl, (by repeat (first | exact Ext.refl _ | (refine Ext.alloc ?_ _) | (refine Ext.trans ?_ (by assumption))))⟩
end Go.Proofs.YthmjpbafbohelaaDoor

namespace Go.Proofs.YthmjpbafbohelaaDoor
open Go Go.RowKit
attribute [local go_sem] gv_yes

theorem king_dec (c : Cal) (s : ByteArray) (j : Nat) : ((c.kg (c.yr j).k.toNat).toList == s.toList) = decide (c.kingOf j = s) := by
  rw [same_eq]; rfl
set_option maxRecDepth 100000 in
set_option maxHeartbeats 4000000 in
theorem yearOf_any (A A' : Option Addr) (ca cb : Nat) (c : Cal) (s : ByteArray) (n : Int) (hi1 : -9223372036854775808 ≤ n) (hi2 : n ≤ 9223372036854775807) (w : World) (hC : CalAt w A ca A' cb c) :
    Calls Tryd.prog 41 #[.agg #[.slice A c.nk ca, .slice A' c.ny cb], .string s, .int .i64 n] w fun e w' => e = .returned (.tuple #[.int .i64 (c.yofV s n), .int .i64 (c.yofE s n)]) ∧ Ext w w' := by
  have NT := fun v (h : CalAt v A ca A' cb c) => checksNone_any A A' ca cb c v h
  cases hv : c.valid
  · have HR : Hid (c.yofV s n = 0 ∧ c.yofE s n = 70) := by unfold Hid Cal.yofV Cal.yofE; rw [hv]; exact ⟨rfl, rfl⟩
    simp only [chk_no hv] at NT
    clear hv
    go_enter Tryd.func41, Tryd.ntmps41
    go_upto_region 1 with (fail)
    obtain ⟨v, hv⟩ : ∃ v, v = (w.alloc (.cells #[.slice A c.nk ca, .slice A' c.ny cb] 25)) := ⟨_, rfl⟩
    rw [← hv]
    have E : Ext w v := by rw [hv]; exact (Ext.refl _).alloc _
    have B1 : Held v w.heap.size 25 #[.slice A c.nk ca, .slice A' c.ny cb] := by rw [hv]; exact (Held.new _ _ _)
    clear hv
    have C := hC.ext E
    clear hC
    generalize w.heap.size = b1 at *
    obtain ⟨k0, k1⟩ := B1.c2; have lk := B1.lt
    go_upto_region 2 with (go_at_call 48; (with_reducible refine Calls.mono (NT _ C) ?_); rintro e v2 ⟨rfl, h⟩)
    replace E := Ext.trans E h
    replace C := C.ext h
    replace B1 := B1.ext h
    clear h
    clear k0 k1 lk
    obtain ⟨k0, k1⟩ := B1.c2; have lk := B1.lt
    go_wp2
    go_ret2
    exact ⟨by rw [HR.out.1, HR.out.2]; rfl, E⟩
  · have HR : Hid (c.yofV s n = ((c.nth? s n).getD 0 : Nat) ∧ c.yofE s n = if (c.nth? s n).isSome then 0 else 4) := by unfold Hid Cal.yofV Cal.yofE; rw [hv]; exact ⟨rfl, rfl⟩
    have HH := fun k (hk : k < c.ny) (h : ∀ j, j < k → ¬ (c.kingOf j = s ∧ (c.ofName s (j + 1) : Int) = n)) (h1 : c.kingOf k = s) (h2 : (c.ofName s (k + 1) : Int) = n) => nth_hit hk h h1 h2
    have HM := fun (h : ∀ j, j < c.ny → ¬ (c.kingOf j = s ∧ (c.ofName s (j + 1) : Int) = n)) => nth_miss h
    have HK := Lib.hid (king_dec c s)
    have ok := valid_iff.1 hv
    have hny := ok.ny.2
    have hnk := ok.nk.2
    have hkk : ∀ j, j < c.ny → 0 ≤ (c.yr j).k ∧ (c.yr j).k < c.nk := fun j hj => ⟨ok.k0 hj, (ok.yk j hj).2⟩
    have hS : ∀ j, c.ofName s (j + 1) = c.ofName s j + (if c.kingOf j = s then 1 else 0) := fun _ => rfl
    have hL := ofName_le c s
    have hZ : c.ofName s 0 = 0 := rfl
    generalize c.ofName s = N at *
    generalize c.nth? s n = res at *
    simp only [chk_yes hv] at NT
    clear hv ok
    go_enter Tryd.func41, Tryd.ntmps41
    go_upto_region 1 with (fail)
    obtain ⟨v, hv⟩ : ∃ v, v = (w.alloc (.cells #[.slice A c.nk ca, .slice A' c.ny cb] 25)) := ⟨_, rfl⟩
    rw [← hv]
    have E : Ext w v := by rw [hv]; exact (Ext.refl _).alloc _
    have B1 : Held v w.heap.size 25 #[.slice A c.nk ca, .slice A' c.ny cb] := by rw [hv]; exact (Held.new _ _ _)
    clear hv
    have C := hC.ext E
    clear hC
    generalize w.heap.size = b1 at *
    obtain ⟨k0, k1⟩ := B1.c2; have lk := B1.lt
    go_upto_region 4 with (go_at_call 48; (with_reducible refine Calls.mono (NT _ C) ?_); rintro e v2 ⟨rfl, h⟩)
    replace E := Ext.trans E h
    replace C := C.ext h
    replace B1 := B1.ext h
    clear h
    clear k0 k1 lk
    obtain ⟨k0, k1⟩ := B1.c2; have lk := B1.lt
    have hcy := C.ny_cap
    go_wp2
    go_loopw [2, 19] (fun kv iv wr => ∃ (j : Nat) (m : Int), j ≤ c.ny ∧ iv = .int .i64 (j : Int) ∧ kv = .int .i64 m ∧ (-9223372036854775808 ≤ m ∧ m ≤ 9223372036854775807) ∧ Hid (m = n - (N j : Int) ∨ m = n - (N j : Int) + 18446744073709551616) ∧ Hid (∀ i, i < j → ¬ (c.kingOf i = s ∧ (N (i + 1) : Int) = n)) ∧ Ext v2 wr) (fun _ iv _ => c.ny - (intOf iv).toNat)
    case atStart => exact ⟨0, n, Nat.zero_le _, rfl, rfl, ⟨hi1, hi2⟩, .inl (by rw [hZ]; omega), fun i hi => absurd hi (by omega), Ext.refl _⟩
    case round =>
      obtain ⟨j, m, hj, rfl, rfl, hmr, hm, hno, hE2⟩ := hrel
      obtain ⟨wo, rfl⟩ : ∃ wo : World, wo = wr := ⟨_, rfl⟩
      have Co := C.ext hE2
      obtain ⟨k0, k1⟩ := (B1.ext hE2).c2
      have lk := (B1.ext hE2).lt
      have hLj := hL j
      by_cases hlt : j < c.ny
      · obtain ⟨hkk0, hkk1⟩ := hkk j hlt
        obtain ⟨kb, ko, hA, hkb, q9⟩ := Co.kingI hkk0 hkk1
        obtain ⟨yb, yo, hA', hyb, y0, y1, y2, y3⟩ := Co.year hlt
        cases hA
        cases hA'
        by_cases hq : c.kingOf j = s
        · have hqb : ((c.kg (c.yr j).k.toNat).toList == s.toList) = true := by rw [HK.out, decide_eq_true hq]
          have hs : N (j + 1) = N j + 1 := by rw [hS, if_pos hq]
          obtain ⟨m', hm', hmb, hmw⟩ : ∃ m', IntKind.i64.wrap (m - 1) = m' ∧ (-9223372036854775808 ≤ m' ∧ m' ≤ 9223372036854775807) ∧ Hid (m' = n - (N (j + 1) : Int) ∨ m' = n - (N (j + 1) : Int) + 18446744073709551616) := by
            refine ⟨_, rfl, ?_, ?_⟩
            · rw [IntKind.wrap_i64]; omega
            · show _ ∨ _
              have := hm.out
              rw [IntKind.wrap_i64, hs]; omega
          by_cases hz : (N (j + 1) : Int) = n
          · have hm0 : m' = 0 := by have := hmw.out; omega
            subst hm0
            have hr := Lib.hid (HH j hlt hno.out hq hz)
            clear hq hz hmw hmb
            go_wp2
            go_ret2
            exact ⟨by rw [HR.out.1, HR.out.2, hr.out]; rfl, (by repeat (first | exact Ext.refl _ | (refine Ext.alloc ?_ _) | (refine Ext.trans ?_ (by assumption))))⟩
          · have hzb : (m' == 0) = false := beq_eq_false_iff_ne.2 (fun e => hz (by have := hmw.out; omega))
            have hnx : ∀ i, i < j + 1 → ¬ (c.kingOf i = s ∧ (N (i + 1) : Int) = n) := fun i hi => by
              by_cases e : i = j
              · subst e; exact fun h => hz h.2
              · exact hno.out i (by omega)
            clear hq hz
            go_wp2
            exact ⟨⟨j + 1, m', by omega, by go_num, rfl, hmb, hmw, hnx, (by repeat (first | exact Ext.refl _ | (refine Ext.alloc ?_ _) | (refine Ext.trans ?_ (by assumption))))⟩, by simp [intOf]; omega⟩
        · have hqb : ((c.kg (c.yr j).k.toNat).toList == s.toList) = false := by rw [HK.out, decide_eq_false hq]
          have hs : N (j + 1) = N j := by rw [hS, if_neg hq]; rfl
          have hnx : ∀ i, i < j + 1 → ¬ (c.kingOf i = s ∧ (N (i + 1) : Int) = n) := fun i hi => by
            by_cases e : i = j
            · subst e; exact fun h => hq h.1
            · exact hno.out i (by omega)
          clear hq
          go_wp2
          exact ⟨⟨j + 1, m, by omega, by go_num, rfl, hmr, by rw [hs]; exact hm, hnx, (by repeat (first | exact Ext.refl _ | (refine Ext.alloc ?_ _) | (refine Ext.trans ?_ (by assumption))))⟩, by simp [intOf]; omega⟩
      · obtain rfl : j = c.ny := by omega
        go_wp2
        go_ret2
        have hr := HM (fun i hi => hno.out i (by omega))
        exact ⟨by rw [HR.out.1, HR.out.2, hr]; rfl, (by repeat (first | exact Ext.refl _ | (refine Ext.alloc ?_ _) | (refine Ext.trans ?_ (by assumption))))⟩
end Go.Proofs.YthmjpbafbohelaaDoor

namespace Go.Proofs.YthmjpbafbohelaaDoor
open Go Go.RowKit Go.Maps
attribute [local go_sem] gv_yes

/-! ### What the map holds -/
def itemsD : DataW Unit → List (DataW Unit)
  | .slice es _ => es
  | _ => []
def keyL (s : ByteArray) : Lit := .string s.data.toList
def Cal.fitsKing (c : Cal) (king : ByteArray) (k : Nat) : Bool := emptyB king || decide (c.kingOf k = king)
def namedD (c : Cal) (king : ByteArray) : Nat → DataW Unit
  | 0 => .map []
  | k + 1 => if c.fitsKing king k then (namedD c king k).put (keyL (c.yr k).nm) (.slice (itemsD ((namedD c king k).atKey (keyL (c.yr k).nm) .nil) ++ [.lit (.int .i64 (k : Int))]) []) else namedD c king k
theorem namedD_map (c : Cal) (king : ByteArray) : ∀ k, IsMap (namedD c king k)
  | 0 => ⟨_, rfl⟩
  | k + 1 => by
    rw [namedD]
    split
    · exact (namedD_map c king k).put _ _
    · exact namedD_map c king k
theorem keyL_inj {s t : ByteArray} (h : keyL s = keyL t) : s = t := by
  obtain ⟨⟨s⟩⟩ := s
  obtain ⟨⟨t⟩⟩ := t
  simpa [keyL] using h
def litsI (l : List Nat) : List (DataW Unit) := l.map fun (i : Nat) => DataW.lit (.int .i64 (i : Int))
theorem namedD_at (c : Cal) (king s : ByteArray) : ∀ k, itemsD ((namedD c king k).atKey (keyL s) .nil) = litsI (c.namedTo s king k)
  | 0 => rfl
  | k + 1 => by
    have ih := namedD_at c king s k
    rw [namedD, namedTo_succ]
    cases hf : c.fitsKing king k
    · have : c.isNamed s king k = false := by unfold Cal.isNamed; unfold Cal.fitsKing at hf; rw [hf, Bool.and_false]
      rw [if_neg (by simp), if_neg (by simp [this])]
      exact ih
    · rw [if_pos rfl]
      by_cases hn : (c.yr k).nm = s
      · have : c.isNamed s king k = true := by unfold Cal.isNamed; unfold Cal.fitsKing at hf; rw [hf, decide_eq_true hn]; rfl
        rw [if_pos this, hn, atKey_put_same (namedD_map c king k) (by first | trivial | (simp [keyL, WideAt.IsKeyLit]))]
        show itemsD _ ++ _ = _
        rw [ih]
        simp [litsI]
      · have : c.isNamed s king k = false := by unfold Cal.isNamed; rw [decide_eq_false hn]; rfl
        rw [if_neg (by simp [this]), atKey_put_other (fun e => hn (keyL_inj e).symm)]
        exact ih
theorem litsI_eq {zs : List Int} {l : List Nat} (h : ChangeShapes.lits (H := Unit) .i64 zs = litsI l) : zs = l.map fun (i : Nat) => (i : Int) := by
  have : zs.map (fun z => DataW.lit (H := Unit) (.int .i64 z)) = (l.map fun (i : Nat) => (i : Int)).map (fun z => DataW.lit (H := Unit) (.int .i64 z)) := by
    rw [List.map_map]; exact h
  exact (List.map_inj_right (fun a b hab => by cases hab; rfl)).1 this
/-- What the look-up has found. -/
theorem named_found {c : Cal} {king s : ByteArray} {w : World} {base : Nat} {e : TypeId} {v : Value} {zs : List Int} {k : Nat} (hat : (namedD c king k).atKey (keyL s) .nil = rowDatum .i64 v zs) (ho : w.ownsInts base e .i64 v zs) : zs = (c.namedTo s king k).map fun (i : Nat) => (i : Int) := by
  have h := namedD_at c king s k
  rw [hat] at h
  rcases ho.datum (H := Unit) with ⟨h1, rfl⟩ | h1
  · rw [h1] at h
    exact litsI_eq h
  · rw [h1] at h
    exact litsI_eq h
theorem namedD_step {c : Cal} {king : ByteArray} {w : World} {base : Nat} {e : TypeId} {v : Value} {zs : List Int} {k : Nat} (hf : c.fitsKing king k = true) (hat : (namedD c king k).atKey (keyL (c.yr k).nm) .nil = rowDatum .i64 v zs) (ho : w.ownsInts base e .i64 v zs) :
    namedD c king (k + 1) = (namedD c king k).put (keyL (c.yr k).nm) (.slice (ChangeShapes.lits .i64 (zs ++ [(k : Int)])) []) := by
  rw [namedD, if_pos hf, hat]
  rcases ho.datum (H := Unit) with ⟨h1, rfl⟩ | h1 <;> rw [h1] <;> simp [itemsD, ChangeShapes.lits]
theorem groups_mono {w : World} {P : Program} {k e : TypeId} {base b n n' : Nat} {q : IntKind} {D : DataW Unit} (h : w.ownsGroups P k base e q b n D) (hn : n ≤ n') : w.ownsGroups P k base e q b n' D := by
  obtain ⟨es, clock, hb, F, hs, hD, hbb, hlen, hap⟩ := h
  exact ⟨es, clock, hb, F, by omega, hD, hbb, fun x hx zs h => by have := hlen x hx zs h; omega, hap⟩
theorem groups_ext {w w' : World} {P : Program} {k e : TypeId} {base b n : Nat} {q : IntKind} {D : DataW Unit} (h : w.ownsGroups P k base e q b n D) (x : Ext w w') : w'.ownsGroups P k base e q b n D :=
  h.kept (grown_of_ext x) (by simp) (fun es clock _ x _ => by cases hx : x.val.ownBlock <;> simp)
/-- A slice that reads as some numbers. -/
def IntsAt (w : World) (v : Value) (l : List Int) : Prop := ∃ A cap, v = .slice A l.length cap ∧ RowsAt w A l.length 1 (fun i => [.int .i64 (l.getD i 0)]) ∧ l.length ≤ cap ∧ cap ≤ maxLen
theorem IntsAt.ext {w w' : World} {v : Value} {l : List Int} (h : IntsAt w v l) (e : Ext w w') : IntsAt w' v l := by
  obtain ⟨A, cap, hv, hr, hc, hm⟩ := h
  exact ⟨A, cap, hv, hr.ext e, hc, hm⟩
theorem intsAt_nil (w : World) : IntsAt w (.slice none 0 0) [] := ⟨none, 0, rfl, fun h => absurd h (by simp), Nat.le_refl _, Nat.zero_le _⟩
theorem intsAt_own {w : World} {base : Nat} {e : TypeId} {v : Value} {zs : List Int} (h : w.ownsInts base e .i64 v zs) : IntsAt w v zs := by
  have h0 := h.1
  rcases h0.2 with ⟨rfl, hz⟩ | ⟨g, cap, cur, rfl, hb, hg, hn, hm, _⟩
  · exact ⟨none, 0, by rw [hz], fun hp => by omega, by omega, by decide⟩
  · refine ⟨_, _, rfl, fun _ => ⟨g, 0, rfl, (Array.getElem?_eq_some_iff.1 hg).1, fun i j v hi hv => ?_⟩, hn, hm⟩
    have hj : j < 1 := (List.getElem?_eq_some_iff.1 hv).1
    obtain rfl : j = 0 := by omega
    rw [Nat.zero_add, Nat.mul_one, Nat.add_zero, World.ownsRow.cellAt h0 i (by omega)]
    rw [List.getElem?_map, List.getElem?_eq_getElem hi]
    have e : zs.getD i 0 = zs[i] := by rw [List.getD_eq_getElem?_getD, List.getElem?_eq_getElem hi]; rfl
    simp only [List.getElem?_cons_zero, Option.some.injEq] at hv
    rw [← hv, e]; rfl
theorem law_str : Keyed Tryd.prog 9 := string_keyed Tryd.underlying9
theorem zero_ints (w : World) : (zeroValue 26).run Tryd.prog w = .ok (.slice none 0 0) w := by kernel_rfl
theorem info_int : (Tryd.prog.info? 3).map (fun i => (i.zero, i.size, i.bytes)) = some (some (.int .i64 0), 1, 8) := by kernel_rfl
set_option maxRecDepth 100000 in
set_option maxHeartbeats 4000000 in
theorem named_any (A A' : Option Addr) (ca cb : Nat) (c : Cal) (name king : ByteArray) (hnm : name.size ≤ maxLen) (w : World) (hC : CalAt w A ca A' cb c) :
    Calls Tryd.prog 42 #[.agg #[.slice A c.nk ca, .slice A' c.ny cb], .string name, .string king] w fun e w' => ∃ v, e = .returned (.tuple #[v, .int .i64 c.chk]) ∧ Ext w w' ∧ IntsAt w' v ((c.namedV name king).map fun (i : Nat) => (i : Int)) := by
  have NT := fun v (h : CalAt v A ca A' cb c) => checksNone_any A A' ca cb c v h
  cases hv : c.valid
  · have HR : Hid (c.namedV name king = [] ∧ c.chk = 70) := ⟨by unfold Cal.namedV; rw [hv]; rfl, chk_no hv⟩
    simp only [chk_no hv] at NT
    clear hv
    go_enter Tryd.func42, Tryd.ntmps42
    go_upto_region 1 with (fail)
    obtain ⟨v, hv⟩ : ∃ v, v = (w.alloc (.cells #[.slice A c.nk ca, .slice A' c.ny cb] 25)) := ⟨_, rfl⟩
    rw [← hv]
    have E : Ext w v := by rw [hv]; exact (Ext.refl _).alloc _
    have B1 : Held v w.heap.size 25 #[.slice A c.nk ca, .slice A' c.ny cb] := by rw [hv]; exact (Held.new _ _ _)
    clear hv
    have C := hC.ext E
    clear hC
    generalize w.heap.size = b1 at *
    obtain ⟨k0, k1⟩ := B1.c2; have lk := B1.lt
    go_upto_region 2 with (go_at_call 48; (with_reducible refine Calls.mono (NT _ C) ?_); rintro e v2 ⟨rfl, h⟩)
    replace E := Ext.trans E h
    replace C := C.ext h
    replace B1 := B1.ext h
    clear h
    clear k0 k1 lk
    obtain ⟨k0, k1⟩ := B1.c2; have lk := B1.lt
    go_wp2
    go_ret2
    exact ⟨_, by rw [HR.out.2]; rfl, E, by rw [HR.out.1]; exact intsAt_nil _⟩
  · have HR : Hid (c.namedV name king = c.namedTo name king c.ny ∧ c.chk = 0) := ⟨by unfold Cal.namedV; rw [if_pos hv], chk_yes hv⟩
    simp only [chk_yes hv] at NT
    have ok := valid_iff.1 hv
    have hny := ok.ny.2
    have hnk := ok.nk.2
    have hkk : ∀ j, j < c.ny → 0 ≤ (c.yr j).k ∧ (c.yr j).k < c.nk := fun j hj => ⟨ok.k0 hj, (ok.yk j hj).2⟩
    have hns : ∀ j, j < c.ny → (c.yr j).nm.size ≤ maxLen := fun j hj => by
      have := ok.yname j hj
      simp only [isName, Bool.and_eq_true, decide_eq_true_eq] at this
      have h2 := this.1.1.2
      unfold maxLen; omega
    have hmm := @run_makeMap Tryd.prog
    obtain ⟨i0, hi, hz0, hz1, hz2⟩ := info_parts info_int
    clear hv ok
    go_enter Tryd.func42, Tryd.ntmps42
    go_upto_region 1 with (fail)
    obtain ⟨v, hv⟩ : ∃ v, v = (w.alloc (.cells #[.slice A c.nk ca, .slice A' c.ny cb] 25)) := ⟨_, rfl⟩
    rw [← hv]
    have E : Ext w v := by rw [hv]; exact (Ext.refl _).alloc _
    have B1 : Held v w.heap.size 25 #[.slice A c.nk ca, .slice A' c.ny cb] := by rw [hv]; exact (Held.new _ _ _)
    clear hv
    have C := hC.ext E
    clear hC
    generalize w.heap.size = b1 at *
    obtain ⟨k0, k1⟩ := B1.c2; have lk := B1.lt
    go_upto_region 4 with (go_at_call 48; (with_reducible refine Calls.mono (NT _ C) ?_); rintro e v2 ⟨rfl, h⟩)
    replace E := Ext.trans E h
    replace C := C.ext h
    replace B1 := B1.ext h
    clear h
    clear k0 k1 lk
    obtain ⟨k0, k1⟩ := B1.c2; have lk := B1.lt
    have hcy := C.ny_cap
    go_upto_region 5 with (fail)
    obtain ⟨v3, hv⟩ : ∃ x, x = v2.alloc (.map #[] 0) := ⟨_, rfl⟩
    rw [← hv]
    have h : Ext v2 v3 := by rw [hv]; exact (Ext.refl _).alloc _
    have hG0 : v3.ownsGroups (H := Unit) Tryd.prog 9 (v2.heap.size + 1) 3 .i64 v2.heap.size 0 (.map []) := by rw [hv]; exact World.ownsGroups_made _ _ _ _ _
    have hz3 : v2.heap.size + 1 ≤ v3.heap.size := by rw [hv]; simp
    clear hv hmm
    have hbm : b1 < v2.heap.size := lk
    have hE3 : Ext v2 v3 := h
    have C2 := C
    have B12 := B1
    have E2 := E
    generalize hbmm : v2.heap.size = bm at *
    replace E := Ext.trans E h
    replace C := C.ext h
    replace B1 := B1.ext h
    clear h
    clear k0 k1 lk
    obtain ⟨k0, k1⟩ := B1.c2; have lk := B1.lt
    go_upto_region 6 with (fail)
    go_loopw [21] (fun iv wr => ∃ k : Nat, k ≤ c.ny ∧ iv = .int .i64 (k : Int) ∧ wr.ownsGroups Tryd.prog 9 (bm + 1) 3 .i64 bm k (namedD c king k) ∧ Ext v2 wr ∧ bm + 1 ≤ wr.heap.size) (fun iv _ => c.ny - (intOf iv).toNat)
    case atStart => exact ⟨0, Nat.zero_le _, rfl, hG0, hE3, hz3⟩
    case round =>
      clear hG0 hz3
      obtain ⟨k, hk, rfl, hG, hE, hz⟩ := hrel
      obtain ⟨wo, rfl⟩ : ∃ wo : World, wo = wr := ⟨_, rfl⟩
      by_cases hlt : k < c.ny
      · have Co := C2.ext hE
        obtain ⟨k0, k1⟩ := (B12.ext hE).c2
        have lk := (B12.ext hE).lt
        obtain ⟨hkk0, hkk1⟩ := hkk k hlt
        obtain ⟨kb, ko, hA, hkb, q9⟩ := Co.kingI hkk0 hkk1
        obtain ⟨yb, yo, hA', hyb, y0, y1, y2, y3⟩ := Co.year hlt
        cases hA
        cases hA'
        have hF : Hid (c.fitsKing king k = (king.toList.isEmpty || ((c.kg (c.yr k).k.toNat).toList == king.toList))) := by
          unfold Hid Cal.fitsKing
          rw [emptyB_eq, same_eq]; rfl
        generalize h1 : king.toList.isEmpty = e1 at *
        generalize h2 : ((c.kg (c.yr k).k.toNat).toList == king.toList) = e2 at *
        have hkey := WideMaps.keyOf_string_mk (P := Tryd.prog) Tryd.underlying9 (hns k hlt)
        by_cases hfit : (e1 || e2) = true
        · have hf := hF.out.trans hfit
          have hst := fun (w : World) (v : Value) (zs : List Int) hat ho => namedD_step (w := w) (v := v) (zs := zs) (base := bm + 1) (e := 3) (c := c) (king := king) (k := k) hf hat ho
          have HST := Lib.hid hst
          clear hst
          have hfe : e1 = true ∨ (e1 = false ∧ e2 = true) := by cases e1 <;> cases e2 <;> simp_all
          clear hf hfit hF
          generalize namedD c king k = DK at *
          rcases hfe with rfl | ⟨rfl, rfl⟩
          all_goals
            go_upto_region 9 with (fail)
            obtain ⟨wy, hwy⟩ : ∃ x, x = wo.alloc (.cells #[.int .i64 (c.yr k).k, .string (c.yr k).nm, .int .i64 (c.yr k).lg, .int .i64 (c.yr k).db] 110) := ⟨_, rfl⟩
            rw [← hwy]
            have hEy : Ext wo wy := by rw [hwy]; exact (Ext.refl _).alloc _
            have HB : Held wy wo.heap.size 110 #[.int .i64 (c.yr k).k, .string (c.yr k).nm, .int .i64 (c.yr k).lg, .int .i64 (c.yr k).db] := by rw [hwy]; exact Held.new _ _ _
            have hzy : wo.heap.size < wy.heap.size := HB.lt
            have hGy := groups_ext hG hEy
            clear hwy k0 k1 lk q9 y0 y1 y2 y3 hkb hyb Co
            generalize wo.heap.size = by_ at *
            have hEw := hE.trans hEy
            refine wp_region_stepsC 11 (fun x => Ext v2 x ∧ Held x by_ 110 #[.int .i64 (c.yr k).k, .string (c.yr k).nm, .int .i64 (c.yr k).lg, .int .i64 (c.yr k).db]) mixed rfl ?_
            intro vz hvz
            have hGz := groups_ext hGy hvz
            have hEz := hEw.trans hvz
            have HBz := HB.ext hvz
            have hsz := hvz.size
            clear hGy HB hvz
            refine any_stillsC (g := 4) [0, 1, 2, 3, 4, 5, 7] [_, _, _, _, _, _, _] ⟨rfl, rfl, rfl, rfl, rfl, rfl, rfl, trivial⟩ (by kernel_rfl) (by kernel_rfl) ⟨hEz, HBz⟩ ?_
            simp only [List.getElem_toArray, List.getElem_cons_succ, List.getElem_cons_zero]
            apply Exists.intro
            refine ⟨fun u hu => ?_, ?_⟩
            · obtain ⟨y0, y1, y2, y3⟩ := hu.2.c4
              repeat (first | go_big_quiet_skip | (go_big_quiet_want; go_big_quiet_op; go_big_quiet_on))
              refine wpQuiet_nil ?_
              rfl
            refine any_fork 6 8 rfl rfl (by kernel_rfl) ?_ ?_
            · simp only [List.getElem_toArray, List.getElem_cons_succ, List.getElem_cons_zero]
              go_wp2_with (at_lookup; refine wpList_lookup_groups _ rfl _ _ 173 rfl 9 26 3 .i64 law_str Tryd.underlying173 (zero_ints _) (bm + 1) bm k _ rfl hGz (by unfold maxLen; omega) _ _ rfl hkey ?_; intro v zs hat hoi hzl hback)
              refine onQ_in ⟨hEz, HBz⟩ ?_
              refine any_one 8 rfl (by kernel_rfl) ?_
              simp only [List.getElem_toArray, List.getElem_cons_succ, List.getElem_cons_zero]
              go_wp2
              refine onQ_in ⟨hEz.alloc _, HBz.alloc _⟩ ?_
              refine any_one 9 rfl (by kernel_rfl) ?_
              simp only [List.getElem_toArray, List.getElem_cons_succ, List.getElem_cons_zero]
              go_wp2_with (at_builtin; refine wpList_append_own_at _ rfl _ _ 26 rfl (bm + 1) 3 i0 (.int .i64 0) 1 8 Tryd.underlying26 hi hz0 hz1 hz2 rfl (by decide) _ _ _ rfl (hoi.1.alloc _) ⟨vz.heap.size, 0, none⟩ 1 1 [.int .i64 (k : Int)] rfl rfl (cell_one_new _ _ _) (ints_oneCell .i64 [(k : Int)]) (by unfold maxLen; omega) (by omega) (by simp; omega) ?_; intro v' w1 hown' hgrow hnil hloc)
              have hE1 : Ext v2 w1 := (hEz.alloc _).grown hgrow (fun q hq => by have := (hoi.1.lt q hq).1; omega)
              have HB1 : Held w1 by_ 110 #[.int .i64 (c.yr k).k, .string (c.yr k).nm, .int .i64 (c.yr k).lg, .int .i64 (c.yr k).db] := Held.kept (HBz.alloc _) hgrow (HBz.not_row (by decide) hoi.1)
              refine onQ_in ⟨hE1, HB1⟩ ?_
              refine any_one 10 rfl (by kernel_rfl) ?_
              simp only [List.getElem_toArray, List.getElem_cons_succ, List.getElem_cons_zero]
              go_wp2_with (at_mapUpdate; refine wpList_mapUpdate_back _ rfl _ _ _ 173 rfl hback rfl rfl rfl ((World.grownBy_alloc _ _ _).trans hgrow) (hoi.appended hown' (WalkArith.wf_i64 (by omega))) (by simp; omega) (hloc.imp id (fun h => ⟨_, h, by simp⟩)) ?_; intro w2 hown2 hgrow2)
              have hE2 : Ext v2 w2 := hE1.grown hgrow2 (fun q hq => by cases hq; omega)
              have HB2 := HB1.kept hgrow2 (fun e => by cases e; omega)
              refine onQ_in ⟨hE2, HB2⟩ ?_
              refine any_done (by kernel_rfl) ?_
              have hs2 := hgrow2.size
              have hs1 := hgrow.size
              try simp only [World.size_alloc] at hs1
              go_wp2
              exact ⟨⟨k + 1, by omega, by go_num, by rw [HST.out _ _ _ hat hoi, ← (hoi.appended hown' (WalkArith.wf_i64 (by omega))).datum_pos (by simp)]; exact hown2, hE2, by omega⟩, by simp [intOf]; omega⟩
            · simp only [List.getElem_toArray, List.getElem_cons_succ, List.getElem_cons_zero]
              go_wp2
              refine onQ_in ⟨hEz.alloc _, HBz.alloc _⟩ ?_
              refine any_one 6 rfl (by kernel_rfl) ?_
              simp only [List.getElem_toArray, List.getElem_cons_succ, List.getElem_cons_zero]
              go_wp2_with (at_lookup; refine wpList_lookup_groups _ rfl _ _ 173 rfl 9 26 3 .i64 law_str Tryd.underlying173 (zero_ints _) (bm + 1) bm k _ rfl (groups_ext hGz ((Ext.refl _).alloc _)) (by unfold maxLen; omega) _ _ rfl hkey ?_; intro v zs hat hoi hzl hback)
              refine onQ_in ⟨hEz.alloc _, HBz.alloc _⟩ ?_
              refine any_one 9 rfl (by kernel_rfl) ?_
              simp only [List.getElem_toArray, List.getElem_cons_succ, List.getElem_cons_zero]
              go_wp2_with (at_builtin; refine wpList_append_own_at _ rfl _ _ 26 rfl (bm + 1) 3 i0 (.int .i64 0) 1 8 Tryd.underlying26 hi hz0 hz1 hz2 rfl (by decide) _ _ _ rfl hoi.1 ⟨vz.heap.size, 0, none⟩ 1 1 [.int .i64 (k : Int)] rfl rfl (cell_one_new _ _ _) (ints_oneCell .i64 [(k : Int)]) (by unfold maxLen; omega) (by omega) (by simp; omega) ?_; intro v' w1 hown' hgrow hnil hloc)
              have hE1 : Ext v2 w1 := (hEz.alloc _).grown hgrow (fun q hq => by have := (hoi.1.lt q hq).1; omega)
              have HB1 := (HBz.alloc _).kept hgrow ((HBz.alloc _).not_row (by decide) hoi.1)
              refine onQ_in ⟨hE1, HB1⟩ ?_
              refine any_one 10 rfl (by kernel_rfl) ?_
              simp only [List.getElem_toArray, List.getElem_cons_succ, List.getElem_cons_zero]
              go_wp2_with (at_mapUpdate; refine wpList_mapUpdate_back _ rfl _ _ _ 173 rfl hback rfl rfl rfl (hgrow) (hoi.appended hown' (WalkArith.wf_i64 (by omega))) (by simp; omega) (hloc.imp id (fun h => ⟨_, h, Nat.le_refl _⟩)) ?_; intro w2 hown2 hgrow2)
              have hE2 : Ext v2 w2 := hE1.grown hgrow2 (fun q hq => by cases hq; omega)
              have HB2 := HB1.kept hgrow2 (fun e => by cases e; omega)
              refine onQ_in ⟨hE2, HB2⟩ ?_
              refine any_done (by kernel_rfl) ?_
              have hs2 := hgrow2.size
              have hs1 := hgrow.size
              try simp only [World.size_alloc] at hs1
              go_wp2
              exact ⟨⟨k + 1, by omega, by go_num, by rw [HST.out _ _ _ hat hoi, ← (hoi.appended hown' (WalkArith.wf_i64 (by omega))).datum_pos (by simp)]; exact hown2, hE2, by omega⟩, by simp [intOf]; omega⟩
        · have hfe : e1 = false ∧ e2 = false := by cases e1 <;> cases e2 <;> simp_all
          obtain ⟨rfl, rfl⟩ := hfe
          have hD : namedD c king (k + 1) = namedD c king k := by rw [namedD, hF.out]; rfl
          have HD := Lib.hid hD
          clear hD hF hfit
          go_wp2
          exact ⟨⟨k + 1, by omega, by go_num, by rw [HD.out]; exact groups_mono (groups_ext hG ((Ext.refl _).alloc _)) (Nat.le_succ k), hE.alloc _, by simp; omega⟩, by simp [intOf]; omega⟩
      · obtain rfl : k = c.ny := by omega
        have hkey := WideMaps.keyOf_string_mk (P := Tryd.prog) Tryd.underlying9 hnm
        have HF := Lib.hid (fun (v : Value) (zs : List Int) hat ho => named_found (w := wo) (v := v) (zs := zs) (base := bm + 1) (e := 3) (c := c) (king := king) (s := name) (k := c.ny) hat ho)
        generalize namedD c king c.ny = DK at *
        go_wp2_with (at_lookup; refine wpList_lookup_groups _ rfl _ _ 173 rfl 9 26 3 .i64 law_str Tryd.underlying173 (zero_ints _) (bm + 1) bm c.ny _ rfl hG (by unfold maxLen; omega) _ _ rfl hkey ?_; intro v zs hat hoi hzl _)
        go_ret2
        refine ⟨v, by rw [HR.out.2]; rfl, E2.trans hE, ?_⟩
        rw [HR.out.1, ← HF.out v zs hat hoi]
        exact intsAt_own hoi
end Go.Proofs.YthmjpbafbohelaaDoor

namespace Go.Proofs.YthmjpbafbohelaaDoor
open Go Go.RowKit
attribute [local go_sem] gv_yes
end Go.Proofs.YthmjpbafbohelaaDoor

namespace Go.Proofs.YthmjpbafbohelaaDoor
open Go Go.RowKit Go.Shelf
attribute [local go_sem] gv_yes
theorem rows_apart {W : World} {b s1 s2 k1 k2 : Nat} {e1 e2 : TypeId} {v1 v2 : Value} {x1 x2 : List Value} (h1 : W.ownsRow b e1 s1 v1 k1 x1) (h2 : W.ownsRow b e2 s2 v2 k2 x2) (hne : e1 ≠ e2) : v1.ownBlock = none ∨ v1.ownBlock ≠ v2.ownBlock := by
  cases hb : v1.ownBlock with
  | none => exact .inl rfl
  | some r =>
    refine .inr fun e => ?_
    obtain ⟨_, c1, g1⟩ := row_type h1 r hb
    obtain ⟨_, c2, g2⟩ := row_type h2 r e.symm
    rw [g1] at g2
    simp at g2
    exact hne g2.2
namespace RsStep
variable {b W W' : World} {mv v : Value} {n : Nat} {ms : List Value} {L : List Sp}
end RsStep
end Go.Proofs.YthmjpbafbohelaaDoor

namespace Go.Proofs.YthmjpbafbohelaaDoor
open Go Go.RowKit
attribute [local go_sem] gv_yes

def cut5x (A : Option Addr → Nat → Option Addr → Nat → Nat → Act) (S : World → Option Addr → Nat → Option Addr → Nat → Nat → Prop) : Exit → Act → World → Prop := fun e a' w' => e = .normal ∧ ∃ p i q j r, S w' p i q j r ∧ a' = A p i q j r
theorem cut5x_is {A : Option Addr → Nat → Option Addr → Nat → Nat → Act} {S : World → Option Addr → Nat → Option Addr → Nat → Nat → Prop} {w' : World} (p : Option Addr) (i : Nat) (q : Option Addr) (j r : Nat) {a' : Act} (h : S w' p i q j r) (ha : a' = A p i q j r) : cut5x A S .normal a' w' := ⟨rfl, p, i, q, j, r, h, ha⟩
theorem wp_cut5x {P : Program} {c : Code} {Q : Exit → Act → World → Prop} {a : Act} {w : World} {A : Option Addr → Nat → Option Addr → Nat → Nat → Act} (S : World → Option Addr → Nat → Option Addr → Nat → Nat → Prop) (h1 : c.wp P (cut5x A S) a w) (h2 : ∀ p i q j r w', S w' p i q j r → Q .normal (A p i q j r) w') : c.wp P Q a w :=
  Code.wp_mono (fun e a' w' ⟨he, p, i, q, j, r, hs, ha⟩ => by subst he; subst ha; exact h2 p i q j r w' hs) h1
def cut1x (A : Nat → Act) (S : World → Nat → Prop) : Exit → Act → World → Prop := fun e a' w' => e = .normal ∧ ∃ r, S w' r ∧ a' = A r
theorem cut1x_is {A : Nat → Act} {S : World → Nat → Prop} {w' : World} (r : Nat) {a' : Act} (h : S w' r) (ha : a' = A r) : cut1x A S .normal a' w' := ⟨rfl, r, h, ha⟩
theorem wp_cut1x {P : Program} {c : Code} {Q : Exit → Act → World → Prop} {a : Act} {w : World} {A : Nat → Act} (S : World → Nat → Prop) (h1 : c.wp P (cut1x A S) a w) (h2 : ∀ r w', S w' r → Q .normal (A r) w') : c.wp P Q a w :=
  Code.wp_mono (fun e a' w' ⟨he, r, hs, ha⟩ => by subst he; subst ha; exact h2 r w' hs) h1
theorem held_third {W : World} {b : Nat} {t : TypeId} {v0 v1 v2 v3 : Value} (h : Held W b t #[v0, v1, v2, v3]) (u : Value) : Held (W.setCell ⟨b, 2, none⟩ u) b t #[v0, v1, u, v3] := by unfold Held at h ⊢; simp [World.setCell, Array.getElem?_modify, h]
theorem own_slice {W : World} {base size k : Nat} {e : TypeId} {v : Value} {xs : List Value} (h : W.ownsRow base e size v k xs) : ∃ F m, v = .slice F k m := by
  rcases h.2 with ⟨rfl, h0⟩ | ⟨g, cap, cur, rfl, _⟩
  · exact ⟨none, 0, by rw [h0]⟩
  · exact ⟨_, _, rfl⟩
theorem held_fst {W : World} {b : Nat} {t : TypeId} {v0 v1 : Value} (h : Held W b t #[v0, v1]) (u : Value) : Held (W.setCell ⟨b, 0, none⟩ u) b t #[u, v1] := by unfold Held at h ⊢; simp [World.setCell, Array.getElem?_modify, h]
theorem flatL_congr {f g : Nat → List Value} : ∀ {k : Nat}, (∀ i, i < k → f i = g i) → flatL f k = flatL g k
  | 0, _ => rfl
  | k + 1, h => by rw [flatL_succ, flatL_succ, flatL_congr (fun i hi => h i (by omega)), h k (by omega)]
theorem grown_set (W : World) (b j : Nat) (v : Value) : W.grownBy (W.setCell ⟨b, j, none⟩ v) (some b) :=
  ⟨rfl, rfl, rfl, (KeepsWalks.setCell W _ v).size, fun k _ hk => Below.heap_setCell _ _ _ k (fun e => hk (by rw [e]))⟩
theorem own_set {W : World} {b : Nat} {t e : TypeId} {cs : Array Value} (h : Held W b t cs) (hte : t ≠ e) {base size k : Nat} {v : Value} {xs : List Value} (hr : W.ownsRow base e size v k xs) (j : Nat) (u : Value) : (W.setCell ⟨b, j, none⟩ u).ownsRow base e size v k xs :=
  hr.kept (grown_set W b j u) (.inr (h.not_row hte hr).symm)
theorem held_other {W : World} {b b' : Nat} {t : TypeId} {cs : Array Value} (h : Held W b t cs) (hne : b ≠ b') (j : Nat) (u : Value) : Held (W.setCell ⟨b', j, none⟩ u) b t cs := h.kept (grown_set W b' j u) (fun e => hne (by cases e; rfl))
theorem held_snd {W : World} {b : Nat} {t : TypeId} {v0 v1 : Value} (h : Held W b t #[v0, v1]) (u : Value) : Held (W.setCell ⟨b, 1, none⟩ u) b t #[v0, u] := by unfold Held at h ⊢; simp [World.setCell, Array.getElem?_modify, h]
/-- What a round of the loop leaves. -/
structure ExS (b W : World) (bo bk : Nat) (K : Int) (vk vy : Value) (nk : Nat) (kx : List Value) (ny : Nat) (yx : List Value) : Prop where
  e : Ext b W
  k : W.ownsRow b.heap.size 9 1 vk nk kx
  y : W.ownsRow b.heap.size 110 4 vy ny yx
  o : Held W bo 25 #[vk, vy]
  h : Held W bk 3 #[.int .i64 K]
  lo : b.heap.size ≤ bo
namespace ExS
variable {b W W' : World} {bo bk nk ny : Nat} {K : Int} {vk vy : Value} {kx yx : List Value}
theorem ext (h : ExS b W bo bk K vk vy nk kx ny yx) (x : Ext W W') : ExS b W' bo bk K vk vy nk kx ny yx := ⟨h.e.trans x, ownsRow_ext h.k x, ownsRow_ext h.y x, h.o.ext x, h.h.ext x, h.lo⟩
theorem push (h : ExS b W bo bk K vk vy nk kx ny yx) {w1 : World} {v' : Value} {ob : Obj} {news : List Value} {m : Nat} (hown : w1.ownsRow b.heap.size 110 4 v' m news) (hgrow : (W.alloc ob).grownBy w1 vy.ownBlock) :
    Held w1 bo 25 #[vk, vy] ∧ ExS b (w1.setCell ⟨bo, 1, none⟩ v') bo bk K vk v' nk kx m news := by
  have ha := h.ext ((Ext.refl W).alloc ob)
  have e1 : Ext b w1 := ha.e.grown hgrow (fun q hq => (row_type ha.y q hq).1)
  have k1 := ha.k.kept hgrow (rows_apart ha.k ha.y (by decide))
  have o1 := ha.o.kept hgrow (ha.o.not_row (by decide) ha.y)
  have h1 := ha.h.kept hgrow (ha.h.not_row (by decide) ha.y)
  have hne : bk ≠ bo := fun e => by
    have e1 := (show w1.heap[bk]? = _ from h1)
    rw [e, show w1.heap[bo]? = _ from o1] at e1
    simp at e1
  exact ⟨o1, e1.setCell (p := ⟨bo, 1, none⟩) h.lo _, own_set o1 (by decide) k1 1 v', own_set o1 (by decide) hown 1 v', held_snd o1 v', held_other h1 hne 1 v', h.lo⟩
end ExS
set_option maxRecDepth 100000 in
set_option maxHeartbeats 8000000 in
theorem extend_any (A A' Bn : Option Addr) (ca cb n cap : Nat) (c : Cal) (g : Nat → ByteArray) (p : Int) (w : World) (hC : CalAt w A ca A' cb c) (hN : RowsAt w Bn n 1 (fun i => [.string (g i)])) (hn : n ≤ 9223372036854775807) :
    Calls Tryd.prog 46 #[.agg #[.slice A c.nk ca, .slice A' c.ny cb], .slice Bn n cap, .int .i64 p] w fun e w' => ∃ F F' da db, e = .returned (.tuple #[.agg #[.slice F (c.extV g n p).nk da, .slice F' (c.extV g n p).ny db], .int .i64 (c.extE g n p)]) ∧ Ext w w' ∧ CalAt w' F da F' db (c.extV g n p) := by
  have NT := fun v (h : CalAt v A ca A' cb c) => checksNone_any A A' ca cb c v h
  cases hv : c.valid
  · have HR : Hid (c.extE g n p = 70) := by unfold Hid Cal.extE; rw [hv]; rfl
    simp only [chk_no hv] at NT
    clear hv
    go_enter Tryd.func46, Tryd.ntmps46
    go_upto_region 1 with (fail)
    obtain ⟨v, hv⟩ : ∃ v, v = ((w.alloc (.cells #[.slice A c.nk ca, .slice A' c.ny cb] 25)).alloc (.cells #[.slice none 0 0, .slice none 0 0] 25)) := ⟨_, rfl⟩
    rw [← hv]
    have E : Ext w v := by rw [hv]; exact ((Ext.refl _).alloc _).alloc _
    have B1 : Held v w.heap.size 25 #[.slice A c.nk ca, .slice A' c.ny cb] := by rw [hv]; exact (Held.new _ _ _).alloc _
    have B2 : Held v (w.heap.size + 1) 25 #[.slice none 0 0, .slice none 0 0] := by rw [hv]; exact Held.at _ _ _ _ (by simp)
    clear hv
    have C := hC.ext E
    clear hC
    generalize hb1 : w.heap.size = b1 at *
    replace hb1 := Lib.hid hb1
    obtain ⟨k0, k1⟩ := B1.c2; have lk := B1.lt
    obtain ⟨p0, p1⟩ := B2.c2; have lp := B2.lt
    go_upto_region 2 with (go_at_call 48; (with_reducible refine Calls.mono (NT _ C) ?_); rintro e v2 ⟨rfl, h⟩)
    replace E := Ext.trans E h
    replace C := C.ext h
    replace B1 := B1.ext h
    replace B2 := B2.ext h
    clear h
    clear k0 k1 lk
    clear p0 p1 lp
    obtain ⟨k0, k1⟩ := B1.c2; have lk := B1.lt
    obtain ⟨p0, p1⟩ := B2.c2; have lp := B2.lt
    have f0 := B2.frozen 0
    have f1 := B2.frozen 1
    go_wp2
    have H2 := held_two B2 (.slice none 0 0) (.slice none 0 0)
    obtain ⟨y0, y1⟩ := H2.c2
    have E2 := (E.setCell (p := ⟨b1 + 1, 0, none⟩) (by have := hb1.out; show w.heap.size ≤ b1 + 1; omega) (.slice none 0 0)).setCell (p := ⟨b1 + 1, 1, none⟩) (by have := hb1.out; show w.heap.size ≤ b1 + 1; omega) (.slice none 0 0)
    refine bodyPost_ret (v := .tuple #[.agg #[.slice none 0 0, .slice none 0 0], .int .i64 70]) (by simp [results, Tryd.results46, go_sem, y0, y1]) rfl ⟨none, none, 0, 0, by rw [HR.out]; unfold Cal.extV; rw [HR.out]; rfl, E2, by unfold Cal.extV; rw [HR.out]; exact ⟨fun h => absurd h (by show ¬ 0 < 0; omega), fun h => absurd h (by show ¬ 0 < 0; omega), Nat.zero_le _, Nat.zero_le _, Nat.le_refl _, Nat.le_refl _⟩⟩
  · have ok := valid_iff.1 hv
    have hny := ok.ny
    have hnk := ok.nk
    simp only [chk_yes hv] at NT
    by_cases hp : 1 ≤ p ∧ p ≤ 19
    · by_cases hl : n ≤ 38 ∧ c.ny + n ≤ 400
      · obtain ⟨P, rfl⟩ : ∃ P : Nat, p = (P : Int) := ⟨p.toNat, by omega⟩
        have HR : Hid (c.extE g n (P : Int) = if c.extAll P g n then 0 else 5) := by unfold Hid Cal.extE; rw [if_pos hv, if_pos hp, if_pos hl]; rfl
        have hP1 : 1 ≤ P := by omega
        have hP2 : P ≤ 19 := by omega
        have p1 : decide ((P : Int) < 1) = false := decide_eq_false (by omega)
        have p2 : decide (19 < (P : Int)) = false := decide_eq_false (by omega)
        have l1b : decide (38 < (n : Int)) = false := decide_eq_false (by omega)
        have l2b : decide (400 < (c.ny : Int) + (n : Int)) = false := decide_eq_false (by omega)
        obtain ⟨i0, hi, hz0, hz1, hz2⟩ := info_parts info_year
        clear hv ok hp
        go_enter Tryd.func46, Tryd.ntmps46
        go_upto_region 1 with (fail)
        obtain ⟨v, hv⟩ : ∃ v, v = ((w.alloc (.cells #[.slice A c.nk ca, .slice A' c.ny cb] 25)).alloc (.cells #[.slice none 0 0, .slice none 0 0] 25)) := ⟨_, rfl⟩
        rw [← hv]
        have E : Ext w v := by rw [hv]; exact ((Ext.refl _).alloc _).alloc _
        have B1 : Held v w.heap.size 25 #[.slice A c.nk ca, .slice A' c.ny cb] := by rw [hv]; exact (Held.new _ _ _).alloc _
        have B2 : Held v (w.heap.size + 1) 25 #[.slice none 0 0, .slice none 0 0] := by rw [hv]; exact Held.at _ _ _ _ (by simp)
        clear hv
        have C := hC.ext E
        clear hC
        generalize hb1 : w.heap.size = b1 at *
        replace hb1 := Lib.hid hb1
        obtain ⟨k0, k1⟩ := B1.c2; have lk := B1.lt
        obtain ⟨p0, p1⟩ := B2.c2; have lp := B2.lt
        go_upto_region 4 with (go_at_call 48; (with_reducible refine Calls.mono (NT _ C) ?_); rintro e v2 ⟨rfl, h⟩)
        replace E := Ext.trans E h
        replace C := C.ext h
        replace B1 := B1.ext h
        replace B2 := B2.ext h
        clear h
        clear k0 k1 lk
        clear p0 p1 lp
        obtain ⟨k0, k1⟩ := B1.c2; have lk := B1.lt
        obtain ⟨p0, p1⟩ := B2.c2; have lp := B2.lt
        obtain ⟨kb, ko, hA, hkb, q9⟩ := C.king (i := 0) (by omega)
        obtain ⟨yb, yo, hA', hyb, y0, y1, y2, y3⟩ := C.year (i := 0) (by omega)
        subst hA
        subst hA'
        clear q9 y0 y1 y2 y3
        have NCT := fun v (h : RowsAt v (some ⟨kb, ko, none⟩) c.nk 1 (fun i => [.string (c.kg i)])) => cloneTexts_any _ c.nk ca c.kg v h (fun h => by cases h) (by omega)
        have NCY := fun v (h : RowsAt v (some ⟨yb, yo, none⟩) c.ny 4 (fun i => (c.yr i).cells)) => cloneYears_any _ c.ny cb c.yr v h (fun h => by cases h) (by omega)
        go_upto_region 8 with (fail)
        apply wp_cut5x (S := fun w' F1 m1 F2 m2 bo => Ext v2 w' ∧ v2.heap.size ≤ bo ∧ Held w' bo 25 #[.slice F1 c.nk m1, .slice F2 c.ny m2] ∧ w'.ownsRow v2.heap.size 9 1 (.slice F1 c.nk m1) c.nk (flatL (strRow c.kg) c.nk) ∧ w'.ownsRow v2.heap.size 110 4 (.slice F2 c.ny m2) c.ny (flatL (fun i => (c.yr i).cells) c.ny))
        · refine wp_region_stepsW 9 v2 mixed rfl (Ext.refl _) ?_
          intro hne hrx v3 h3
          refine any_stills (g := 5) [0, 1, 3, 4] [_, _, _, _] ⟨rfl, rfl, rfl, rfl, trivial⟩ (by kernel_rfl) (by kernel_rfl) h3 ?_
          simp only [List.getElem_toArray, List.getElem_cons_succ, List.getElem_cons_zero]
          apply Exists.intro
          refine ⟨fun u => ?_, ?_⟩
          · repeat (first | go_big_quiet_skip | (go_big_quiet_want; go_big_quiet_op; go_big_quiet_on))
            refine wpQuiet_nil ?_
            rfl
          refine any_fork 2 7 rfl rfl (by kernel_rfl) ?_ ?_
          · simp only [List.getElem_toArray, List.getElem_cons_succ, List.getElem_cons_zero]
            go_wp2_with (go_at_call 92; (with_reducible refine Calls.mono (NCT _ (C.kings.ext h3)) ?_); rintro e w4 ⟨vk, rfl, h4, hK⟩; obtain ⟨F1, m1, rfl⟩ := own_slice hK)
            have e4 := h3.trans h4
            have hK4 := World.ownsRow.mono hK h3.size
            refine onQ_in e4 ?_
            refine any_fork 5 7 rfl rfl (by kernel_rfl) ?_ ?_
            · simp only [List.getElem_toArray, List.getElem_cons_succ, List.getElem_cons_zero]
              go_wp2_with (go_at_call 93; (with_reducible refine Calls.mono (NCY _ (C.years.ext e4)) ?_); rintro e w5 ⟨vy, rfl, h5, hY⟩; obtain ⟨F2, m2, rfl⟩ := own_slice hY)
              have e5 := e4.trans h5
              have hK5 := ownsRow_ext hK4 h5
              have hY5 := World.ownsRow.mono hY e4.size
              refine onQ_in e5 ?_
              refine any_stills (g := 2) [6] [_] ⟨rfl, trivial⟩ (by kernel_rfl) (by kernel_rfl) e5 ?_
              simp only [List.getElem_toArray, List.getElem_cons_succ, List.getElem_cons_zero]
              apply Exists.intro
              refine ⟨fun u => ?_, ?_⟩
              · repeat (first | go_big_quiet_skip | (go_big_quiet_want; go_big_quiet_op; go_big_quiet_on))
                refine wpQuiet_nil ?_
                rfl
              refine any_one 7 rfl (by kernel_rfl) ?_
              simp only [List.getElem_toArray, List.getElem_cons_succ, List.getElem_cons_zero]
              go_wp2
              refine onQ_in (e5.alloc _) ?_
              refine any_one 8 rfl (by kernel_rfl) ?_
              simp only [List.getElem_toArray, List.getElem_cons_succ, List.getElem_cons_zero]
              have hbo := (e5).size
              have HB0 := Held.new w5 25 #[.slice none 0 0, .slice none 0 0]
              have h6 : Ext w5 (w5.alloc (.cells #[.slice none 0 0, .slice none 0 0] 25)) := (Ext.refl _).alloc _
              generalize w5.heap.size = bo at *
              generalize World.alloc w5 _ = w6 at *
              have HBx := HB0
              have f0 := HBx.frozen 0
              have f1 := HBx.frozen 1
              obtain ⟨z0, z1⟩ := HBx.c2
              have lz := HBx.lt
              have hKx := ownsRow_ext hK5 h6
              have hYx := ownsRow_ext hY5 h6
              have Ex := e5.trans h6
              have H2 := held_two HBx (.slice F1 c.nk m1) (.slice F2 c.ny m2)
              have hK2 := own_set (held_fst HBx (.slice F1 c.nk m1)) (by decide) (own_set HBx (by decide) hKx 0 (.slice F1 c.nk m1)) 1 (.slice F2 c.ny m2)
              have hY2 := own_set (held_fst HBx (.slice F1 c.nk m1)) (by decide) (own_set HBx (by decide) hYx 0 (.slice F1 c.nk m1)) 1 (.slice F2 c.ny m2)
              have E2 := (Ex.setCell (p := ⟨bo, 0, none⟩) hbo (.slice F1 c.nk m1)).setCell (p := ⟨bo, 1, none⟩) hbo (.slice F2 c.ny m2)
              go_wp2
              refine onQ_in E2 ?_
              refine any_done (by kernel_rfl) ?_
              exact cut5x_is F1 m1 F2 m2 bo ⟨E2, hbo, H2, hK2, hY2⟩ rfl
            · simp only [List.getElem_toArray, List.getElem_cons_succ, List.getElem_cons_zero]
              go_wp2
              refine onQ_in (e4.alloc _) ?_
              have hbo := (e4).size
              have HB0 := Held.new w4 25 #[.slice none 0 0, .slice none 0 0]
              have h6 : Ext w4 (w4.alloc (.cells #[.slice none 0 0, .slice none 0 0] 25)) := (Ext.refl _).alloc _
              generalize w4.heap.size = bo at *
              generalize World.alloc w4 _ = w6 at *
              have e6 := e4.trans h6
              refine any_one 5 rfl (by kernel_rfl) ?_
              simp only [List.getElem_toArray, List.getElem_cons_succ, List.getElem_cons_zero]
              go_wp2_with (go_at_call 93; (with_reducible refine Calls.mono (NCY _ (C.years.ext (e6))) ?_); rintro e w5 ⟨vy, rfl, h5, hY⟩; obtain ⟨F2, m2, rfl⟩ := own_slice hY)
              have e5 := e6.trans h5
              have hK5 := ownsRow_ext hK4 (h6.trans h5)
              have hY5 := World.ownsRow.mono hY e6.size
              refine onQ_in e5 ?_
              refine any_one 6 rfl (by kernel_rfl) ?_
              simp only [List.getElem_toArray, List.getElem_cons_succ, List.getElem_cons_zero]
              go_wp2
              refine onQ_in e5 ?_
              refine any_one 8 rfl (by kernel_rfl) ?_
              simp only [List.getElem_toArray, List.getElem_cons_succ, List.getElem_cons_zero]
              have HBx := HB0.ext h5
              have f0 := HBx.frozen 0
              have f1 := HBx.frozen 1
              obtain ⟨z0, z1⟩ := HBx.c2
              have lz := HBx.lt
              have hKx := hK5
              have hYx := hY5
              have Ex := e5
              have H2 := held_two HBx (.slice F1 c.nk m1) (.slice F2 c.ny m2)
              have hK2 := own_set (held_fst HBx (.slice F1 c.nk m1)) (by decide) (own_set HBx (by decide) hKx 0 (.slice F1 c.nk m1)) 1 (.slice F2 c.ny m2)
              have hY2 := own_set (held_fst HBx (.slice F1 c.nk m1)) (by decide) (own_set HBx (by decide) hYx 0 (.slice F1 c.nk m1)) 1 (.slice F2 c.ny m2)
              have E2 := (Ex.setCell (p := ⟨bo, 0, none⟩) hbo (.slice F1 c.nk m1)).setCell (p := ⟨bo, 1, none⟩) hbo (.slice F2 c.ny m2)
              go_wp2
              refine onQ_in E2 ?_
              refine any_done (by kernel_rfl) ?_
              exact cut5x_is F1 m1 F2 m2 bo ⟨E2, hbo, H2, hK2, hY2⟩ rfl
          · simp only [List.getElem_toArray, List.getElem_cons_succ, List.getElem_cons_zero]
            go_wp2
            refine onQ_in (h3.alloc _) ?_
            have hbo := (h3).size
            have HB0 := Held.new v3 25 #[.slice none 0 0, .slice none 0 0]
            have h6 : Ext v3 (v3.alloc (.cells #[.slice none 0 0, .slice none 0 0] 25)) := (Ext.refl _).alloc _
            generalize v3.heap.size = bo at *
            generalize World.alloc v3 _ = w6 at *
            have e6 := h3.trans h6
            refine any_one 2 rfl (by kernel_rfl) ?_
            simp only [List.getElem_toArray, List.getElem_cons_succ, List.getElem_cons_zero]
            go_wp2_with (go_at_call 92; (with_reducible refine Calls.mono (NCT _ (C.kings.ext (e6))) ?_); rintro e w4 ⟨vk, rfl, h4, hK⟩; obtain ⟨F1, m1, rfl⟩ := own_slice hK)
            have e4 := e6.trans h4
            have hK4 := World.ownsRow.mono hK e6.size
            refine onQ_in e4 ?_
            refine any_one 5 rfl (by kernel_rfl) ?_
            simp only [List.getElem_toArray, List.getElem_cons_succ, List.getElem_cons_zero]
            go_wp2_with (go_at_call 93; (with_reducible refine Calls.mono (NCY _ (C.years.ext (e4))) ?_); rintro e w5 ⟨vy, rfl, h5, hY⟩; obtain ⟨F2, m2, rfl⟩ := own_slice hY)
            have e5 := e4.trans h5
            have hK5 := ownsRow_ext hK4 h5
            have hY5 := World.ownsRow.mono hY e4.size
            refine onQ_in e5 ?_
            refine any_one 6 rfl (by kernel_rfl) ?_
            simp only [List.getElem_toArray, List.getElem_cons_succ, List.getElem_cons_zero]
            go_wp2
            refine onQ_in e5 ?_
            refine any_one 8 rfl (by kernel_rfl) ?_
            simp only [List.getElem_toArray, List.getElem_cons_succ, List.getElem_cons_zero]
            have HBx := (HB0.ext h4).ext h5
            have f0 := HBx.frozen 0
            have f1 := HBx.frozen 1
            obtain ⟨z0, z1⟩ := HBx.c2
            have lz := HBx.lt
            have hKx := hK5
            have hYx := hY5
            have Ex := e5
            have H2 := held_two HBx (.slice F1 c.nk m1) (.slice F2 c.ny m2)
            have hK2 := own_set (held_fst HBx (.slice F1 c.nk m1)) (by decide) (own_set HBx (by decide) hKx 0 (.slice F1 c.nk m1)) 1 (.slice F2 c.ny m2)
            have hY2 := own_set (held_fst HBx (.slice F1 c.nk m1)) (by decide) (own_set HBx (by decide) hYx 0 (.slice F1 c.nk m1)) 1 (.slice F2 c.ny m2)
            have E2 := (Ex.setCell (p := ⟨bo, 0, none⟩) hbo (.slice F1 c.nk m1)).setCell (p := ⟨bo, 1, none⟩) hbo (.slice F2 c.ny m2)
            go_wp2
            refine onQ_in E2 ?_
            refine any_done (by kernel_rfl) ?_
            exact cut5x_is F1 m1 F2 m2 bo ⟨E2, hbo, H2, hK2, hY2⟩ rfl
        · intro F1 m1 F2 m2 bo wf ⟨Ef, hbo, HBo, hK, hY⟩
          clear NCT NCY
          have Cf := C.ext Ef
          have B1f := B1.ext Ef
          clear k0 k1 lk
          obtain ⟨k0, k1⟩ := B1f.c2
          have lk := B1f.lt
          obtain ⟨yb', yo', ee, hyb', y0, y1, y2, y3⟩ := Cf.year (i := c.ny - 1) (by omega)
          cases ee
          obtain ⟨K, hKK⟩ : ∃ K, K = (c.yr (c.ny - 1)).k := ⟨_, rfl⟩
          have hLK : Hid (c.lastK = K) := hKK.symm
          rw [← hKK] at y0
          clear hKK y1 y2 y3
          have x0 : (0 : Int) ≤ (c.ny : Int) - 1 := by omega
          have x1 : (c.ny : Int) - 1 < (c.ny : Int) := by omega
          go_upto_region 10 with (fail)
          obtain ⟨wk, hwk⟩ : ∃ x, x = wf.alloc (.cells #[.int .i64 K] 3) := ⟨_, rfl⟩
          rw [← hwk]
          have hk6 : Ext wf wk := by rw [hwk]; exact (Ext.refl _).alloc _
          have HBk : Held wk wf.heap.size 3 #[.int .i64 K] := by rw [hwk]; exact Held.new _ _ _
          have hS0 : ExS v2 wk bo wf.heap.size K (.slice F1 c.nk m1) (.slice F2 c.ny m2) c.nk (flatL (strRow c.kg) c.nk) c.ny (flatL (fun i => (c.yr i).cells) c.ny) := ⟨Ef.trans hk6, ownsRow_ext hK hk6, ownsRow_ext hY hk6, HBo.ext hk6, HBk, hbo⟩
          clear hwk hk6 HBk HBo hK hY B1f Cf
          generalize wf.heap.size = bk at *
          have hS1 : ∃ vy, ExS v2 wk bo bk K (.slice F1 c.nk m1) vy c.nk (flatL (strRow c.kg) c.nk) (c.ny + 0) (flatL (fun i => (c.extY P g i).cells) (c.ny + 0)) := ⟨_, by
            rw [Nat.add_zero, show flatL (fun i => (c.extY P g i).cells) c.ny = flatL (fun i => (c.yr i).cells) c.ny from flatL_congr fun i hi => by rw [extY_old hi]]
            exact hS0⟩
          clear hS0
          go_upto_region 11 with (fail)
          go_loopw [2, 58] (fun pv iv wr => ∃ k : Nat, k ≤ n ∧ iv = .int .i64 (k : Int) ∧ pv = .int .i64 (placeAt P k : Int) ∧ Hid (∀ i, i < k → c.extGood P g i = true) ∧ ∃ vy, ExS v2 wr bo bk K (.slice F1 c.nk m1) vy c.nk (flatL (strRow c.kg) c.nk) (c.ny + k) (flatL (fun i => (c.extY P g i).cells) (c.ny + k))) (fun _ iv _ => n - (intOf iv).toNat)
          case atStart => exact ⟨0, Nat.zero_le _, rfl, by rw [placeAt_zero hP1 hP2], fun i h => absurd h (by omega), hS1⟩
          case round =>
            clear hS1 k0 k1 lk y0
            obtain ⟨k, hk, rfl, rfl, hgood, vy, hS⟩ := hrel
            obtain ⟨wo, rfl⟩ : ∃ wo : World, wo = wr := ⟨_, rfl⟩
            by_cases hlt : k < n
            · obtain ⟨nb, no, hNN, hnb, hc⟩ := (hN.ext (E.trans hS.e)) (by omega)
              subst hNN
              have c0 : wo.cell? ⟨nb, no + k, none⟩ = some (.string (g k)) := by simpa using hc k 0 _ hlt rfl
              clear hc
              have hpb := placeAt_bd P k
              have hps := Lib.hid (placeAt_succ P k)
              have hnew := Lib.hid (extY_new c P g k)
              have hEG : Hid (c.extGood P g k = (isName (g k) && !((List.range (c.ny + k)).any fun j => isYr K (g k) (c.extY P g j)))) := by
                show _ = _
                rw [← hLK.out]; rfl
              go_upto_region 13 with (fail)
              obtain ⟨ws, hws⟩ : ∃ x, x = wo.alloc (.cells #[.string (g k)] 9) := ⟨_, rfl⟩
              rw [← hws]
              have h6 : Ext wo ws := by rw [hws]; exact (Ext.refl _).alloc _
              have HBs : Held ws wo.heap.size 9 #[.string (g k)] := by rw [hws]; exact Held.new _ _ _
              clear hws c0
              generalize wo.heap.size = bs at *
              have hSs := hS.ext h6
              clear hS
              obtain ⟨F3, m3, rfl, hRY, hm3, hm4, hm5, hm6⟩ := flat_rows (f := fun i => (c.extY P g i).cells) (sz := 4) (fun _ => rfl) hSs.y
              have NCF := contains_any F3 (c.ny + k) m3 (c.extY P g) K (g k) bk bs ws hRY (by omega) (by simpa using hSs.h.cell 0) (by simpa using HBs.cell 0) hSs.h.lt HBs.lt
              have NIS := isName_any (g k) ws
              generalize ((List.range (c.ny + k)).any fun j => isYr K (g k) (c.extY P g j)) = ab at *
              generalize isName (g k) = ib at *
              obtain ⟨o0, o1⟩ := hSs.o.c2
              have lo := hSs.o.lt
              obtain s0 : ws.cell? ⟨bs, 0, none⟩ = some (.string (g k)) := by simpa using HBs.cell 0
              have ls := HBs.lt
              cases ib
              · have HR3 : Hid (c.extE g n (P : Int) = 5) := by unfold Hid; rw [HR.out, extAll_no hlt (by rw [hEG.out]; rfl)]; rfl
                have BZ := B2.ext hSs.e
                have EZ := E.trans hSs.e
                have f0 := BZ.frozen 0
                have f1 := BZ.frozen 1
                obtain ⟨r0, r1⟩ := BZ.c2
                have lr := BZ.lt
                go_wp2_with (go_at_call 94; refine NIS.mono ?_; rintro e w' ⟨rfl, rfl⟩)
                have H2 := held_two BZ (.slice none 0 0) (.slice none 0 0)
                obtain ⟨y0, y1⟩ := H2.c2
                have E2 := (EZ.setCell (p := ⟨b1 + 1, 0, none⟩) (by have := hb1.out; show w.heap.size ≤ b1 + 1; omega) (.slice none 0 0)).setCell (p := ⟨b1 + 1, 1, none⟩) (by have := hb1.out; show w.heap.size ≤ b1 + 1; omega) (.slice none 0 0)
                refine bodyPost_ret (v := .tuple #[.agg #[.slice none 0 0, .slice none 0 0], .int .i64 5]) (by simp [results, Tryd.results46, go_sem, y0, y1]) rfl ⟨none, none, 0, 0, by rw [HR3.out]; unfold Cal.extV; rw [HR3.out]; rfl, E2, by unfold Cal.extV; rw [HR3.out]; exact ⟨fun h => absurd h (by show ¬ 0 < 0; omega), fun h => absurd h (by show ¬ 0 < 0; omega), Nat.zero_le _, Nat.zero_le _, Nat.le_refl _, Nat.le_refl _⟩⟩
              · cases ab
                · have hgk : c.extGood P g k = true := hEG.out
                  clear hEG
                  go_upto_region 15 with (first | (go_at_call 94; refine NIS.mono ?_; rintro e w' ⟨rfl, rfl⟩) | (go_at_call 95; (with_reducible refine Calls.mono NCF ?_); rintro e w7 ⟨rfl, h7⟩))
                  have S7 := hSs.ext h7
                  have HBs7 := HBs.ext h7
                  clear hSs HBs NCF NIS o0 o1 lo s0 ls hRY hm3 hm4 hm5 hm6
                  have hkc : w7.cell? ⟨bk, 0, none⟩ = some (.int .i64 K) := by simpa using S7.h.cell 0
                  have hsc : w7.cell? ⟨bs, 0, none⟩ = some (.string (g k)) := by simpa using HBs7.cell 0
                  have lkc := S7.h.lt
                  have lsc := HBs7.lt
                  have ND := fun w => double_any (placeAt P k) hpb.1 hpb.2 w
                  generalize placeAt P k = q at *
                  have hdc := dbl_cases q
                  generalize hdq : dbl q = dq at *
                  apply wp_cut1x (S := fun w' r => Ext w7 w' ∧ w7.heap.size ≤ r ∧ Held w' r 110 #[.int .i64 K, .string (g k), .int .i64 1365, .int .i64 dq])
                  · refine wp_region_stepsW 7 w7 mixed rfl (Ext.refl _) ?_
                    intro hne hrx v3 h3
                    refine any_stills (g := 4) [0, 1, 2] [_, _, _] ⟨rfl, rfl, rfl, trivial⟩ (by kernel_rfl) (by kernel_rfl) h3 ?_
                    simp only [List.getElem_toArray, List.getElem_cons_succ, List.getElem_cons_zero]
                    apply Exists.intro
                    refine ⟨fun u => ?_, ?_⟩
                    · repeat (first | go_big_quiet_skip | (go_big_quiet_want; go_big_quiet_op; go_big_quiet_on))
                      refine wpQuiet_nil ?_
                      rfl
                    refine any_fork 3 5 rfl rfl (by kernel_rfl) ?_ ?_
                    · simp only [List.getElem_toArray, List.getElem_cons_succ, List.getElem_cons_zero]
                      go_wp2_with (go_at_call 97; (with_reducible refine Calls.mono (ND _) ?_); rintro e w8 ⟨rfl, h8⟩)
                      have e8 := h3.trans h8
                      refine onQ_in e8 ?_
                      refine any_stills (g := 2) [4] [_] ⟨rfl, trivial⟩ (by kernel_rfl) (by kernel_rfl) e8 ?_
                      simp only [List.getElem_toArray, List.getElem_cons_succ, List.getElem_cons_zero]
                      apply Exists.intro
                      refine ⟨fun u => ?_, ?_⟩
                      · repeat (first | go_big_quiet_skip | (go_big_quiet_want; go_big_quiet_op; go_big_quiet_on))
                        refine wpQuiet_nil ?_
                        rfl
                      refine any_one 5 rfl (by kernel_rfl) ?_
                      simp only [List.getElem_toArray, List.getElem_cons_succ, List.getElem_cons_zero]
                      go_wp2
                      refine onQ_in (e8.alloc _) ?_
                      refine any_one 6 rfl (by kernel_rfl) ?_
                      simp only [List.getElem_toArray, List.getElem_cons_succ, List.getElem_cons_zero]
                      have hle := e8.size
                      have HB0 := Held.new w8 110 #[.int .i64 0, .string ⟨#[]⟩, .int .i64 0, .int .i64 0]
                      have h6' : Ext w8 (w8.alloc (.cells #[.int .i64 0, .string ⟨#[]⟩, .int .i64 0, .int .i64 0] 110)) := (Ext.refl _).alloc _
                      generalize w8.heap.size = by_ at *
                      generalize World.alloc w8 _ = w9 at *
                      have e9 := e8.trans h6'
                      have g0 := HB0.frozen 0
                      have g1 := HB0.frozen 1
                      have g2 := HB0.frozen 2
                      have g3 := HB0.frozen 3
                      obtain ⟨t0, t1, t2, t3⟩ := HB0.c4
                      have lt := HB0.lt
                      obtain hx := held_set4 HB0 (.int .i64 K) (.string (g k)) (.int .i64 1365) (.int .i64 dq)
                      have ex := (four_set HB0 (.int .i64 K) (.string (g k)) (.int .i64 1365) (.int .i64 dq)).2 w7 e9 hle
                      go_wp2
                      refine onQ_in ex ?_
                      refine any_done (by kernel_rfl) ?_
                      exact cut1x_is by_ ⟨ex, hle, hx⟩ rfl
                    · simp only [List.getElem_toArray, List.getElem_cons_succ, List.getElem_cons_zero]
                      go_wp2
                      refine onQ_in (h3.alloc _) ?_
                      have hle := h3.size
                      have HB0 := Held.new v3 110 #[.int .i64 0, .string ⟨#[]⟩, .int .i64 0, .int .i64 0]
                      have h6' : Ext v3 (v3.alloc (.cells #[.int .i64 0, .string ⟨#[]⟩, .int .i64 0, .int .i64 0] 110)) := (Ext.refl _).alloc _
                      generalize v3.heap.size = by_ at *
                      generalize World.alloc v3 _ = w8 at *
                      have e8 := h3.trans h6'
                      refine any_one 3 rfl (by kernel_rfl) ?_
                      simp only [List.getElem_toArray, List.getElem_cons_succ, List.getElem_cons_zero]
                      go_wp2_with (go_at_call 97; (with_reducible refine Calls.mono (ND _) ?_); rintro e w9 ⟨rfl, h8⟩)
                      have e9 := e8.trans h8
                      replace HB0 := HB0.ext h8
                      refine onQ_in e9 ?_
                      refine any_one 4 rfl (by kernel_rfl) ?_
                      simp only [List.getElem_toArray, List.getElem_cons_succ, List.getElem_cons_zero]
                      go_wp2
                      refine onQ_in e9 ?_
                      refine any_one 6 rfl (by kernel_rfl) ?_
                      simp only [List.getElem_toArray, List.getElem_cons_succ, List.getElem_cons_zero]
                      have g0 := HB0.frozen 0
                      have g1 := HB0.frozen 1
                      have g2 := HB0.frozen 2
                      have g3 := HB0.frozen 3
                      obtain ⟨t0, t1, t2, t3⟩ := HB0.c4
                      have lt := HB0.lt
                      obtain hx := held_set4 HB0 (.int .i64 K) (.string (g k)) (.int .i64 1365) (.int .i64 dq)
                      have ex := (four_set HB0 (.int .i64 K) (.string (g k)) (.int .i64 1365) (.int .i64 dq)).2 w7 e9 hle
                      go_wp2
                      refine onQ_in ex ?_
                      refine any_done (by kernel_rfl) ?_
                      exact cut1x_is by_ ⟨ex, hle, hx⟩ rfl
                  · intro by_ w9 ⟨e9, hle, HBy⟩
                    have HDQ := Lib.hid hdq
                    clear hdq hkc hsc lkc lsc ND
                    rcases hdc with rfl | rfl | rfl
                    · have S9 := S7.ext e9
                      obtain ⟨o0, o1⟩ := S9.o.c2
                      have lo := S9.o.lt
                      obtain ⟨t0, t1, t2, t3⟩ := HBy.c4
                      have lt := HBy.lt
                      go_wp2_with (at_builtin; refine wpList_append_own _ rfl _ _ 23 rfl v2.heap.size 110 i0 (.agg #[.int .i64 0, .string ⟨#[]⟩, .int .i64 0, .int .i64 0]) 4 40 Tryd.underlying23 hi hz0 hz1 hz2 rfl (by decide) _ _ _ rfl (S9.y.alloc _) ⟨w9.heap.size, 0, none⟩ 1 1 [.int .i64 K, .string (g k), .int .i64 1365, .int .i64 0] rfl rfl (cells_newL _ _ _) (by simp [Value.oneCell']) (by unfold maxLen; omega) (by omega) (by have := S9.e.size; simp; omega) ?_; intro v' w11 hown' hgrow hnil; obtain ⟨F4, m4, rfl⟩ := own_slice hown'; obtain ⟨hO, hP⟩ := S9.push hown' hgrow; obtain ⟨z0, z1⟩ := hO.c2; have fz := hO.frozen 1; have lz := hO.lt)
                      have hfl : Hid (flatL (fun i => (c.extY P g i).cells) (c.ny + k) ++ [.int .i64 K, .string (g k), .int .i64 1365, .int .i64 0] = flatL (fun i => (c.extY P g i).cells) (c.ny + (k + 1))) := by
                        unfold Hid
                        rw [show c.ny + (k + 1) = c.ny + k + 1 from rfl, flatL_succ, hnew.out]
                        unfold newYr lgOf
                        rw [hLK.out, HDQ.out]; rfl
                      exact ⟨⟨k + 1, by omega, by go_num, by rw [hps.out]; go_num, fun i hi => by
                        by_cases e : i = k
                        · subst e; exact hgk
                        · exact hgood.out i (by omega), _, by rw [← hfl.out]; exact hP⟩, by simp [intOf]; omega⟩
                    · obtain ⟨t0, t1, t2, t3⟩ := HBy.c4
                      have g2 := HBy.frozen 2
                      have lt := HBy.lt
                      have hor : bits BinOp.or IntKind.i64 1365 4096 = 5461 := by kernel_rfl
                      go_upto_region 18 with (fail)
                      obtain ⟨w10, h10⟩ : ∃ x, x = w9.setCell ⟨by_, 2, none⟩ (.int .i64 5461) := ⟨_, rfl⟩
                      rw [← h10]
                      have e10 : Ext w7 w10 := by rw [h10]; exact e9.setCell (p := ⟨by_, 2, none⟩) hle _
                      have HB10 : Held w10 by_ 110 #[.int .i64 K, .string (g k), .int .i64 5461, .int .i64 6] := by rw [h10]; exact held_third HBy _
                      clear h10 t0 t1 t2 t3 g2 lt
                      have S10 := S7.ext e10
                      obtain ⟨o0, o1⟩ := S10.o.c2
                      have lo := S10.o.lt
                      obtain ⟨t0, t1, t2, t3⟩ := HB10.c4
                      have lt := HB10.lt
                      go_wp2_with (at_builtin; refine wpList_append_own _ rfl _ _ 23 rfl v2.heap.size 110 i0 (.agg #[.int .i64 0, .string ⟨#[]⟩, .int .i64 0, .int .i64 0]) 4 40 Tryd.underlying23 hi hz0 hz1 hz2 rfl (by decide) _ _ _ rfl (S10.y.alloc _) ⟨w10.heap.size, 0, none⟩ 1 1 [.int .i64 K, .string (g k), .int .i64 5461, .int .i64 6] rfl rfl (cells_newL _ _ _) (by simp [Value.oneCell']) (by unfold maxLen; omega) (by omega) (by have := S10.e.size; simp; omega) ?_; intro v' w11 hown' hgrow hnil; obtain ⟨F4, m4, rfl⟩ := own_slice hown'; obtain ⟨hO, hP⟩ := S10.push hown' hgrow; obtain ⟨z0, z1⟩ := hO.c2; have fz := hO.frozen 1; have lz := hO.lt)
                      have hfl : Hid (flatL (fun i => (c.extY P g i).cells) (c.ny + k) ++ [.int .i64 K, .string (g k), .int .i64 5461, .int .i64 6] = flatL (fun i => (c.extY P g i).cells) (c.ny + (k + 1))) := by
                        unfold Hid
                        rw [show c.ny + (k + 1) = c.ny + k + 1 from rfl, flatL_succ, hnew.out]
                        unfold newYr lgOf
                        rw [hLK.out, HDQ.out]; rfl
                      exact ⟨⟨k + 1, by omega, by go_num, by rw [hps.out]; go_num, fun i hi => by
                        by_cases e : i = k
                        · subst e; exact hgk
                        · exact hgood.out i (by omega), _, by rw [← hfl.out]; exact hP⟩, by simp [intOf]; omega⟩
                    · obtain ⟨t0, t1, t2, t3⟩ := HBy.c4
                      have g2 := HBy.frozen 2
                      have lt := HBy.lt
                      have hor : bits BinOp.or IntKind.i64 1365 4096 = 5461 := by kernel_rfl
                      go_upto_region 18 with (fail)
                      obtain ⟨w10, h10⟩ : ∃ x, x = w9.setCell ⟨by_, 2, none⟩ (.int .i64 5461) := ⟨_, rfl⟩
                      rw [← h10]
                      have e10 : Ext w7 w10 := by rw [h10]; exact e9.setCell (p := ⟨by_, 2, none⟩) hle _
                      have HB10 : Held w10 by_ 110 #[.int .i64 K, .string (g k), .int .i64 5461, .int .i64 12] := by rw [h10]; exact held_third HBy _
                      clear h10 t0 t1 t2 t3 g2 lt
                      have S10 := S7.ext e10
                      obtain ⟨o0, o1⟩ := S10.o.c2
                      have lo := S10.o.lt
                      obtain ⟨t0, t1, t2, t3⟩ := HB10.c4
                      have lt := HB10.lt
                      go_wp2_with (at_builtin; refine wpList_append_own _ rfl _ _ 23 rfl v2.heap.size 110 i0 (.agg #[.int .i64 0, .string ⟨#[]⟩, .int .i64 0, .int .i64 0]) 4 40 Tryd.underlying23 hi hz0 hz1 hz2 rfl (by decide) _ _ _ rfl (S10.y.alloc _) ⟨w10.heap.size, 0, none⟩ 1 1 [.int .i64 K, .string (g k), .int .i64 5461, .int .i64 12] rfl rfl (cells_newL _ _ _) (by simp [Value.oneCell']) (by unfold maxLen; omega) (by omega) (by have := S10.e.size; simp; omega) ?_; intro v' w11 hown' hgrow hnil; obtain ⟨F4, m4, rfl⟩ := own_slice hown'; obtain ⟨hO, hP⟩ := S10.push hown' hgrow; obtain ⟨z0, z1⟩ := hO.c2; have fz := hO.frozen 1; have lz := hO.lt)
                      have hfl : Hid (flatL (fun i => (c.extY P g i).cells) (c.ny + k) ++ [.int .i64 K, .string (g k), .int .i64 5461, .int .i64 12] = flatL (fun i => (c.extY P g i).cells) (c.ny + (k + 1))) := by
                        unfold Hid
                        rw [show c.ny + (k + 1) = c.ny + k + 1 from rfl, flatL_succ, hnew.out]
                        unfold newYr lgOf
                        rw [hLK.out, HDQ.out]; rfl
                      exact ⟨⟨k + 1, by omega, by go_num, by rw [hps.out]; go_num, fun i hi => by
                        by_cases e : i = k
                        · subst e; exact hgk
                        · exact hgood.out i (by omega), _, by rw [← hfl.out]; exact hP⟩, by simp [intOf]; omega⟩
                · have HR3 : Hid (c.extE g n (P : Int) = 5) := by unfold Hid; rw [HR.out, extAll_no hlt (by rw [hEG.out]; rfl)]; rfl
                  go_wp2_with (first | (go_at_call 94; refine NIS.mono ?_; rintro e w' ⟨rfl, rfl⟩) | (go_at_call 95; (with_reducible refine Calls.mono NCF ?_); rintro e w7 ⟨rfl, h7⟩; have BZ := B2.ext (hSs.e.trans h7); have f0 := BZ.frozen 0; have f1 := BZ.frozen 1; obtain ⟨r0, r1⟩ := BZ.c2; have lr := BZ.lt))
                  have EZ := E.trans (hSs.e.trans h7)
                  have H2 := held_two BZ (.slice none 0 0) (.slice none 0 0)
                  obtain ⟨y0, y1⟩ := H2.c2
                  have E2 := (EZ.setCell (p := ⟨b1 + 1, 0, none⟩) (by have := hb1.out; show w.heap.size ≤ b1 + 1; omega) (.slice none 0 0)).setCell (p := ⟨b1 + 1, 1, none⟩) (by have := hb1.out; show w.heap.size ≤ b1 + 1; omega) (.slice none 0 0)
                  refine bodyPost_ret (v := .tuple #[.agg #[.slice none 0 0, .slice none 0 0], .int .i64 5]) (by simp [results, Tryd.results46, go_sem, y0, y1]) rfl ⟨none, none, 0, 0, by rw [HR3.out]; unfold Cal.extV; rw [HR3.out]; rfl, E2, by unfold Cal.extV; rw [HR3.out]; exact ⟨fun h => absurd h (by show ¬ 0 < 0; omega), fun h => absurd h (by show ¬ 0 < 0; omega), Nat.zero_le _, Nat.zero_le _, Nat.le_refl _, Nat.le_refl _⟩⟩
            · obtain rfl : k = n := by omega
              have hall := extAll_yes (c := c) (p := P) (g := g) (n := k) hgood.out
              have HR3 : Hid (c.extE g k (P : Int) = 0) := by unfold Hid; rw [HR.out, if_pos hall]
              have HV3 : Hid (c.extV g k (P : Int) = c.ext P g k) := by unfold Hid Cal.extV; rw [if_pos HR3.out]; rfl
              obtain ⟨F4, m4, rfl⟩ := own_slice hS.y
              obtain ⟨F5, m5, e5, hRK, a1, a2, a3, a4⟩ := flat_rows (f := strRow c.kg) (sz := 1) (fun _ => rfl) hS.k
              cases e5
              obtain ⟨F6, m6, e6, hRY, d1, d2, d3, d4⟩ := flat_rows (f := fun i => (c.extY P g i).cells) (sz := 4) (fun _ => rfl) hS.y
              cases e6
              have hb2 := B2.lt
              have BZ := B2.ext hS.e
              have EZ := E.trans hS.e
              have f0 := BZ.frozen 0
              have f1 := BZ.frozen 1
              obtain ⟨r0, r1⟩ := BZ.c2
              have lr := BZ.lt
              obtain ⟨o0, o1⟩ := hS.o.c2
              have lo := hS.o.lt
              go_wp2
              have H2 := held_two BZ (.slice F1 c.nk m1) (.slice F4 (c.ny + k) m4)
              obtain ⟨y0, y1⟩ := H2.c2
              have E2 := (EZ.setCell (p := ⟨b1 + 1, 0, none⟩) (by have := hb1.out; show w.heap.size ≤ b1 + 1; omega) (.slice F1 c.nk m1)).setCell (p := ⟨b1 + 1, 1, none⟩) (by have := hb1.out; show w.heap.size ≤ b1 + 1; omega) (.slice F4 (c.ny + k) m4)
              have hm63 : maxLen ≤ 9223372036854775807 := by decide
              refine bodyPost_ret (v := .tuple #[.agg #[.slice F1 c.nk m1, .slice F4 (c.ny + k) m4], .int .i64 0]) (by simp [results, Tryd.results46, go_sem, y0, y1]) rfl ⟨F1, F4, m1, m4, by rw [HR3.out, HV3.out]; rfl, E2, by
                rw [HV3.out]
                exact ⟨rows_set2 hRK (fun a h => by have := a4 a h; omega) 0 1 _ _, rows_set2 hRY (fun a h => by have := d4 a h; omega) 0 1 _ _, by show c.nk ≤ _; omega, by show c.ny + k ≤ _; omega, a1, d1⟩⟩
      · have HR : Hid (c.extE g n p = 3) := by unfold Hid Cal.extE; rw [if_pos hv, if_pos hp, if_neg hl]
        have p1 : decide (p < 1) = false := decide_eq_false (by omega)
        have p2 : decide (19 < p) = false := decide_eq_false (by omega)
        have hl2 : 38 < n ∨ (n ≤ 38 ∧ 400 < c.ny + n) := by omega
        clear hv ok hp
        rcases hl2 with l1 | ⟨l1, l2⟩
        · have l1b : decide (38 < (n : Int)) = true := decide_eq_true (by omega)
          go_enter Tryd.func46, Tryd.ntmps46
          go_upto_region 1 with (fail)
          obtain ⟨v, hv⟩ : ∃ v, v = ((w.alloc (.cells #[.slice A c.nk ca, .slice A' c.ny cb] 25)).alloc (.cells #[.slice none 0 0, .slice none 0 0] 25)) := ⟨_, rfl⟩
          rw [← hv]
          have E : Ext w v := by rw [hv]; exact ((Ext.refl _).alloc _).alloc _
          have B1 : Held v w.heap.size 25 #[.slice A c.nk ca, .slice A' c.ny cb] := by rw [hv]; exact (Held.new _ _ _).alloc _
          have B2 : Held v (w.heap.size + 1) 25 #[.slice none 0 0, .slice none 0 0] := by rw [hv]; exact Held.at _ _ _ _ (by simp)
          clear hv
          have C := hC.ext E
          clear hC
          generalize hb1 : w.heap.size = b1 at *
          replace hb1 := Lib.hid hb1
          obtain ⟨k0, k1⟩ := B1.c2; have lk := B1.lt
          obtain ⟨p0, p1⟩ := B2.c2; have lp := B2.lt
          go_upto_region 4 with (go_at_call 48; (with_reducible refine Calls.mono (NT _ C) ?_); rintro e v2 ⟨rfl, h⟩)
          replace E := Ext.trans E h
          replace C := C.ext h
          replace B1 := B1.ext h
          replace B2 := B2.ext h
          clear h
          clear k0 k1 lk
          clear p0 p1 lp
          obtain ⟨k0, k1⟩ := B1.c2; have lk := B1.lt
          obtain ⟨p0, p1⟩ := B2.c2; have lp := B2.lt
          have f0 := B2.frozen 0
          have f1 := B2.frozen 1
          go_wp2
          have H2 := held_two B2 (.slice none 0 0) (.slice none 0 0)
          obtain ⟨y0, y1⟩ := H2.c2
          have E2 := (E.setCell (p := ⟨b1 + 1, 0, none⟩) (by have := hb1.out; show w.heap.size ≤ b1 + 1; omega) (.slice none 0 0)).setCell (p := ⟨b1 + 1, 1, none⟩) (by have := hb1.out; show w.heap.size ≤ b1 + 1; omega) (.slice none 0 0)
          refine bodyPost_ret (v := .tuple #[.agg #[.slice none 0 0, .slice none 0 0], .int .i64 3]) (by simp [results, Tryd.results46, go_sem, y0, y1]) rfl ⟨none, none, 0, 0, by rw [HR.out]; unfold Cal.extV; rw [HR.out]; rfl, E2, by unfold Cal.extV; rw [HR.out]; exact ⟨fun h => absurd h (by show ¬ 0 < 0; omega), fun h => absurd h (by show ¬ 0 < 0; omega), Nat.zero_le _, Nat.zero_le _, Nat.le_refl _, Nat.le_refl _⟩⟩
        · have l1b : decide (38 < (n : Int)) = false := decide_eq_false (by omega)
          have l2b : decide (400 < (c.ny : Int) + (n : Int)) = true := decide_eq_true (by omega)
          go_enter Tryd.func46, Tryd.ntmps46
          go_upto_region 1 with (fail)
          obtain ⟨v, hv⟩ : ∃ v, v = ((w.alloc (.cells #[.slice A c.nk ca, .slice A' c.ny cb] 25)).alloc (.cells #[.slice none 0 0, .slice none 0 0] 25)) := ⟨_, rfl⟩
          rw [← hv]
          have E : Ext w v := by rw [hv]; exact ((Ext.refl _).alloc _).alloc _
          have B1 : Held v w.heap.size 25 #[.slice A c.nk ca, .slice A' c.ny cb] := by rw [hv]; exact (Held.new _ _ _).alloc _
          have B2 : Held v (w.heap.size + 1) 25 #[.slice none 0 0, .slice none 0 0] := by rw [hv]; exact Held.at _ _ _ _ (by simp)
          clear hv
          have C := hC.ext E
          clear hC
          generalize hb1 : w.heap.size = b1 at *
          replace hb1 := Lib.hid hb1
          obtain ⟨k0, k1⟩ := B1.c2; have lk := B1.lt
          obtain ⟨p0, p1⟩ := B2.c2; have lp := B2.lt
          go_upto_region 4 with (go_at_call 48; (with_reducible refine Calls.mono (NT _ C) ?_); rintro e v2 ⟨rfl, h⟩)
          replace E := Ext.trans E h
          replace C := C.ext h
          replace B1 := B1.ext h
          replace B2 := B2.ext h
          clear h
          clear k0 k1 lk
          clear p0 p1 lp
          obtain ⟨k0, k1⟩ := B1.c2; have lk := B1.lt
          obtain ⟨p0, p1⟩ := B2.c2; have lp := B2.lt
          have f0 := B2.frozen 0
          have f1 := B2.frozen 1
          go_wp2
          have H2 := held_two B2 (.slice none 0 0) (.slice none 0 0)
          obtain ⟨y0, y1⟩ := H2.c2
          have E2 := (E.setCell (p := ⟨b1 + 1, 0, none⟩) (by have := hb1.out; show w.heap.size ≤ b1 + 1; omega) (.slice none 0 0)).setCell (p := ⟨b1 + 1, 1, none⟩) (by have := hb1.out; show w.heap.size ≤ b1 + 1; omega) (.slice none 0 0)
          refine bodyPost_ret (v := .tuple #[.agg #[.slice none 0 0, .slice none 0 0], .int .i64 3]) (by simp [results, Tryd.results46, go_sem, y0, y1]) rfl ⟨none, none, 0, 0, by rw [HR.out]; unfold Cal.extV; rw [HR.out]; rfl, E2, by unfold Cal.extV; rw [HR.out]; exact ⟨fun h => absurd h (by show ¬ 0 < 0; omega), fun h => absurd h (by show ¬ 0 < 0; omega), Nat.zero_le _, Nat.zero_le _, Nat.le_refl _, Nat.le_refl _⟩⟩
    · have HR : Hid (c.extE g n p = 8) := by unfold Hid Cal.extE; rw [if_pos hv, if_neg hp]
      clear hv ok
      by_cases h1 : p < 1
      · have p1 : decide (p < 1) = true := decide_eq_true h1
        go_enter Tryd.func46, Tryd.ntmps46
        go_upto_region 1 with (fail)
        obtain ⟨v, hv⟩ : ∃ v, v = ((w.alloc (.cells #[.slice A c.nk ca, .slice A' c.ny cb] 25)).alloc (.cells #[.slice none 0 0, .slice none 0 0] 25)) := ⟨_, rfl⟩
        rw [← hv]
        have E : Ext w v := by rw [hv]; exact ((Ext.refl _).alloc _).alloc _
        have B1 : Held v w.heap.size 25 #[.slice A c.nk ca, .slice A' c.ny cb] := by rw [hv]; exact (Held.new _ _ _).alloc _
        have B2 : Held v (w.heap.size + 1) 25 #[.slice none 0 0, .slice none 0 0] := by rw [hv]; exact Held.at _ _ _ _ (by simp)
        clear hv
        have C := hC.ext E
        clear hC
        generalize hb1 : w.heap.size = b1 at *
        replace hb1 := Lib.hid hb1
        obtain ⟨k0, k1⟩ := B1.c2; have lk := B1.lt
        obtain ⟨p0, p1⟩ := B2.c2; have lp := B2.lt
        go_upto_region 4 with (go_at_call 48; (with_reducible refine Calls.mono (NT _ C) ?_); rintro e v2 ⟨rfl, h⟩)
        replace E := Ext.trans E h
        replace C := C.ext h
        replace B1 := B1.ext h
        replace B2 := B2.ext h
        clear h
        clear k0 k1 lk
        clear p0 p1 lp
        obtain ⟨k0, k1⟩ := B1.c2; have lk := B1.lt
        obtain ⟨p0, p1⟩ := B2.c2; have lp := B2.lt
        have f0 := B2.frozen 0
        have f1 := B2.frozen 1
        go_wp2
        have H2 := held_two B2 (.slice none 0 0) (.slice none 0 0)
        obtain ⟨y0, y1⟩ := H2.c2
        have E2 := (E.setCell (p := ⟨b1 + 1, 0, none⟩) (by have := hb1.out; show w.heap.size ≤ b1 + 1; omega) (.slice none 0 0)).setCell (p := ⟨b1 + 1, 1, none⟩) (by have := hb1.out; show w.heap.size ≤ b1 + 1; omega) (.slice none 0 0)
        refine bodyPost_ret (v := .tuple #[.agg #[.slice none 0 0, .slice none 0 0], .int .i64 8]) (by simp [results, Tryd.results46, go_sem, y0, y1]) rfl ⟨none, none, 0, 0, by rw [HR.out]; unfold Cal.extV; rw [HR.out]; rfl, E2, by unfold Cal.extV; rw [HR.out]; exact ⟨fun h => absurd h (by show ¬ 0 < 0; omega), fun h => absurd h (by show ¬ 0 < 0; omega), Nat.zero_le _, Nat.zero_le _, Nat.le_refl _, Nat.le_refl _⟩⟩
      · have p1 : decide (p < 1) = false := decide_eq_false h1
        have p2 : decide (19 < p) = true := decide_eq_true (by omega)
        go_enter Tryd.func46, Tryd.ntmps46
        go_upto_region 1 with (fail)
        obtain ⟨v, hv⟩ : ∃ v, v = ((w.alloc (.cells #[.slice A c.nk ca, .slice A' c.ny cb] 25)).alloc (.cells #[.slice none 0 0, .slice none 0 0] 25)) := ⟨_, rfl⟩
        rw [← hv]
        have E : Ext w v := by rw [hv]; exact ((Ext.refl _).alloc _).alloc _
        have B1 : Held v w.heap.size 25 #[.slice A c.nk ca, .slice A' c.ny cb] := by rw [hv]; exact (Held.new _ _ _).alloc _
        have B2 : Held v (w.heap.size + 1) 25 #[.slice none 0 0, .slice none 0 0] := by rw [hv]; exact Held.at _ _ _ _ (by simp)
        clear hv
        have C := hC.ext E
        clear hC
        generalize hb1 : w.heap.size = b1 at *
        replace hb1 := Lib.hid hb1
        obtain ⟨k0, k1⟩ := B1.c2; have lk := B1.lt
        obtain ⟨p0, p1⟩ := B2.c2; have lp := B2.lt
        go_upto_region 4 with (go_at_call 48; (with_reducible refine Calls.mono (NT _ C) ?_); rintro e v2 ⟨rfl, h⟩)
        replace E := Ext.trans E h
        replace C := C.ext h
        replace B1 := B1.ext h
        replace B2 := B2.ext h
        clear h
        clear k0 k1 lk
        clear p0 p1 lp
        obtain ⟨k0, k1⟩ := B1.c2; have lk := B1.lt
        obtain ⟨p0, p1⟩ := B2.c2; have lp := B2.lt
        have f0 := B2.frozen 0
        have f1 := B2.frozen 1
        go_wp2
        have H2 := held_two B2 (.slice none 0 0) (.slice none 0 0)
        obtain ⟨y0, y1⟩ := H2.c2
        have E2 := (E.setCell (p := ⟨b1 + 1, 0, none⟩) (by have := hb1.out; show w.heap.size ≤ b1 + 1; omega) (.slice none 0 0)).setCell (p := ⟨b1 + 1, 1, none⟩) (by have := hb1.out; show w.heap.size ≤ b1 + 1; omega) (.slice none 0 0)
        refine bodyPost_ret (v := .tuple #[.agg #[.slice none 0 0, .slice none 0 0], .int .i64 8]) (by simp [results, Tryd.results46, go_sem, y0, y1]) rfl ⟨none, none, 0, 0, by rw [HR.out]; unfold Cal.extV; rw [HR.out]; rfl, E2, by unfold Cal.extV; rw [HR.out]; exact ⟨fun h => absurd h (by show ¬ 0 < 0; omega), fun h => absurd h (by show ¬ 0 < 0; omega), Nat.zero_le _, Nat.zero_le _, Nat.le_refl _, Nat.le_refl _⟩⟩
end Go.Proofs.YthmjpbafbohelaaDoor

namespace Go.Proofs.YthmjpbafbohelaaDoor
open Go Go.RowKit

def u1 : ByteArray := ⟨#[51, 49, 47, 49, 47, 45]⟩
def u2 : ByteArray := ⟨#[45, 47, 54, 98, 47, 119, 97, 108, 108]⟩
def u3 : ByteArray := ⟨#[45, 47, 45, 47, 43, 119, 97, 108, 108]⟩
def u4 : ByteArray := ⟨#[51, 48, 47, 45, 47, 99, 97, 110, 97, 108]⟩
def nmAB : Nat → ByteArray
  | 0 => ⟨#[97]⟩
  | _ => ⟨#[98]⟩
def badYr : Nat → Yr
  | 0 => ⟨0, sWall, 4095, 0⟩
  | 1 => ⟨0, sCanal, 4096, 0⟩
  | _ => ⟨1, sWall, 4095, 0⟩
def badCal : Cal := ⟨2, exKg, 3, badYr⟩
theorem ke_d0 : exCal.daysR 0 = (360, 0) := by kernel_rfl
theorem ke_d1 : exCal.daysR 1 = (377, 0) := by kernel_rfl
theorem ke_l1 : exCal.lenR 1 6 true = (29, 0) := by kernel_rfl
theorem ke_l0 : exCal.lenR 0 6 true = (0, 4) := by kernel_rfl
theorem ke_a1 : exCal.atV 361 = ⟨1, 1, false, 1⟩ := by kernel_rfl
theorem ke_a1e : exCal.atE 361 = 0 := by kernel_rfl
theorem ke_a0e : exCal.atE 0 = 8 := by kernel_rfl
theorem ke_a0 : exCal.atV 0 = ⟨0, 0, false, 0⟩ := by kernel_rfl
theorem ke_r1 : exCal.reignS 1 = sUr := by kernel_rfl
theorem ke_r1n : exCal.reignN 1 = 2 := by kernel_rfl
theorem ke_r1e : exCal.yearE 1 = 0 := by kernel_rfl
theorem ke_r2 : exCal.reignS 2 = sSi := by kernel_rfl
theorem ke_r2n : exCal.reignN 2 = 1 := by kernel_rfl
theorem ke_r2e : exCal.yearE 2 = 0 := by kernel_rfl
theorem ke_y : exCal.yofV sUr 3 = 0 := by kernel_rfl
theorem ke_ye : exCal.yofE sUr 3 = 4 := by kernel_rfl
theorem ke_n0 : exCal.namedV sWall noS = [0, 2] := by kernel_rfl
theorem ke_n1 : exCal.namedV sWall sSi = [2] := by kernel_rfl
theorem ke_p1 : parseS u1 = none := by kernel_rfl
theorem ke_p2 : parseS u2 = some ⟨0, false, 6, true, sWall, 0, noS⟩ := by kernel_rfl
theorem ke_p3 : parseS u3 = some ⟨0, false, 0, false, sWall, 1, noS⟩ := by kernel_rfl
theorem ke_p4 : parseS u4 = some ⟨30, false, 0, false, sCanal, 0, noS⟩ := by kernel_rfl
theorem ke_s3 : exCal.spV ⟨0, false, 0, false, sWall, 1, noS⟩ = [⟨361, 737⟩] := by kernel_rfl
theorem ke_s3e : exCal.spE ⟨0, false, 0, false, sWall, 1, noS⟩ = 0 := by kernel_rfl
theorem ke_s4 : exCal.spV ⟨30, false, 0, false, sCanal, 0, noS⟩ = [] := by kernel_rfl
theorem ke_s4e : exCal.spE ⟨30, false, 0, false, sCanal, 0, noS⟩ = 0 := by kernel_rfl
theorem ke_x : exCal.extE nmAB 2 17 = 0 := by kernel_rfl
theorem ke_xn : (exCal.extV nmAB 2 17).ny = 5 := by kernel_rfl
theorem ke_x3 : ((exCal.extV nmAB 2 17).yr 3).db = 6 := by kernel_rfl
theorem ke_x4 : ((exCal.extV nmAB 2 17).yr 4).db = 0 := by kernel_rfl
theorem ke_x3l : ((exCal.extV nmAB 2 17).yr 3).lg = 5461 := by kernel_rfl
theorem ke_x4l : ((exCal.extV nmAB 2 17).yr 4).lg = 1365 := by kernel_rfl
theorem ke_xa : exCal.extE (fun _ => sWall) 1 1 = 5 := by kernel_rfl
theorem ke_xb : exCal.extE (fun _ => sCanal) 1 20 = 8 := by kernel_rfl
theorem ke_xc : exCal.extE (fun _ => noS) 39 1 = 3 := by kernel_rfl
theorem ke_b : badCal.daysR 0 = (0, 70) := by kernel_rfl
theorem ke_se : exCal.serE (fun _ => zTr) 65 = 3 := by kernel_rfl
end Go.Proofs.YthmjpbafbohelaaDoor

