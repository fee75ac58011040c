/- Walks of the program's functions and plain facts, packed; proved: the lemmas below; no conditions but those that each states. -/
import Derived.Test.YthmjpbafbohelaaDoorK2
import Derived.RangeFuncBox
import Derived.Laws.OwnMore
import Derived.Deep.Onto
import Derived.Test.YthmjpbafbohelaaDoorK1
import Derived.Deep.OwnRows
import Derived.Laws.MakeOwn
namespace Go.Proofs.YthmjpbafbohelaaDoor
open Go Go.RowKit Go.Shelf
attribute [local go_sem] Oper.semAt_some gv_yes

/-- The days of the months of year y among some months. -/
def sumY (c : Cal) (y : Int) : List It → Int
  | [] => 0
  | x :: l => (if (x.y : Int) = y then x.len c else 0) + sumY c y l
theorem sumY_append (c : Cal) (y : Int) : ∀ l l' : List It, sumY c y (l ++ l') = sumY c y l + sumY c y l'
  | [], l' => by simp [sumY]
  | x :: l, l' => by rw [List.cons_append, sumY, sumY, sumY_append c y l l']; omega
theorem sumY_snoc (c : Cal) (y : Int) (l : List It) (x : It) : sumY c y (l ++ [x]) = sumY c y l + (if (x.y : Int) = y then x.len c else 0) := by rw [sumY_append]; simp [sumY]
theorem sumY_runs (c : Cal) (i : Nat) : ∀ (l : List (Int × Bool)) (d : Int), sumY c i (runs i (c.yr i) d l) = (c.yr i).lens l
  | [], _ => rfl
  | p :: l, d => by rw [runs, sumY, sumY_runs c i l, Yr.lens, if_pos rfl]; rfl
theorem sumY_runs' (c : Cal) {i : Nat} {y : Int} (h : (i : Int) ≠ y) : ∀ (l : List (Int × Bool)) (d : Int), sumY c y (runs i (c.yr i) d l) = 0
  | [], _ => rfl
  | p :: l, d => by rw [runs, sumY, sumY_runs' c h l, if_neg h]; rfl
theorem sumY_to (c : Cal) (y : Nat) : ∀ k : Nat, sumY c y (c.itemsTo k) = if y < k then (c.yr y).days else 0
  | 0 => by simp [Cal.itemsTo, sumY]
  | k + 1 => by
    rw [Cal.itemsTo, sumY_append, sumY_to c y k]
    by_cases h : k = y
    · subst h; rw [sumY_runs, if_neg (by omega), if_pos (by omega)]; simp [Yr.days]
    · rw [sumY_runs' c (by omega)]
      by_cases h2 : y < k
      · rw [if_pos h2, if_pos (by omega)]; simp
      · rw [if_neg h2, if_neg (by omega)]; simp
theorem sumY_items {c : Cal} {y : Int} (h0 : 0 ≤ y) (h1 : y < c.ny) : sumY c y c.items = (c.yrI y).days := by
  have := sumY_to c y.toNat c.ny
  rw [if_pos (by omega), show ((y.toNat : Nat) : Int) = y by omega] at this
  exact this
theorem sumY_bd (c : Cal) (y : Int) : ∀ l : List It, 0 ≤ sumY c y l ∧ sumY c y l ≤ 30 * (l.length : Int)
  | [] => by simp [sumY]
  | x :: l => by
    have := sumY_bd c y l
    have h := len_29 (c.yr x.y) x.n x.s
    rw [sumY, List.length_cons]
    unfold It.len
    split <;> omega
def Cal.daysR (c : Cal) (y : Int) : Int × Int := if c.valid then (if 0 ≤ y ∧ y < c.ny then ((c.yrI y).days, 0) else (0, 8)) else (0, 70)
theorem valid_ny {c : Cal} (h : c.valid = true) : c.ny ≤ 400 := by
  simp only [Cal.valid, Bool.and_eq_true, decide_eq_true_eq] at h
  exact h.1.2
set_option maxRecDepth 100000 in
set_option maxHeartbeats 4000000 in
theorem daysX_any (A A' : Option Addr) (ca cb : Nat) (c : Cal) (y : Int) (w : World) (hC : CalAt w A ca A' cb c) :
    Calls Tryd.prog 37 #[.agg #[.slice A c.nk ca, .slice A' c.ny cb], .int .i64 y] w fun e w' => e = .returned (.tuple #[.int .i64 (c.daysR y).1, .int .i64 (c.daysR y).2]) ∧ Ext w w' := by
  have hny := hC.ny_le
  refine callsIn_wide.1 (callsIn_of_wp_marks (F := Fence.wide) (n := 9) Tryd.func37 rfl trivial (wpIn_wide.2 ?_) rfl)
  simp only [Tryd.ntmps37, List.size_toArray, List.length_cons, List.length_nil, Nat.reduceAdd, Nat.reduceSub, Array.replicate_succ, Array.replicate_zero, List.push_toArray, List.append_toArray, List.nil_append, List.cons_append]
  go_upto_region 1 with (fail)
  refine wp_region_xl w (by repeat (first | exact Ext.refl _ | (refine Ext.alloc ?_ _) | (refine Ext.trans ?_ (by assumption)))) ?_
  intro hne hrx hry
  try simp only []
  try simp only [List.append_eq, List.cons_append, List.nil_append]
  have hrx0 := fun u o => hrx u (w.heap.size) o (by first | omega | (simp; done) | (simp; omega))
  have hrx1 := fun u o => hrx u (w.heap.size + 1) o (by first | omega | (simp; done) | (simp; omega))
  skip
  repeat (first
    | go_big_quiet_skip
    | ((with_reducible apply q_and)
       · exact rfl
       · exact rfl
       · exact rfl
       intro K hK
       unfold Then; go_big_quiet_op; (with_reducible refine hK _ ?_); clear hK K)
    | ((with_reducible apply q_or)
       · exact rfl
       · exact rfl
       · exact rfl
       intro K hK
       unfold Then; go_big_quiet_op; (with_reducible refine hK _ ?_); clear hK K)
    | (go_big_quiet_want; go_big_quiet_op; go_big_quiet_on)
    | (go_big_quiet_want; go_big_quiet_op; apply Exists.intro; refine ⟨fun u => ?_, ?_⟩
       · first
           | (go_at_call 48; refine (checks_any _ _ _ _ c none 0 0 (fun _ => ⟨0, 0, false, 0⟩) _ (hC.ext (Ext.trans (by repeat (first | exact Ext.refl _ | (refine Ext.alloc ?_ _) | (refine Ext.trans ?_ (by assumption)))) u.e)) (rows_none _ _ _) (by omega)).mono ?_; rintro e w' ⟨rfl, hb⟩; exact ⟨rfl, u.back hb⟩)
       go_big_quiet_on)
    | ((with_reducible apply q_and_g)
       · first | exact wanted_pt rfl rfl rfl | exact wanted_pf rfl rfl rfl | exact wanted_gt rfl rfl rfl | exact wanted_gf rfl rfl rfl
       · exact rfl
       · exact rfl
       · exact rfl
       intro K hK
       unfold Then; go_big_quiet_op; (with_reducible refine hK _ ?_); clear hK K)
    | ((with_reducible apply q_or_g)
       · first | exact wanted_pt rfl rfl rfl | exact wanted_pf rfl rfl rfl | exact wanted_gt rfl rfl rfl | exact wanted_gf rfl rfl rfl
       · exact rfl
       · exact rfl
       · exact rfl
       intro K hK
       unfold Then; go_big_quiet_op; (with_reducible refine hK _ ?_); clear hK K)
    | ((with_reducible apply q_sym)
       · first | exact wanted_pt rfl rfl rfl | exact wanted_pf rfl rfl rfl | exact wanted_gt rfl rfl rfl | exact wanted_gf rfl rfl rfl
       apply Exists.intro
       refine And.intro (fun hgb => ?_) ?_
       · intro u
         try simp at hgb
         go_simp
         try simp only [if_pos hsl]
         try simp only [if_pos (hin (by omega))]
         try (simp only [hd0 (by omega)]; go_simp)
         try (rw [hlook _ (Ext.trans (by repeat (first | exact Ext.refl _ | (refine Ext.alloc ?_ _) | (refine Ext.trans ?_ (by assumption)))) u.e) (hlk0 hgb)]; go_simp)
         first
           | (with_reducible exact rfl)
           | (go_at_call 48; refine (checks_any _ _ _ _ c none 0 0 (fun _ => ⟨0, 0, false, 0⟩) _ (hC.ext (Ext.trans (by repeat (first | exact Ext.refl _ | (refine Ext.alloc ?_ _) | (refine Ext.trans ?_ (by assumption)))) u.e)) (rows_none _ _ _) (by omega)).mono ?_; rintro e w' ⟨rfl, hb⟩; exact ⟨rfl, u.back hb⟩)
       intro K hK
       unfold Then; go_big_quiet_op; (with_reducible refine hK _ ?_); clear hK K))
  clear hne hry hrx hrx0 hrx1
  refine wpQuiet_nil ?_
  intro wq hq
  obtain ⟨hcwq, hfwq, hzwq⟩ := Ext.rules hq
  try simp only [World.size_alloc] at hzwq
  have hk0wq := fun o => hcwq (w.heap.size) o (by first | omega | (simp; done) | (simp; omega))
  have hj0wq := fun o => hfwq (w.heap.size) o (by first | omega | (simp; done) | (simp; omega))
  have hl0wq : w.heap.size < wq.heap.size := (by first | omega | (simp; done) | (simp; omega))
  have hk1wq := fun o => hcwq (w.heap.size + 1) o (by first | omega | (simp; done) | (simp; omega))
  have hj1wq := fun o => hfwq (w.heap.size + 1) o (by first | omega | (simp; done) | (simp; omega))
  have hl1wq : w.heap.size + 1 < wq.heap.size := (by first | omega | (simp; done) | (simp; omega))
  obtain ⟨hcbwq, hfbwq, hzbwq⟩ := Ext.rules (show Ext w wq from (by repeat (first | exact Ext.refl _ | (refine Ext.alloc ?_ _) | (refine Ext.trans ?_ (by assumption)))))
  clear hcwq hfwq
  simp only [checks_none]
  cases hv : c.valid
  · rw [chk_no hv]
    go_wp2
    exact ret_none (v := .tuple #[.int .i64 0, .int .i64 70]) (by simp [results, Tryd.results37, go_sem]) ⟨by simp [Cal.daysR, hv], (by repeat (first | exact Ext.refl _ | (refine Ext.alloc ?_ _) | (refine Ext.trans ?_ (by assumption))))⟩
  · rw [chk_yes hv]
    go_upto_region 4 with (fail)
    refine wp_region_xl w (by repeat (first | exact Ext.refl _ | (refine Ext.alloc ?_ _) | (refine Ext.trans ?_ (by assumption)))) ?_
    intro hne hrx hry
    try simp only []
    try simp only [List.append_eq, List.cons_append, List.nil_append]
    have hrx0 := fun u o => hrx u (w.heap.size) o (by first | omega | (simp; done) | (simp; omega))
    have hrx1 := fun u o => hrx u (w.heap.size + 1) o (by first | omega | (simp; done) | (simp; omega))
    skip
    repeat (first
      | go_big_quiet_skip
      | ((with_reducible apply q_and)
         · exact rfl
         · exact rfl
         · exact rfl
         intro K hK
         unfold Then; go_big_quiet_op; (with_reducible refine hK _ ?_); clear hK K)
      | ((with_reducible apply q_or)
         · exact rfl
         · exact rfl
         · exact rfl
         intro K hK
         unfold Then; go_big_quiet_op; (with_reducible refine hK _ ?_); clear hK K)
      | (go_big_quiet_want; go_big_quiet_op; go_big_quiet_on)
      | (go_big_quiet_want; go_big_quiet_op; apply Exists.intro; refine ⟨fun u => ?_, ?_⟩
         · first
             | (go_at_call 87; refine (hasYear_any _ _ _ _ c y _ hny).mono ?_; rintro e w' ⟨rfl, hb⟩; exact ⟨rfl, u.back hb⟩)
         go_big_quiet_on)
      | ((with_reducible apply q_and_g)
         · first | exact wanted_pt rfl rfl rfl | exact wanted_pf rfl rfl rfl | exact wanted_gt rfl rfl rfl | exact wanted_gf rfl rfl rfl
         · exact rfl
         · exact rfl
         · exact rfl
         intro K hK
         unfold Then; go_big_quiet_op; (with_reducible refine hK _ ?_); clear hK K)
      | ((with_reducible apply q_or_g)
         · first | exact wanted_pt rfl rfl rfl | exact wanted_pf rfl rfl rfl | exact wanted_gt rfl rfl rfl | exact wanted_gf rfl rfl rfl
         · exact rfl
         · exact rfl
         · exact rfl
         intro K hK
         unfold Then; go_big_quiet_op; (with_reducible refine hK _ ?_); clear hK K)
      | ((with_reducible apply q_sym)
         · first | exact wanted_pt rfl rfl rfl | exact wanted_pf rfl rfl rfl | exact wanted_gt rfl rfl rfl | exact wanted_gf rfl rfl rfl
         apply Exists.intro
         refine And.intro (fun hgb => ?_) ?_
         · intro u
           try simp at hgb
           go_simp
           try simp only [if_pos hsl]
           try simp only [if_pos (hin (by omega))]
           try (simp only [hd0 (by omega)]; go_simp)
           try (rw [hlook _ (Ext.trans (by repeat (first | exact Ext.refl _ | (refine Ext.alloc ?_ _) | (refine Ext.trans ?_ (by assumption)))) u.e) (hlk0 hgb)]; go_simp)
           first
             | (with_reducible exact rfl)
             | (go_at_call 87; refine (hasYear_any _ _ _ _ c y _ hny).mono ?_; rintro e w' ⟨rfl, hb⟩; exact ⟨rfl, u.back hb⟩)
         intro K hK
         unfold Then; go_big_quiet_op; (with_reducible refine hK _ ?_); clear hK K))
    clear hne hry hrx hrx0 hrx1
    refine wpQuiet_nil ?_
    intro wn hwn
    obtain ⟨hcwn, hfwn, hzwn⟩ := Ext.rules hwn
    try simp only [World.size_alloc] at hzwn
    have hk0wn := fun o => hcwn (w.heap.size) o (by first | omega | (simp; done) | (simp; omega))
    have hj0wn := fun o => hfwn (w.heap.size) o (by first | omega | (simp; done) | (simp; omega))
    have hl0wn : w.heap.size < wn.heap.size := (by first | omega | (simp; done) | (simp; omega))
    have hk1wn := fun o => hcwn (w.heap.size + 1) o (by first | omega | (simp; done) | (simp; omega))
    have hj1wn := fun o => hfwn (w.heap.size + 1) o (by first | omega | (simp; done) | (simp; omega))
    have hl1wn : w.heap.size + 1 < wn.heap.size := (by first | omega | (simp; done) | (simp; omega))
    obtain ⟨hcbwn, hfbwn, hzbwn⟩ := Ext.rules (show Ext w wn from (by repeat (first | exact Ext.refl _ | (refine Ext.alloc ?_ _) | (refine Ext.trans ?_ (by assumption)))))
    clear hcwn hfwn
    by_cases hy : 0 ≤ y ∧ y < c.ny
    · simp only [decide_eq_true hy.1, decide_eq_true hy.2, decide_eq_true hy, Bool.not_true, Bool.or_false]
      have hcb : Held wn w.heap.size 25 #[.slice A c.nk ca, .slice A' c.ny cb] := Held.ext (W := (w.alloc (.cells #[.slice A c.nk ca, .slice A' c.ny cb] 25)).alloc (.cells #[.int .i64 y] 3)) (by repeat (first | (refine Held.at _ _ _ _ ?_; (simp; done)) | refine Held.alloc ?_ _)) (by repeat (first | exact Ext.refl _ | (refine Ext.alloc ?_ _) | (refine Ext.trans ?_ (by assumption))))
      have hyb : Held wn (w.heap.size + 1) 3 #[.int .i64 y] := Held.ext (W := (w.alloc (.cells #[.slice A c.nk ca, .slice A' c.ny cb] 25)).alloc (.cells #[.int .i64 y] 3)) (by repeat (first | (refine Held.at _ _ _ _ ?_; (simp; done)) | refine Held.alloc ?_ _)) (by repeat (first | exact Ext.refl _ | (refine Ext.alloc ?_ _) | (refine Ext.trans ?_ (by assumption))))
      have hEn : Ext w wn := (by repeat (first | exact Ext.refl _ | (refine Ext.alloc ?_ _) | (refine Ext.trans ?_ (by assumption))))
      have hCn := hC.ext hEn
      obtain ⟨k0, k1⟩ := hcb.c2
      go_wp2_with (go_at_call 88; refine (months_any _ _ _ _ c _).mono ?_; rintro e w' ⟨rfl, rfl⟩)
      generalize hW5 : World.alloc _ _ = W5
      have hE5 : Ext wn W5 := by rw [← hW5]; exact (by repeat (first | exact Ext.refl _ | (refine Ext.alloc ?_ _) | (refine Ext.trans ?_ (by assumption))))
      have hs5 : W5.heap.size = wn.heap.size + 1 + 1 := by rw [← hW5]; simp
      have b7 : Boxed W5 wn.heap.size 3 (.int .i64 0) := by rw [← hW5]; exact Held.boxed (by repeat (first | (refine Held.at _ _ _ _ ?_; (simp; done)) | refine Held.alloc ?_ _))
      have hB : W5.cell? ⟨wn.heap.size + 1, 1, none⟩ = some (.slice A' c.ny cb) := by rw [← hW5]; exact (Held.cell (t := 25) (cs := #[.slice A c.nk ca, .slice A' c.ny cb]) (by repeat (first | (refine Held.at _ _ _ _ ?_; (simp; done)) | refine Held.alloc ?_ _)) 1)
      have hlg := valid_lg hv
      have hn4 := valid_ny hv
      clear hW5 k0 k1 hzwq hk0wq hj0wq hk1wq hj1wq hcbwq hfbwq hzbwq hk0wn hj0wn hk1wn hj1wn hcbwn hfbwn
      generalize hs : w.heap.size = s at *
      generalize hL : wn.heap.size = L at *
      refine loop_months (A := A) (A' := A') (ca := ca) (cb := cb) (c := c) (B := L + 1) wn W5 rfl rfl hCn hlg hn4 hE5 hB (by omega)
        (fun pre W => Ext wn W ∧ Boxed W L 3 (.int .i64 (sumY c y (Mo.its pre))))
        (fun _ _ _ => False) (OwnFrom.and (ownFrom_ext (by omega)) (ownFrom_box _ _ _ _)) (fun _ _ _ _ _ h _ _ => h) ⟨hE5, b7⟩
        (AxM (L + 1) (fun m Bx => #[.agg #[.slice A c.nk ca, .slice A' c.ny cb], .int .i64 y, .pointer (some ⟨s, 0, none⟩), .pointer (some ⟨s + 1, 0, none⟩), .int .i64 0, .int .i64 0, .int .i64 0, .pointer (some ⟨L, 0, none⟩), .pointer (some ⟨Bx, 0, none⟩), .agg #[.slice A c.nk ca, .slice A' c.ny cb], .int .i64 0, .int .i64 0, .bool false, undef,
          .agg #[.slice A c.nk ca, .slice A' c.ny cb], .int .i64 y, .bool true, .bool false, .agg #[.slice A c.nk ca, .slice A' c.ny cb], .func (.func 118) #[] #[.pointer (some ⟨L + 1, 0, none⟩)], .agg #[.int .i64 (m.y : Int), .int .i64 m.n, .bool m.s], .int .i64 m.first, undef, undef, undef, undef, undef, undef, undef, undef, undef, undef])) axM_own ?assign ?body ?done ?stop
      case assign =>
        intro l pre x W K hi hK
        simp only [Mo.enc]
        gi_wp2
        exact hK _ _ (keepsFrom_ext ((Ext.refl W).alloc _)) (KpY.of_ext ((Ext.refl W).alloc _) hi.1.size) ⟨hi.1.alloc _, hi.2.alloc _⟩ ⟨W.heap.size, hi.2.lt, Held.new _ _ _, rfl⟩
      case body =>
        rintro l pre x a' W hl ⟨hE, b7⟩ ⟨Bx, hBx, hm, rfl⟩ hlt
        have hxok := x.2
        have hxy := hxok.y
        have hxn := hxok.n1
        have hxn2 := hxok.n12
        have hCW := hCn.ext hE
        have hlx := hlg _ hxy
        clear hxok
        obtain ⟨m0, m1, m2⟩ := hm.c3
        have e0 := (hyb.ext hE).c1
        obtain ⟨k0, k1⟩ := (hcb.ext hE).c2
        have hl1 := hm.lt
        have hl2 := (hyb.ext hE).lt
        have hl3 := (hcb.ext hE).lt
        have hl4 := b7.lt
        have w7 := b7.cell
        have HS : Hid (sumY c y (Mo.its (pre ++ [x])) = _) := (congrArg (sumY c y) (its_snoc pre x)).trans (sumY_snoc c y _ x.1)
        have hb1 := sumY_bd c y (Mo.its pre)
        rw [its_length] at hb1
        generalize sumY c y (Mo.its pre) = S at *
        have hb2 := len_29 (c.yr x.1.y) x.1.n x.1.s
        have HL : Hid (x.1.len c = (c.yr x.1.y).len x.1.n x.1.s) := rfl
        have hsum : IntKind.i64.wrap (S + (c.yr x.1.y).len x.1.n x.1.s) = S + (c.yr x.1.y).len x.1.n x.1.s := by rw [IntKind.wrap_i64]; omega
        by_cases hxe : (x.1.y : Int) = y
        · have HX := Lib.hid hxe
          have hxb : ((x.1.y : Int) == y) = true := beq_iff_eq.2 hxe
          clear hxe
          gi_upto_region 10 with (fail)
          refine wpIn_region_xs 5 W mixed (by kernel_rfl) (by kernel_rfl) (by repeat (first | exact Ext.refl _ | (refine Ext.alloc ?_ _) | (refine Ext.trans ?_ (by assumption)))) ?_
          intro hne hrx hry
          try simp only []
          try simp only [List.append_eq, List.cons_append, List.nil_append]
          simp only [List.take_succ_cons, List.take_zero, List.drop_succ_cons, List.drop_zero]
          skip
          repeat (first
            | go_big_quiet_skip
            | (go_big_quiet_want; go_big_quiet_op; go_big_quiet_on)
            | (go_big_quiet_want; go_big_quiet_op; apply Exists.intro; refine ⟨fun u => ?_, ?_⟩
               · first
                   | (go_at_call 89; refine (of_any _ _ _ _ c x.1.y _ _ _ (hCW.ext (Ext.trans (by repeat (first | exact Ext.refl _ | (refine Ext.alloc ?_ _) | (refine Ext.trans ?_ (by assumption)))) u.e)) hxy hxn hxn2 hlx.1 hlx.2).mono ?_; rintro e w' ⟨rfl, hb⟩; exact ⟨rfl, u.back hb⟩)
               go_big_quiet_on))
          clear hne hry hrx
          refine wpQuiet_nil ?_
          intro wz hz
          obtain ⟨hcwz, hfwz, hzwz⟩ := Ext.rules hz
          try simp only [World.size_alloc] at hzwz
          obtain ⟨hcbwz, hfbwz, hzbwz⟩ := Ext.rules (show Ext W wz from (by repeat (first | exact Ext.refl _ | (refine Ext.alloc ?_ _) | (refine Ext.trans ?_ (by assumption)))))
          clear hcwz hfwz
          have b7z := boxed_ext b7 hz
          have w7z := b7z.cell
          have f7z := b7z.frozen
          clear hcbwz hfbwz
          gi_wp2
          exact ⟨(keepsFrom_ext hz).trans ((KeepsOthers.setCell _ _ _).from _), (KpY.of_ext hz (by have := hE.size; omega)).trans (KpY.box b7z (by decide) (by omega) _), (hE.trans hz).setCell (p := ⟨L, 0, none⟩) (show wn.heap.size ≤ L by omega) _, by rw [HS.out, if_pos HX.out, HL.out]; exact b7z.set _⟩
        · have HX := Lib.hid hxe
          have hxb : ((x.1.y : Int) == y) = false := beq_eq_false_iff_ne.2 hxe
          clear hxe
          gi_wp2
          exact ⟨KeepsFrom.refl _ _, KpY.refl _ _, hE, by rw [HS.out, if_neg HX.out, Int.add_zero]; exact b7⟩
      case done =>
        rintro D xs W hD hxs ⟨hE, b7⟩ hK
        rw [hxs, sumY_items hy.1 hy.2] at b7
        have w7 := b7.cell
        go_wp2
        exact ret_mark hK (v := .tuple #[.int .i64 (c.yrI y).days, .int .i64 0]) (by simp [results, Tryd.results37, go_sem]) ⟨by simp [Cal.daysR, hv, hy], hEn.trans (hE.putObj (by omega) _)⟩
      case stop =>
        rintro D c' pre W _ _ h _
        exact h.elim
    · have hy' : (!decide (0 ≤ y) || !decide (y < (c.ny : Int))) = true := by simp; omega
      try simp only [hy', decide_eq_false hy]
      go_wp2
      exact ret_none (v := .tuple #[.int .i64 0, .int .i64 8]) (by simp [results, Tryd.results37, go_sem]) ⟨by simp [Cal.daysR, hv, hy], (by repeat (first | exact Ext.refl _ | (refine Ext.alloc ?_ _) | (refine Ext.trans ?_ (by assumption))))⟩
end Go.Proofs.YthmjpbafbohelaaDoor

namespace Go.Proofs.YthmjpbafbohelaaDoor
open Go Go.RowKit Go.Shelf
attribute [local go_sem] Oper.semAt_some gv_yes

def spc (l : List Sp) : List Value := l.flatMap Sp.cells
theorem spc_append (l l' : List Sp) : spc (l ++ l') = spc l ++ spc l' := by simp [spc]
theorem spc_length : ∀ l : List Sp, (spc l).length = l.length * 2
  | [] => rfl
  | x :: l => by
    have := spc_length l
    show ((Sp.cells x) ++ spc l).length = _
    rw [List.length_append, this, List.length_cons]
    show 2 + _ = _
    omega
theorem spc_set (l : List Sp) (a b n : Int) : (spc (l ++ [⟨a, b⟩])).set (l.length * 2 + 1) (.int .i64 n) = spc (l ++ [⟨a, n⟩]) := by
  rw [spc_append, spc_append, List.set_append_right (h := by rw [spc_length]; omega), spc_length]
  congr 1
  rw [show l.length * 2 + 1 - l.length * 2 = 1 by omega]; rfl
theorem spc_last (l : List Sp) (a b : Int) : (spc (l ++ [⟨a, b⟩]))[l.length * 2 + 1]? = some (.int .i64 b) := by
  rw [spc_append, List.getElem?_append_right (by rw [spc_length]; omega), spc_length, show l.length * 2 + 1 - l.length * 2 = 1 by omega]; rfl
theorem Held.kept {W W' : World} {row : Option Nat} {b : Nat} {t : TypeId} {cs : Array Value} (h : Held W b t cs) (hg : W.grownBy W' row) (hne : some b ≠ row) : Held W' b t cs := (hg.block b h.lt hne).trans h
theorem Held.not_row {W : World} {b : Nat} {t e : TypeId} {cs : Array Value} (h : Held W b t cs) (hte : t ≠ e) {base size k : Nat} {v : Value} {xs : List Value} (hr : W.ownsRow base e size v k xs) : some b ≠ v.ownBlock := by
  rcases hr.2 with ⟨rfl, _⟩ | ⟨g, cap, cur, rfl, _, hgb, _⟩
  · simp [Value.ownBlock]
  · intro e'
    obtain rfl : b = g := by simpa [Value.ownBlock] using e'
    have := (show W.heap[b]? = _ from h).symm.trans hgb
    simp at this
    exact hte this.2
theorem row_type {W : World} {base size k : Nat} {e : TypeId} {v : Value} {xs : List Value} (hr : W.ownsRow base e size v k xs) : ∀ r, v.ownBlock = some r → base ≤ r ∧ ∃ cur, W.heap[r]? = some (.cells cur e (0, 0)) := by
  rcases hr.2 with ⟨rfl, _⟩ | ⟨g, cap, cur, rfl, hb, hgb, _⟩
  · intro r h; simp [Value.ownBlock] at h
  · intro r h
    obtain rfl : g = r := by simpa [Value.ownBlock] using h
    exact ⟨hb, cur, hgb⟩
theorem cells_new2 (w : World) (x y : Value) (t : TypeId) : ∀ j u, [x, y][j]? = some u → (w.alloc (.cells #[x, y] t)).cell? ((⟨w.heap.size, 0, none⟩ : Addr).add j) = some u := fun j u hj => by
  have h := Held.new w t #[x, y]
  match j, hj with
  | 0, hj => simp at hj; subst hj; exact h.cell 0
  | 1, hj => simp at hj; subst hj; exact h.cell 1

/-- What a step of the loop's body leaves: the box of out, its row; what lay is kept. -/
structure SpStep (wd W0 W : World) (B0 Bo Bx : Nat) (mcs : Array Value) (L : List Sp) (v : Value) : Prop where
  e : Ext wd W
  k : KpY wd.heap.size W0 W
  f : KeepsFrom B0 W0 W
  m : Held W Bx 169 mcs
  b : Boxed W Bo 41 v
  r : W.ownsRow wd.heap.size 47 2 v L.length (spc L)
namespace SpStep
variable {wd W0 W W' : World} {B0 Bo Bx : Nat} {mcs : Array Value} {L : List Sp} {v : Value}
theorem ext (h : SpStep wd W0 W B0 Bo Bx mcs L v) (e : Ext W W') : SpStep wd W0 W' B0 Bo Bx mcs L v :=
  ⟨h.e.trans e, h.k.trans (KpY.of_ext e h.e.size), h.f.trans (keepsFrom_ext e), h.m.ext e, boxed_ext h.b e, h.r.kept (grown_of_ext e) (by
    rcases h.r.2 with ⟨rfl, _⟩ | ⟨g, cap, cur, rfl, _⟩
    · exact .inl rfl
    · exact .inr (by simp [Value.ownBlock]))⟩
theorem toL {L2 : List Sp} (h : SpStep wd W0 W B0 Bo Bx mcs L v) (e : L2 = L) : SpStep wd W0 W B0 Bo Bx mcs L2 v := e ▸ h
/-- out[k].Last = n. -/
theorem stored {L' : List Sp} {a b : Int} {g cap : Nat} (h : SpStep wd W0 W B0 Bo Bx mcs (L' ++ [⟨a, b⟩]) (.slice (some ⟨g, 0, none⟩) (L'.length + 1) cap)) (n : Int) :
    SpStep wd W0 (W.setCell ⟨g, L'.length * 2 + 1, none⟩ (.int .i64 n)) B0 Bo Bx mcs (L' ++ [⟨a, n⟩]) (.slice (some ⟨g, 0, none⟩) (L'.length + 1) cap) := by
  have hr := h.r
  rw [List.length_append] at hr
  obtain ⟨h1, h2⟩ := World.ownsRow.stored hr (L'.length * 2 + 1) (.int .i64 n)
  obtain ⟨hg, cur, hc⟩ := row_type h.r g rfl
  rw [spc_set] at h1
  refine ⟨h.e.setCell (p := ⟨g, L'.length * 2 + 1, none⟩) hg _, h.k.trans (KpY.grown h2 h.e.size (fun r e => by cases e; exact ⟨hg, _, hc, fun cs f hh => by injection hh with _ ht; exact absurd ht (by decide)⟩)), h.f.trans ((KeepsOthers.setCell _ _ _).from _),
    h.m.kept h2 (h.m.not_row (by decide) h.r), h.b.kept h2 (h.b.not_row (by decide) h.r), by rw [List.length_append]; exact h1⟩
/-- out = append(out, Span{n, n}). -/
theorem appended {w1 : World} {v' : Value} {n : Int} (h : SpStep wd W0 W B0 Bo Bx mcs L v) (hB : wd.heap.size ≤ Bo) {o : Obj}
    (hown : w1.ownsRow wd.heap.size 47 2 v' (L.length + 1) (spc L ++ [.int .i64 n, .int .i64 n])) (hgrow : (W.alloc o).grownBy w1 v.ownBlock) :
    Boxed w1 Bo 41 v ∧ SpStep wd W0 (w1.setCell ⟨Bo, 0, none⟩ v') B0 Bo Bx mcs (L ++ [⟨n, n⟩]) v' := by
  obtain ⟨h1, h2, h3, h4, h5⟩ := h.b.appended (tmp := o) (by decide) h.r h.e.size hB hown hgrow
  have ha := (h.ext ((Ext.refl W).alloc o))
  have hrt := row_type ha.r
  refine ⟨h1, Below.trans h.e h5, h.k.trans ((KpY.of_ext ((Ext.refl W).alloc o) h.e.size).trans ((KpY.grown hgrow ha.e.size (fun r e => ?_)).trans (KpY.box h1 (by decide) hB _))), h.f.trans (h4.from _), ?_, h2, ?_⟩
  · obtain ⟨g1, cur, g2⟩ := hrt r e
    exact ⟨g1, _, g2, fun cs f hh => by injection hh with _ ht; exact absurd ht (by decide)⟩
  · have m1 := ha.m.kept hgrow (ha.m.not_row (by decide) ha.r)
    exact m1.other (fun e => by
      have e1 := (show w1.heap[Bx]? = _ from m1)
      rw [e, show w1.heap[Bo]? = _ from h1] at e1
      simp at e1) _
  · rw [List.length_append, spc_append]; exact h3
end SpStep

theorem addDay_nil (n : Int) : addDay [] n = [⟨n, n⟩] := rfl
theorem addDay_join (l : List Sp) (a b n : Int) (h : b = n - 1) : addDay (l ++ [⟨a, b⟩]) n = l ++ [⟨a, n⟩] := by simp [addDay, h]
theorem addDay_apart (l : List Sp) (a b n : Int) (h : b ≠ n - 1) : addDay (l ++ [⟨a, b⟩]) n = l ++ [⟨a, b⟩] ++ [⟨n, n⟩] := by simp [addDay, h]
theorem addDay_length (l : List Sp) (n : Int) : (addDay l n).length ≤ l.length + 1 := by
  rcases List.eq_nil_or_concat l with rfl | ⟨l', ⟨a, b⟩, rfl⟩
  · simp [addDay]
  · rw [List.concat_eq_append]
    by_cases h : b = n - 1
    · rw [addDay_join _ _ _ _ h]; simp
    · rw [addDay_apart _ _ _ _ h]; simp
theorem dayFold_length (t : Tr) (first : Int) (o : List Sp) : ∀ k : Nat, (t.dayFold first o k).length ≤ o.length + k
  | 0 => by simp [Tr.dayFold]
  | k + 1 => by
    have := dayFold_length t first o k
    rw [Tr.dayFold]
    split
    · have := addDay_length (t.dayFold first o k) (first + k); omega
    · omega
theorem itFold_length (c : Cal) (t : Tr) (o : List Sp) (x : It) : (c.itFold t o x).length ≤ o.length + 30 := by
  rw [Cal.itFold]
  split
  · have h := dayFold_length t x.first o (x.len c).toNat
    have h2 := len_29 (c.yr x.y) x.n x.s
    unfold It.len at *; omega
  · omega
def foldTo (c : Cal) (t : Tr) (l : List It) : List Sp := l.foldl (c.itFold t) []
theorem foldTo_snoc (c : Cal) (t : Tr) (l : List It) (x : It) : foldTo c t (l ++ [x]) = c.itFold t (foldTo c t l) x := by simp [foldTo]
theorem foldTo_length (c : Cal) (t : Tr) (l : List It) : (foldTo c t l).length ≤ 30 * l.length := by
  have h : ∀ (l : List It) (o : List Sp), (l.foldl (c.itFold t) o).length ≤ o.length + 30 * l.length := by
    intro l
    induction l with
    | nil => intro o; simp
    | cons x l ih => intro o; have := ih (c.itFold t o x); have := itFold_length c t o x; simp only [List.foldl_cons, List.length_cons]; omega
  have := h l []
  simpa [foldTo] using this
/-- A slice that reads as some spans. -/
def SpansAt (w : World) (v : Value) (l : List Sp) : Prop := ∃ A cap, v = .slice A l.length cap ∧ RowsAt w A l.length 2 (fun i => (l.getD i ⟨0, 0⟩).cells) ∧ l.length ≤ cap ∧ cap ≤ maxLen
theorem SpansAt.ext {w w' : World} {v : Value} {l : List Sp} (h : SpansAt w v l) (e : Ext w w') : SpansAt w' v l := by
  obtain ⟨A, cap, hv, hr, hc, hm⟩ := h
  exact ⟨A, cap, hv, hr.ext e, hc, hm⟩
theorem spc_get (l : List Sp) (i j : Nat) (v : Value) (hi : i < l.length) (hv : ((l.getD i ⟨0, 0⟩).cells)[j]? = some v) : (spc l)[i * 2 + j]? = some v := by
  have hj : j < 2 := by have := (List.getElem?_eq_some_iff.1 hv).1; exact this
  have e : l = l.take i ++ (l[i] :: l.drop (i + 1)) := by rw [List.getElem_cons_drop, List.take_append_drop]
  have hl : (spc (l.take i)).length = i * 2 := by rw [spc_length, List.length_take]; omega
  have hd : l.getD i ⟨0, 0⟩ = l[i] := by rw [List.getD_eq_getElem?_getD, List.getElem?_eq_getElem hi]; rfl
  rw [hd] at hv
  have hc : (l[i].cells).length = 2 := rfl
  rw [e, spc_append, List.getElem?_append_right (by rw [hl]; omega), hl, show i * 2 + j - i * 2 = j by omega]
  show ((l[i].cells) ++ spc (l.drop (i + 1)))[j]? = _
  rw [List.getElem?_append_left (by rw [hc]; exact hj), hv]
theorem spansAt_own {w : World} {base : Nat} {v : Value} {l : List Sp} (h : w.ownsRow base 47 2 v l.length (spc l)) : SpansAt w v l := by
  rcases h.2 with ⟨rfl, h0⟩ | ⟨g, cap, cur, rfl, hb, hg, hn, hm, _⟩
  · refine ⟨none, 0, by rw [h0], fun hp => by omega, by omega, by decide⟩
  · refine ⟨_, _, rfl, fun _ => ⟨g, 0, rfl, (Array.getElem?_eq_some_iff.1 hg).1, fun i j v hi hv => ?_⟩, hn, hm⟩
    have hj : j < 2 := by have := (List.getElem?_eq_some_iff.1 hv).1; exact this
    rw [Nat.zero_add, World.ownsRow.cellAt h (i * 2 + j) (by omega)]
    exact spc_get l i j v hi hv

def spW (A A' : Option Addr) (ca cb : Nat) (c : Cal) (t : Tr) (w : World) : World := (w.alloc (.cells #[.slice A c.nk ca, .slice A' c.ny cb] 25)).alloc (.cells #[.int .i64 t.d, .bool t.more, .int .i64 t.m, .bool t.s, .string t.nm, .int .i64 t.af, .string t.kg] 34)
theorem info_span : (Tryd.prog.info? 47).map (fun i => (i.zero, i.size, i.bytes)) = some (some (.agg #[.int .i64 0, .int .i64 0]), 2, 16) := by kernel_rfl
set_option maxRecDepth 100000 in
set_option maxHeartbeats 8000000 in
theorem spans_own (A A' : Option Addr) (ca cb : Nat) (c : Cal) (t : Tr) (w : World) (hC : CalAt w A ca A' cb c) (hlg : ∀ i, i < c.ny → 0 ≤ (c.yr i).lg ∧ (c.yr i).lg ≤ 8191) (hny : c.ny ≤ 400) (hkg : ∀ i, i < c.ny → 0 ≤ (c.yr i).k ∧ (c.yr i).k < c.nk) (ha : 0 ≤ t.af) (ha' : t.af ≤ 3) :
    Calls Tryd.prog 54 #[.agg #[.slice A c.nk ca, .slice A' c.ny cb], .agg #[.int .i64 t.d, .bool t.more, .int .i64 t.m, .bool t.s, .string t.nm, .int .i64 t.af, .string t.kg]] w fun e w' => ∃ v, e = .returned v ∧ Ext w w' ∧ w'.ownsRow w.heap.size 47 2 v (c.spans t).length (spc (c.spans t)) := by
  refine callsIn_wide.1 (callsIn_of_wp_marks (F := Fence.wide) (n := 9) Tryd.func54 rfl trivial (wpIn_wide.2 ?_) rfl)
  simp only [Tryd.ntmps54, List.size_toArray, List.length_cons, List.length_nil, Nat.reduceAdd, Nat.reduceSub, Array.replicate_succ, Array.replicate_zero, List.push_toArray, List.append_toArray, List.nil_append, List.cons_append]
  go_wp2_with (go_at_call 88; refine (months_any _ _ _ _ c _).mono ?_; rintro e w' ⟨rfl, rfl⟩)
  obtain ⟨wd, hwd⟩ : ∃ wd, wd = spW A A' ca cb c t w := ⟨_, rfl⟩
  have hEd : Ext w wd := by rw [hwd]; unfold spW; exact (by repeat (first | exact Ext.refl _ | (refine Ext.alloc ?_ _) | (refine Ext.trans ?_ (by assumption))))
  have hsd : wd.heap.size = w.heap.size + 1 + 1 := by rw [hwd]; simp [spW]
  have htb : Held wd (w.heap.size + 1) 34 #[.int .i64 t.d, .bool t.more, .int .i64 t.m, .bool t.s, .string t.nm, .int .i64 t.af, .string t.kg] := by rw [hwd]; unfold spW; exact (by repeat (first | (refine Held.at _ _ _ _ ?_; (simp; done)) | refine Held.alloc ?_ _))
  have hcb : Held wd w.heap.size 25 #[.slice A c.nk ca, .slice A' c.ny cb] := by rw [hwd]; unfold spW; exact (by repeat (first | (refine Held.at _ _ _ _ ?_; (simp; done)) | refine Held.alloc ?_ _))
  generalize hW5 : World.alloc _ _ = W5
  have hE5 : Ext wd W5 := by rw [← hW5, hwd]; unfold spW; exact (by repeat (first | exact Ext.refl _ | (refine Ext.alloc ?_ _) | (refine Ext.trans ?_ (by assumption))))
  have hs5 : W5.heap.size = w.heap.size + 1 + 1 + 1 + 1 := by rw [← hW5]; simp
  have b5 : Boxed W5 (w.heap.size + 1 + 1) 41 (.slice none 0 0) := by rw [← hW5]; exact Held.boxed (by repeat (first | (refine Held.at _ _ _ _ ?_; (simp; done)) | refine Held.alloc ?_ _))
  have hB : W5.cell? ⟨w.heap.size + 1 + 1 + 1, 1, none⟩ = some (.slice A' c.ny cb) := by rw [← hW5]; exact (Held.cell (t := 25) (cs := #[.slice A c.nk ca, .slice A' c.ny cb]) (by repeat (first | (refine Held.at _ _ _ _ ?_; (simp; done)) | refine Held.alloc ?_ _)) 1)
  clear hW5 hwd
  generalize hs : w.heap.size = s at *
  obtain ⟨i0, hi, hz0, hz1, hz2⟩ := info_parts info_span
  have hsd1 := Nat.le_of_eq hsd
  have hsd2 := Nat.le_of_eq hsd.symm
  have hs51 := Nat.le_of_eq hs5
  have hs52 := Nat.le_of_eq hs5.symm
  clear hsd hs5 hs
  refine loop_months (A := A) (A' := A') (ca := ca) (cb := cb) (c := c) (B := s + 1 + 1 + 1) wd W5 rfl rfl (hC.ext hEd) hlg hny hE5 hB (by omega)
    (fun pre W => Ext wd W ∧ ∃ v, Boxed W (s + 1 + 1) 41 v ∧ W.ownsRow wd.heap.size 47 2 v (foldTo c t (Mo.its pre)).length (spc (foldTo c t (Mo.its pre))) ∧ True)
    (fun _ _ _ => False) (OwnFrom.and (ownFrom_ext (by omega)) (Own.from (holdsRow_own wd.heap.size (s + 1 + 1) 41 47 2 (fun pre => (foldTo c t (Mo.its pre)).length) (fun pre => spc (foldTo c t (Mo.its pre))) (fun _ _ => True)) _)) (fun _ _ _ _ _ h _ _ => h) ⟨hE5, _, b5, World.ownsRow_nil _ _ _ _, trivial⟩
    (AxM (s + 1 + 1 + 1) (fun m Bx => #[.agg #[.slice A c.nk ca, .slice A' c.ny cb], .agg #[.int .i64 t.d, .bool t.more, .int .i64 t.m, .bool t.s, .string t.nm, .int .i64 t.af, .string t.kg], .pointer (some ⟨s, 0, none⟩), .pointer (some ⟨s + 1, 0, none⟩), .slice none 0 0, .pointer (some ⟨s + 1 + 1, 0, none⟩), .pointer (some ⟨Bx, 0, none⟩), .int .i64 m.first, undef, undef, undef, .agg #[.slice A c.nk ca, .slice A' c.ny cb], .func (.func 118) #[] #[.pointer (some ⟨s + 1 + 1 + 1, 0, none⟩)],
      .agg #[.int .i64 (m.y : Int), .int .i64 m.n, .bool m.s], .int .i64 m.first, undef, undef, undef, undef, undef, undef, undef, undef, undef, undef, undef, undef, undef, undef, undef, undef, undef, undef, undef, undef, undef, undef, undef, undef, undef, undef, undef, undef, undef, undef, undef, undef, undef, undef, undef, undef, undef, undef, undef, undef, undef, undef, undef, undef, undef, undef, undef])) axM_own ?assign ?body ?done ?stop
  case assign =>
    intro l pre x W K hi hK
    simp only [Mo.enc]
    gi_wp2
    obtain ⟨hE, v, hb, hr, -⟩ := hi
    exact hK _ _ (keepsFrom_ext ((Ext.refl W).alloc _)) (KpY.of_ext ((Ext.refl W).alloc _) hE.size) ⟨hE.alloc _, v, hb.alloc _, hr.alloc _, trivial⟩ ⟨W.heap.size, hb.lt, Held.new _ _ _, rfl⟩
  case body =>
    rintro l pre x a' W hl ⟨hE, v, b5, hr, -⟩ ⟨Bx, hBx, hm, rfl⟩ hlt
    have hxok := x.2
    have hx1 := hxok.f1
    have hx2 := hxok.f2
    have hxy := hxok.y
    have hxn := hxok.n1
    have hxn2 := hxok.n12
    have hlx := hlg _ hxy
    have hkx := hkg _ hxy
    clear hxok
    have hCW := (hC.ext hEd).ext hE
    obtain ⟨m0, m1, m2⟩ := hm.c3
    obtain ⟨k0, k1⟩ := (hcb.ext hE).c2
    have tb := htb.ext hE
    have t0 := tb.cell 0
    have t1 := tb.cell 1
    have t2 := tb.cell 2
    have t3 := tb.cell 3
    have t4 := tb.cell 4
    have t5 := tb.cell 5
    have t6 := tb.cell 6
    simp only [List.getElem?_toArray, List.getElem?_cons_zero, List.getElem?_cons_succ] at t0 t1 t2 t3 t4 t5 t6
    have hl1 := hm.lt
    have hl2 := tb.lt
    have hl3 := (hcb.ext hE).lt
    have HF : Hid (foldTo c t (Mo.its (pre ++ [x])) = _) := (congrArg (foldTo c t) (its_snoc pre x)).trans (foldTo_snoc c t _ x.1)
    have hob := foldTo_length c t (Mo.its pre)
    rw [its_length] at hob
    generalize foldTo c t (Mo.its pre) = o at *
    gi_upto_region 5 with (fail)
    refine wpIn_region_xl W (by kernel_rfl) (by repeat (first | exact Ext.refl _ | (refine Ext.alloc ?_ _) | (refine Ext.trans ?_ (by assumption)))) ?_
    intro hne hrx hry
    try simp only []
    try simp only [List.append_eq, List.cons_append, List.nil_append]
    skip
    repeat (first
      | go_big_quiet_skip
      | (go_big_quiet_want; go_big_quiet_op; go_big_quiet_on)
      | (go_big_quiet_want; go_big_quiet_op; apply Exists.intro; refine ⟨fun u => ?_, ?_⟩
         · first
             | (go_at_call 101; refine (inMonth_any _ _ _ _ c t x.1.y _ _ _ (hCW.ext (Ext.trans (by repeat (first | exact Ext.refl _ | (refine Ext.alloc ?_ _) | (refine Ext.trans ?_ (by assumption)))) u.e)) hxy hny hkx.1 hkx.2 ha ha').mono ?_; rintro e w' ⟨rfl, hb⟩; exact ⟨rfl, u.back hb⟩)
         go_big_quiet_on))
    clear hne hry hrx
    refine wpQuiet_nil ?_
    intro wq hq
    obtain ⟨hcwq, hfwq, hzwq⟩ := Ext.rules hq
    try simp only [World.size_alloc] at hzwq
    obtain ⟨hcbwq, hfbwq, hzbwq⟩ := Ext.rules (show Ext W wq from (by repeat (first | exact Ext.refl _ | (refine Ext.alloc ?_ _) | (refine Ext.trans ?_ (by assumption)))))
    clear hcwq hfwq
    have hst : SpStep wd W wq W5.heap.size (s + 1 + 1) Bx #[.int .i64 (x.1.y : Int), .int .i64 x.1.n, .bool x.1.s] o v := SpStep.ext ⟨hE, KpY.refl _ _, KeepsFrom.refl _ _, hm, b5, hr⟩ hq
    have HI : Hid (c.itFold t o x.1 = if c.inMonth t x.1.y x.1.n x.1.s then t.dayFold x.1.first o ((c.yr x.1.y).len x.1.n x.1.s).toNat else o) := rfl
    generalize hin : c.inMonth t x.1.y x.1.n x.1.s = im at *
    clear hin m0 m1 m2 k0 k1 t0 t1 t2 t3 t4 t5 t6 hl1 hl2 hl3 hzwq hcbwq hfbwq hzbwq hq
    cases im
    · gi_wp2
      exact ⟨hst.f, hst.k, hst.e, v, hst.b, by rw [HF.out, HI.out]; exact hst.r, trivial⟩
    · have hln := len_29 (c.yr x.1.y) x.1.n x.1.s
      gi_wp2
      gi_loopw [8] (fun d wr => ∃ k : Nat, k ≤ ((c.yr x.1.y).len x.1.n x.1.s).toNat ∧ d = .int .i64 (k + 1) ∧ ∃ v, SpStep wd W wr W5.heap.size (s + 1 + 1) Bx #[.int .i64 (x.1.y : Int), .int .i64 x.1.n, .bool x.1.s] (t.dayFold x.1.first o k) v) (fun d _ => 32 - (intOf d).toNat)
      case atStart => exact ⟨0, Nat.zero_le _, rfl, v, hst⟩
      case round =>
        clear hst hE b5 hr hm
        obtain ⟨k, hk, rfl, v, hst⟩ := hrel
        obtain ⟨wo, rfl⟩ : ∃ wo : World, wo = wr := ⟨_, rfl⟩
        obtain ⟨m0, m1, m2⟩ := hst.m.c3
        obtain ⟨k0, k1⟩ := (hcb.ext hst.e).c2
        have hCo := (hC.ext hEd).ext hst.e
        have hl1 := hst.m.lt
        have hl3 := (hcb.ext hst.e).lt
        gi_upto_region 7 with (fail)
        refine wpIn_region_xl wo (by kernel_rfl) (by repeat (first | exact Ext.refl _ | (refine Ext.alloc ?_ _) | (refine Ext.trans ?_ (by assumption)))) ?_
        intro hne hrx hry
        try simp only []
        try simp only [List.append_eq, List.cons_append, List.nil_append]
        skip
        repeat (first
          | go_big_quiet_skip
          | (go_big_quiet_want; go_big_quiet_op; go_big_quiet_on)
          | (go_big_quiet_want; go_big_quiet_op; apply Exists.intro; refine ⟨fun u => ?_, ?_⟩
             · first
                 | (go_at_call 89; refine (of_any _ _ _ _ c x.1.y _ _ _ (hCo.ext (Ext.trans (by repeat (first | exact Ext.refl _ | (refine Ext.alloc ?_ _) | (refine Ext.trans ?_ (by assumption)))) u.e)) hxy hxn hxn2 hlx.1 hlx.2).mono ?_; rintro e w' ⟨rfl, hb⟩; exact ⟨rfl, u.back hb⟩)
             go_big_quiet_on))
        clear hne hry hrx
        refine wpQuiet_nil ?_
        intro w7 h7
        obtain ⟨hcw7, hfw7, hzw7⟩ := Ext.rules h7
        try simp only [World.size_alloc] at hzw7
        obtain ⟨hcbw7, hfbw7, hzbw7⟩ := Ext.rules (show Ext wo w7 from (by repeat (first | exact Ext.refl _ | (refine Ext.alloc ?_ _) | (refine Ext.trans ?_ (by assumption)))))
        clear hcw7 hfw7
        have hst7 := hst.ext h7
        clear m0 m1 m2 k0 k1 hl1 hl3 hCo hst hzw7 hcbw7 hfbw7 hzbw7 h7
        by_cases hkl : (k : Int) + 1 ≤ (c.yr x.1.y).len x.1.n x.1.s
        · have tb := htb.ext hst7.e
          have t0 := tb.cell 0
          have t1 := tb.cell 1
          have t2 := tb.cell 2
          have t3 := tb.cell 3
          have t4 := tb.cell 4
          have t5 := tb.cell 5
          have t6 := tb.cell 6
          simp only [List.getElem?_toArray, List.getElem?_cons_zero, List.getElem?_cons_succ] at t0 t1 t2 t3 t4 t5 t6
          have hl2 := tb.lt
          gi_upto_region 9 with (fail)
          refine wpIn_region_xl w7 (by kernel_rfl) (by repeat (first | exact Ext.refl _ | (refine Ext.alloc ?_ _) | (refine Ext.trans ?_ (by assumption)))) ?_
          intro hne hrx hry
          try simp only []
          try simp only [List.append_eq, List.cons_append, List.nil_append]
          skip
          repeat (first
            | go_big_quiet_skip
            | (go_big_quiet_want; go_big_quiet_op; go_big_quiet_on)
            | (go_big_quiet_want; go_big_quiet_op; apply Exists.intro; refine ⟨fun u => ?_, ?_⟩
               · first
                   | (go_at_call 102; refine (onDay_any t _ _).mono ?_; rintro e w' ⟨rfl, hb⟩; exact ⟨rfl, u.back hb⟩)
               go_big_quiet_on))
          clear hne hry hrx
          refine wpQuiet_nil ?_
          intro w9 h9
          obtain ⟨hcw9, hfw9, hzw9⟩ := Ext.rules h9
          try simp only [World.size_alloc] at hzw9
          obtain ⟨hcbw9, hfbw9, hzbw9⟩ := Ext.rules (show Ext w7 w9 from (by repeat (first | exact Ext.refl _ | (refine Ext.alloc ?_ _) | (refine Ext.trans ?_ (by assumption)))))
          clear hcw9 hfw9
          have hst9 := hst7.ext h9
          clear t0 t1 t2 t3 t4 t5 t6 hl2 tb hst7 hzw9 hcbw9 hfbw9 hzbw9 h9
          have HD : Hid (t.dayFold x.1.first o (k + 1) = if t.onDay ((k : Int) + 1) then addDay (t.dayFold x.1.first o k) (x.1.first + k) else t.dayFold x.1.first o k) := rfl
          generalize t.onDay ((k : Int) + 1) = od at *
          cases od
          · gi_wp2
            exact ⟨⟨k + 1, by omega, by go_num, v, by rw [HD.out]; exact hst9⟩, by simp [intOf]; omega⟩
          · have hol := dayFold_length t x.1.first o k
            have hob2 : (t.dayFold x.1.first o k).length ≤ 1000000 := by omega
            clear hol hob
            generalize t.dayFold x.1.first o k = L at *
            have hm1 : L.length + 1 ≤ maxLen := by unfold maxLen; omega
            have hm2 : (L.length + 1) * 16 ≤ 140737488355328 := by omega
            rcases List.eq_nil_or_concat L with rfl | ⟨L', ⟨a, b⟩, rfl⟩
            · obtain ⟨A0, cap0, rfl⟩ : ∃ A0 cap0, v = .slice A0 0 cap0 := by
                rcases hst9.r.2 with ⟨h, _⟩ | ⟨g, cap, cur, h, _⟩
                · exact ⟨_, _, h⟩
                · exact ⟨_, _, h⟩
              have hc5 := hst9.b.cell
              gi_wp2_with (gi_at_builtin; refine wpListIn_append_own _ rfl _ _ 41 rfl wd.heap.size 47 i0 (.agg #[.int .i64 0, .int .i64 0]) 2 16 Tryd.underlying41 hi hz0 hz1 hz2 rfl (by decide) _ _ _ rfl (hst9.r.alloc _) ⟨w9.heap.size, 0, none⟩ 1 1 [.int .i64 (x.1.first + ((k : Int) + 1) - 1), .int .i64 (x.1.first + ((k : Int) + 1) - 1)] rfl rfl (cells_new2 _ _ _ _) (by simp [Value.oneCell']) hm1 hm2 (by have := hst9.e.size; simp; omega) ?_; intro v' w1 hown' hgrow _; obtain ⟨hv1, hst1⟩ := hst9.appended hsd1 hown' hgrow; obtain ⟨g', cap', rfl⟩ := ownsRow_succ hown'; have hc1 := hv1.cell; have hf1 := hv1.frozen)
              exact ⟨⟨k + 1, by omega, by go_num, _, hst1.toL (by rw [HD.out, if_pos rfl, addDay_nil, show x.1.first + ((k : Int) + 1) - 1 = x.1.first + k by omega]; rfl)⟩, by simp [intOf]; omega⟩
            · rw [List.concat_eq_append] at *
              obtain ⟨g, cap, rfl⟩ := ownsRow_succ (show w9.ownsRow wd.heap.size 47 2 v (L'.length + 1) _ by have := hst9.r; rwa [List.length_append] at this)
              have hr9 := hst9.r
              have hc5 := hst9.b.cell
              have hlast : w9.cell? ⟨g, L'.length * 2 + 1, none⟩ = some (.int .i64 b) := by
                rw [List.length_append] at hr9
                exact (World.ownsRow.cellAt hr9 (L'.length * 2 + 1) (by omega)).trans (spc_last L' a b)
              have hfl : w9.frozen? ⟨g, L'.length * 2 + 1, none⟩ = false := by
                rw [List.length_append] at hr9
                exact World.ownsRow.frozenAt hr9 _
              have hLn : L'.length ≤ 1000000 := by rw [List.length_append] at hob2; omega
              clear hr9
              by_cases hbn : b = x.1.first + ((k : Int) + 1) - 1 - 1
              · have hbb : (b == x.1.first + ((k : Int) + 1) - 1 - 1) = true := beq_iff_eq.2 hbn
                have HB := Lib.hid hbn
                clear hbn
                have hs1 := hst9.stored (x.1.first + ((k : Int) + 1) - 1)
                gi_wp2
                exact ⟨⟨k + 1, by omega, by go_num, _, hs1.toL (by rw [HD.out, if_pos rfl, addDay_join _ _ _ _ (by have := HB.out; omega), show x.1.first + ((k : Int) + 1) - 1 = x.1.first + k by omega])⟩, by simp [intOf]; omega⟩
              · have hbb : (b == x.1.first + ((k : Int) + 1) - 1 - 1) = false := beq_eq_false_iff_ne.2 hbn
                have HB := Lib.hid hbn
                clear hbn
                gi_wp2_with (gi_at_builtin; refine wpListIn_append_own _ rfl _ _ 41 rfl wd.heap.size 47 i0 (.agg #[.int .i64 0, .int .i64 0]) 2 16 Tryd.underlying41 hi hz0 hz1 hz2 rfl (by decide) _ _ _ rfl (hst9.r.alloc _) ⟨w9.heap.size, 0, none⟩ 1 1 [.int .i64 (x.1.first + ((k : Int) + 1) - 1), .int .i64 (x.1.first + ((k : Int) + 1) - 1)] rfl rfl (cells_new2 _ _ _ _) (by simp [Value.oneCell']) hm1 hm2 (by have := hst9.e.size; simp; omega) ?_; intro v' w1 hown' hgrow _; obtain ⟨hv1, hst1⟩ := hst9.appended hsd1 hown' hgrow; obtain ⟨g', cap', rfl⟩ := ownsRow_succ hown'; have hc1 := hv1.cell; have hf1 := hv1.frozen)
                simp only [List.length_append, List.length_cons, List.length_nil, Nat.zero_add] at hst1
                exact ⟨⟨k + 1, by omega, by go_num, _, hst1.toL (by rw [HD.out, if_pos rfl, addDay_apart _ _ _ _ (by have := HB.out; omega), show x.1.first + ((k : Int) + 1) - 1 = x.1.first + k by omega])⟩, by simp [intOf]; omega⟩
        · gi_wp2
          have hkk : k = ((c.yr x.1.y).len x.1.n x.1.s).toNat := by omega
          exact ⟨hst7.f, hst7.k, hst7.e, v, hst7.b, by
            have e : foldTo c t (Mo.its (pre ++ [x])) = t.dayFold x.1.first o k := by rw [HF.out, HI.out, hkk]; rfl
            rw [e]; exact hst7.r⟩
  case done =>
    rintro D xs W hD hxs ⟨hE, v, b5, hr, -⟩ hK
    rw [hxs] at hr
    have hc5 := b5.cell
    go_wp2
    exact ret_mark hK (v := v) (by simp [results, Tryd.results54, go_sem]) ⟨v, rfl, hEd.trans (hE.putObj (by omega) _), World.ownsRow.mono (ownsRow_putObj hr _ hK rfl) hEd.size⟩
  case stop =>
    rintro D c' pre W _ _ h _
    exact h.elim
theorem spans_any (A A' : Option Addr) (ca cb : Nat) (c : Cal) (t : Tr) (w : World) (hC : CalAt w A ca A' cb c) (hlg : ∀ i, i < c.ny → 0 ≤ (c.yr i).lg ∧ (c.yr i).lg ≤ 8191) (hny : c.ny ≤ 400) (hkg : ∀ i, i < c.ny → 0 ≤ (c.yr i).k ∧ (c.yr i).k < c.nk) (ha : 0 ≤ t.af) (ha' : t.af ≤ 3) :
    Calls Tryd.prog 54 #[.agg #[.slice A c.nk ca, .slice A' c.ny cb], .agg #[.int .i64 t.d, .bool t.more, .int .i64 t.m, .bool t.s, .string t.nm, .int .i64 t.af, .string t.kg]] w fun e w' => ∃ v, e = .returned v ∧ Ext w w' ∧ SpansAt w' v (c.spans t) :=
  (spans_own A A' ca cb c t w hC hlg hny hkg ha ha').mono fun _ _ ⟨v, h1, h2, h3⟩ => ⟨v, h1, h2, spansAt_own h3⟩
end Go.Proofs.YthmjpbafbohelaaDoor

namespace Go.Proofs.YthmjpbafbohelaaDoor
open Go Go.RowKit Go.Shelf
attribute [local go_sem] gv_yes

theorem runs_ok {c : Cal} {i : Nat} (hi : i < c.ny) : ∀ (k : Nat), k ≤ 12 → ∀ x, x ∈ runs i (c.yr i) (c.dayAt i) ((c.yr i).moTo k) → c.okIt x
  | 0, _, x, hx => by simp [Yr.moTo, runs] at hx
  | k + 1, hk, x, hx => by
    rw [moTo_succ, runs_append, List.mem_append] at hx
    rcases hx with hx | hx
    · exact runs_ok hi k (by omega) x hx
    · by_cases h : (c.yr i).db = (k : Int) + 1
      · rw [if_pos h] at hx
        rcases List.mem_cons.1 hx with rfl | hx
        · exact it1_ok hi (by omega)
        · rcases List.mem_cons.1 hx with rfl | hx
          · exact it2_ok hi (by omega)
          · cases hx
      · rw [if_neg h] at hx
        rcases List.mem_cons.1 hx with rfl | hx
        · exact it1_ok hi (by omega)
        · cases hx
theorem itemsTo_ok (c : Cal) : ∀ i : Nat, i ≤ c.ny → ∀ x, x ∈ c.itemsTo i → c.okIt x
  | 0, _, x, hx => by cases hx
  | i + 1, hi, x, hx => by
    rw [Cal.itemsTo, List.mem_append] at hx
    rcases hx with hx | hx
    · exact itemsTo_ok c i (by omega) x hx
    · exact runs_ok (by omega) 12 (by omega) x hx
theorem items_ok (c : Cal) : ∀ x, x ∈ c.items → c.okIt x := itemsTo_ok c c.ny (Nat.le_refl _)
theorem checks_one (c : Cal) (d : Dt) : c.checks (fun _ => d) 1 = c.inE d := by simp [Cal.checks, Cal.inE]
def two (a b : Dt) (i : Nat) : Dt := if i = 0 then a else b
theorem checks_two (c : Cal) (a b : Dt) : c.checks (two a b) 2 = c.in2E a b := by
  simp only [Cal.checks, Cal.in2E, show List.range 2 = [0, 1] from rfl, List.all_cons, List.all_nil, Bool.and_true]
  rfl
theorem inE_cases (c : Cal) (d : Dt) : (c.valid = false ∧ c.inE d = 70) ∨ (c.valid = true ∧ c.has d = false ∧ c.inE d = 71) ∨ (c.valid = true ∧ c.has d = true ∧ c.inE d = 0) := by
  unfold Cal.inE
  cases c.valid <;> cases c.has d <;> simp
theorem in2E_cases (c : Cal) (a b : Dt) : (c.valid = false ∧ c.in2E a b = 70) ∨ (c.valid = true ∧ (c.has a && c.has b) = false ∧ c.in2E a b = 71) ∨ (c.valid = true ∧ (c.has a && c.has b) = true ∧ c.in2E a b = 0) := by
  unfold Cal.in2E
  cases c.valid <;> cases c.has a <;> cases c.has b <;> simp
theorem has_day {c : Cal} {d : Dt} (h : c.has d = true) : 1 ≤ d.d ∧ d.d ≤ 30 := by
  simp only [Cal.has, Bool.and_eq_true, decide_eq_true_eq] at h
  have := len_29 (c.yrI d.y) d.m d.s
  omega
theorem valid_kg {c : Cal} (h : c.valid = true) : ∀ i, i < c.ny → 0 ≤ (c.yr i).k ∧ (c.yr i).k < c.nk := fun i hi => by
  simp only [Cal.valid, Bool.and_eq_true, List.all_eq_true, List.mem_range] at h
  have h2 : YearsTo c c.ny := h.2
  have h1 := h2 i hi
  have h3 := prevK_nn (c := c) (k := i) (fun j hj => h2 j (by omega))
  simp only [Cal.yearOk, Bool.and_eq_true, decide_eq_true_eq] at h1
  omega
theorem rows_one {w : World} {b : Nat} {t : TypeId} {d : Dt} (h : Held w b t #[.int .i64 d.y, .int .i64 d.m, .bool d.s, .int .i64 d.d]) : RowsAt w (some ⟨b, 0, none⟩) 1 4 (fun _ => dcells d) := fun _ =>
  ⟨b, 0, rfl, h.lt, fun i j v hi hv => by
    obtain rfl : i = 0 := by omega
    rw [show 0 + 0 * 4 + j = j by omega, h.cell j, List.getElem?_toArray]; exact hv⟩
theorem rows_two {w : World} {b : Nat} {t : TypeId} {x y : Dt} (h : Held w b t #[.int .i64 x.y, .int .i64 x.m, .bool x.s, .int .i64 x.d, .int .i64 y.y, .int .i64 y.m, .bool y.s, .int .i64 y.d]) : RowsAt w (some ⟨b, 0, none⟩) 2 4 (fun i => dcells (two x y i)) := fun _ =>
  ⟨b, 0, rfl, h.lt, fun i j v hi hv => by
    have hj : j < 4 := (List.getElem?_eq_some_iff.1 hv).1
    rw [Nat.zero_add, h.cell]
    match i, j, hi, hj, hv with
    | 0, 0, _, _, hv => exact hv
    | 0, 1, _, _, hv => exact hv
    | 0, 2, _, _, hv => exact hv
    | 0, 3, _, _, hv => exact hv
    | 1, 0, _, _, hv => exact hv
    | 1, 1, _, _, hv => exact hv
    | 1, 2, _, _, hv => exact hv
    | 1, 3, _, _, hv => exact hv⟩
set_option maxRecDepth 100000 in
set_option maxHeartbeats 1000000 in
theorem numberX_any (A A' : Option Addr) (ca cb : Nat) (c : Cal) (d : Dt) (w : World) (hC : CalAt w A ca A' cb c) :
    Calls Tryd.prog 91 #[.agg #[.slice A c.nk ca, .slice A' c.ny cb], .agg #[.int .i64 d.y, .int .i64 d.m, .bool d.s, .int .i64 d.d]] w fun e w' => e = .returned (.tuple #[.int .i64 (c.numV d), .int .i64 (c.inE d)]) ∧ Ext w w' := by
  rcases inE_cases c d with ⟨hv, hE⟩ | ⟨hv, hh, hE⟩ | ⟨hv, hh, hE⟩
  · have HE := Lib.hid hE
    have HV : Hid (c.numV d = 0) := by unfold Hid Cal.numV; rw [hE]; rfl
    clear hE hv
    go_enter Tryd.func91, Tryd.ntmps91
    go_wp2_with (go_at_call 48; refine (checks_any _ _ _ _ c _ 1 1 (fun _ => d) _ (hC.ext (by repeat (first | exact Ext.refl _ | (refine Ext.alloc ?_ _) | (refine Ext.trans ?_ (by assumption))))) (rows_one (t := 29) (by repeat (first | (refine Held.at _ _ _ _ ?_; (simp; done)) | refine Held.alloc ?_ _))) (by omega)).mono ?_; rw [checks_one, HE.out]; rintro e wq ⟨rfl, hq⟩)
    go_ret2
    exact ⟨by rw [HE.out, HV.out]; rfl, (by repeat (first | exact Ext.refl _ | (refine Ext.alloc ?_ _) | (refine Ext.trans ?_ (by assumption))))⟩
  · have HE := Lib.hid hE
    have HV : Hid (c.numV d = 0) := by unfold Hid Cal.numV; rw [hE]; rfl
    clear hE hv
    go_enter Tryd.func91, Tryd.ntmps91
    go_wp2_with (go_at_call 48; refine (checks_any _ _ _ _ c _ 1 1 (fun _ => d) _ (hC.ext (by repeat (first | exact Ext.refl _ | (refine Ext.alloc ?_ _) | (refine Ext.trans ?_ (by assumption))))) (rows_one (t := 29) (by repeat (first | (refine Held.at _ _ _ _ ?_; (simp; done)) | refine Held.alloc ?_ _))) (by omega)).mono ?_; rw [checks_one, HE.out]; rintro e wq ⟨rfl, hq⟩)
    go_ret2
    exact ⟨by rw [HE.out, HV.out]; rfl, (by repeat (first | exact Ext.refl _ | (refine Ext.alloc ?_ _) | (refine Ext.trans ?_ (by assumption))))⟩
  · have HE := Lib.hid hE
    have HV : Hid (c.numV d = (c.num d).1) := by unfold Hid Cal.numV; rw [hE]; rfl
    have HL := Lib.hid (valid_lg hv)
    have HY := Lib.hid (valid_ny hv)
    have HD := Lib.hid (has_day hh)
    clear hE hv hh
    go_enter Tryd.func91, Tryd.ntmps91
    go_wp2_with (go_at_call 48; refine (checks_any _ _ _ _ c _ 1 1 (fun _ => d) _ (hC.ext (by repeat (first | exact Ext.refl _ | (refine Ext.alloc ?_ _) | (refine Ext.trans ?_ (by assumption))))) (rows_one (t := 29) (by repeat (first | (refine Held.at _ _ _ _ ?_; (simp; done)) | refine Held.alloc ?_ _))) (by omega)).mono ?_; rw [checks_one, HE.out]; rintro e wq ⟨rfl, hq⟩; obtain ⟨k0, k1⟩ := (Held.ext (b := w.heap.size) (t := 25) (cs := #[.slice A c.nk ca, .slice A' c.ny cb]) (by repeat (first | (refine Held.at _ _ _ _ ?_; (simp; done)) | refine Held.alloc ?_ _)) hq).c2; obtain ⟨e0, e1, e2, e3⟩ := (Held.ext (b := w.heap.size + 1) (t := 29) (cs := #[.int .i64 d.y, .int .i64 d.m, .bool d.s, .int .i64 d.d]) (by repeat (first | (refine Held.at _ _ _ _ ?_; (simp; done)) | refine Held.alloc ?_ _)) hq).c4)
    refine (number_any _ _ _ _ c d _ (hC.ext (by repeat (first | exact Ext.refl _ | (refine Ext.alloc ?_ _) | (refine Ext.trans ?_ (by assumption))))) HL.out HY.out HD.out).mono ?_
    rintro e wn ⟨rfl, hn⟩
    go_wp2
    go_ret2
    exact ⟨by rw [HE.out, HV.out]; rfl, (by repeat (first | exact Ext.refl _ | (refine Ext.alloc ?_ _) | (refine Ext.trans ?_ (by assumption))))⟩
theorem num_bd (c : Cal) (d : Dt) (h1 : 1 ≤ d.d) (h2 : d.d ≤ 30) : 0 ≤ (c.num d).1 ∧ (c.num d).1 ≤ 390 * (c.ny : Int) + 421 ∧ 0 ≤ (c.num d).2 ∧ (c.num d).2 ≤ 13 * (c.ny : Int) := by
  have hi : ∀ x, x ∈ c.items → c.okIt x := items_ok c
  have hl := itemsTo_length c c.ny
  have h : ∀ (l : List It) (k : Int), 0 ≤ k → (∀ x, x ∈ l → c.okIt x) → 0 ≤ (numFrom d l k).1 ∧ (numFrom d l k).1 ≤ 390 * (c.ny : Int) + 421 ∧ 0 ≤ (numFrom d l k).2 ∧ (numFrom d l k).2 ≤ k + l.length := by
    intro l
    induction l with
    | nil => intro k hk _; simp [numFrom]; omega
    | cons x l ih =>
      intro k hk hx
      have hx0 := hx x (List.mem_cons_self ..)
      have f1 := hx0.f1
      have f2 := hx0.f2
      have := ih (k + 1) (by omega) (fun y hy => hx y (List.mem_cons_of_mem _ hy))
      rw [numFrom, List.length_cons]
      split
      · simp only; omega
      · omega
  have := h c.items 0 (by omega) hi
  have e : (c.items.length : Int) ≤ 13 * (c.ny : Int) := by unfold Cal.items; omega
  unfold Cal.num
  omega
set_option maxRecDepth 100000 in
set_option maxHeartbeats 2000000 in
theorem betweenX_any (A A' : Option Addr) (ca cb : Nat) (c : Cal) (a b : Dt) (w : World) (hC : CalAt w A ca A' cb c) :
    Calls Tryd.prog 34 #[.agg #[.slice A c.nk ca, .slice A' c.ny cb], .agg #[.int .i64 a.y, .int .i64 a.m, .bool a.s, .int .i64 a.d], .agg #[.int .i64 b.y, .int .i64 b.m, .bool b.s, .int .i64 b.d]] w fun e w' => e = .returned (.tuple #[.int .i64 (c.betV a b), .int .i64 (c.in2E a b)]) ∧ Ext w w' := by
  rcases in2E_cases c a b with ⟨hv, hE⟩ | ⟨hv, hh, hE⟩ | ⟨hv, hh, hE⟩
  · have HE := Lib.hid hE
    have HV : Hid (c.betV a b = 0) := by unfold Hid Cal.betV; rw [hE]; rfl
    clear hE hv
    go_enter Tryd.func34, Tryd.ntmps34
    go_wp2_with (go_at_call 48; refine (checks_any _ _ _ _ c _ 2 2 (two a b) _ (hC.ext (by repeat (first | exact Ext.refl _ | (refine Ext.alloc ?_ _) | (refine Ext.trans ?_ (by assumption))))) (rows_two (t := 29) (by repeat (first | (refine Held.at _ _ _ _ ?_; (simp; done)) | refine Held.alloc ?_ _))) (by omega)).mono ?_; rw [checks_two, HE.out]; rintro e wq ⟨rfl, hq⟩)
    go_ret2
    exact ⟨by rw [HE.out, HV.out]; rfl, (by repeat (first | exact Ext.refl _ | (refine Ext.alloc ?_ _) | (refine Ext.trans ?_ (by assumption))))⟩
  · have HE := Lib.hid hE
    have HV : Hid (c.betV a b = 0) := by unfold Hid Cal.betV; rw [hE]; rfl
    clear hE hv
    go_enter Tryd.func34, Tryd.ntmps34
    go_wp2_with (go_at_call 48; refine (checks_any _ _ _ _ c _ 2 2 (two a b) _ (hC.ext (by repeat (first | exact Ext.refl _ | (refine Ext.alloc ?_ _) | (refine Ext.trans ?_ (by assumption))))) (rows_two (t := 29) (by repeat (first | (refine Held.at _ _ _ _ ?_; (simp; done)) | refine Held.alloc ?_ _))) (by omega)).mono ?_; rw [checks_two, HE.out]; rintro e wq ⟨rfl, hq⟩)
    go_ret2
    exact ⟨by rw [HE.out, HV.out]; rfl, (by repeat (first | exact Ext.refl _ | (refine Ext.alloc ?_ _) | (refine Ext.trans ?_ (by assumption))))⟩
  · have HE := Lib.hid hE
    have HV : Hid (c.betV a b = (c.num b).1 - (c.num a).1) := by unfold Hid Cal.betV; rw [hE]; rfl
    have HL := Lib.hid (valid_lg hv)
    have hny := valid_ny hv
    have HY := Lib.hid hny
    rw [Bool.and_eq_true] at hh
    have hda := has_day hh.1
    have hdb := has_day hh.2
    have HDa := Lib.hid hda
    have HDb := Lib.hid hdb
    obtain ⟨hda1, hda2⟩ := hda
    obtain ⟨hdb1, hdb2⟩ := hdb
    have hna := num_bd c a hda1 hda2
    have hnb := num_bd c b hdb1 hdb2
    obtain ⟨hna1, hna2, hna3, hna4⟩ := hna
    obtain ⟨hnb1, hnb2, hnb3, hnb4⟩ := hnb
    clear hE hv hh
    go_enter Tryd.func34, Tryd.ntmps34
    go_wp2_with (go_at_call 48; refine (checks_any _ _ _ _ c _ 2 2 (two a b) _ (hC.ext (by repeat (first | exact Ext.refl _ | (refine Ext.alloc ?_ _) | (refine Ext.trans ?_ (by assumption))))) (rows_two (t := 29) (by repeat (first | (refine Held.at _ _ _ _ ?_; (simp; done)) | refine Held.alloc ?_ _))) (by omega)).mono ?_; rw [checks_two, HE.out]; rintro e wq ⟨rfl, hq⟩; have hcb := (Held.ext (b := w.heap.size) (t := 25) (cs := #[.slice A c.nk ca, .slice A' c.ny cb]) (by repeat (first | (refine Held.at _ _ _ _ ?_; (simp; done)) | refine Held.alloc ?_ _)) hq); have hab := (Held.ext (b := w.heap.size + 1) (t := 29) (cs := #[.int .i64 a.y, .int .i64 a.m, .bool a.s, .int .i64 a.d]) (by repeat (first | (refine Held.at _ _ _ _ ?_; (simp; done)) | refine Held.alloc ?_ _)) hq); have hbb := (Held.ext (b := w.heap.size + 1 + 1) (t := 29) (cs := #[.int .i64 b.y, .int .i64 b.m, .bool b.s, .int .i64 b.d]) (by repeat (first | (refine Held.at _ _ _ _ ?_; (simp; done)) | refine Held.alloc ?_ _)) hq); obtain ⟨k0, k1⟩ := hcb.c2; obtain ⟨e0, e1, e2, e3⟩ := hab.c4)
    refine (number_any _ _ _ _ c a _ (hC.ext (by repeat (first | exact Ext.refl _ | (refine Ext.alloc ?_ _) | (refine Ext.trans ?_ (by assumption))))) HL.out HY.out HDa.out).mono ?_
    rintro e wn ⟨rfl, hn⟩
    obtain ⟨k0, k1⟩ := (hcb.ext hn).c2
    obtain ⟨g0, g1, g2, g3⟩ := (hbb.ext hn).c4
    go_wp2_with (fail)
    refine (number_any _ _ _ _ c b _ (hC.ext (by repeat (first | exact Ext.refl _ | (refine Ext.alloc ?_ _) | (refine Ext.trans ?_ (by assumption))))) HL.out HY.out HDb.out).mono ?_
    rintro e wm ⟨rfl, hm⟩
    obtain ⟨y0, y1, y2, y3⟩ := ((hab.ext hn).ext hm).c4
    obtain ⟨z0, z1, z2, z3⟩ := ((hbb.ext hn).ext hm).c4
    go_wp2
    go_ret2
    exact ⟨by rw [HE.out, HV.out]; rfl, (by repeat (first | exact Ext.refl _ | (refine Ext.alloc ?_ _) | (refine Ext.trans ?_ (by assumption))))⟩
set_option maxRecDepth 100000 in
set_option maxHeartbeats 2000000 in
theorem schemeX_any (A A' : Option Addr) (ca cb : Nat) (c : Cal) (a b : Dt) (w : World) (hC : CalAt w A ca A' cb c) :
    Calls Tryd.prog 56 #[.agg #[.slice A c.nk ca, .slice A' c.ny cb], .agg #[.int .i64 a.y, .int .i64 a.m, .bool a.s, .int .i64 a.d], .agg #[.int .i64 b.y, .int .i64 b.m, .bool b.s, .int .i64 b.d]] w fun e w' => e = .returned (.tuple #[.int .i64 (c.schV a b), .int .i64 (c.in2E a b)]) ∧ Ext w w' := by
  rcases in2E_cases c a b with ⟨hv, hE⟩ | ⟨hv, hh, hE⟩ | ⟨hv, hh, hE⟩
  · have HE := Lib.hid hE
    have HV : Hid (c.schV a b = 0) := by unfold Hid Cal.schV; rw [hE]; rfl
    clear hE hv
    go_enter Tryd.func56, Tryd.ntmps56
    go_wp2_with (go_at_call 48; refine (checks_any _ _ _ _ c _ 2 2 (two a b) _ (hC.ext (by repeat (first | exact Ext.refl _ | (refine Ext.alloc ?_ _) | (refine Ext.trans ?_ (by assumption))))) (rows_two (t := 29) (by repeat (first | (refine Held.at _ _ _ _ ?_; (simp; done)) | refine Held.alloc ?_ _))) (by omega)).mono ?_; rw [checks_two, HE.out]; rintro e wq ⟨rfl, hq⟩)
    go_ret2
    exact ⟨by rw [HE.out, HV.out]; rfl, (by repeat (first | exact Ext.refl _ | (refine Ext.alloc ?_ _) | (refine Ext.trans ?_ (by assumption))))⟩
  · have HE := Lib.hid hE
    have HV : Hid (c.schV a b = 0) := by unfold Hid Cal.schV; rw [hE]; rfl
    clear hE hv
    go_enter Tryd.func56, Tryd.ntmps56
    go_wp2_with (go_at_call 48; refine (checks_any _ _ _ _ c _ 2 2 (two a b) _ (hC.ext (by repeat (first | exact Ext.refl _ | (refine Ext.alloc ?_ _) | (refine Ext.trans ?_ (by assumption))))) (rows_two (t := 29) (by repeat (first | (refine Held.at _ _ _ _ ?_; (simp; done)) | refine Held.alloc ?_ _))) (by omega)).mono ?_; rw [checks_two, HE.out]; rintro e wq ⟨rfl, hq⟩)
    go_ret2
    exact ⟨by rw [HE.out, HV.out]; rfl, (by repeat (first | exact Ext.refl _ | (refine Ext.alloc ?_ _) | (refine Ext.trans ?_ (by assumption))))⟩
  · have HE := Lib.hid hE
    have HV : Hid (c.schV a b = 30 * ((c.num b).2 - (c.num a).2) + b.d - a.d) := by unfold Hid Cal.schV; rw [hE]; rfl
    have HL := Lib.hid (valid_lg hv)
    have hny := valid_ny hv
    have HY := Lib.hid hny
    rw [Bool.and_eq_true] at hh
    have hda := has_day hh.1
    have hdb := has_day hh.2
    have HDa := Lib.hid hda
    have HDb := Lib.hid hdb
    obtain ⟨hda1, hda2⟩ := hda
    obtain ⟨hdb1, hdb2⟩ := hdb
    have hna := num_bd c a hda1 hda2
    have hnb := num_bd c b hdb1 hdb2
    obtain ⟨hna1, hna2, hna3, hna4⟩ := hna
    obtain ⟨hnb1, hnb2, hnb3, hnb4⟩ := hnb
    clear hE hv hh
    go_enter Tryd.func56, Tryd.ntmps56
    go_wp2_with (go_at_call 48; refine (checks_any _ _ _ _ c _ 2 2 (two a b) _ (hC.ext (by repeat (first | exact Ext.refl _ | (refine Ext.alloc ?_ _) | (refine Ext.trans ?_ (by assumption))))) (rows_two (t := 29) (by repeat (first | (refine Held.at _ _ _ _ ?_; (simp; done)) | refine Held.alloc ?_ _))) (by omega)).mono ?_; rw [checks_two, HE.out]; rintro e wq ⟨rfl, hq⟩; have hcb := (Held.ext (b := w.heap.size) (t := 25) (cs := #[.slice A c.nk ca, .slice A' c.ny cb]) (by repeat (first | (refine Held.at _ _ _ _ ?_; (simp; done)) | refine Held.alloc ?_ _)) hq); have hab := (Held.ext (b := w.heap.size + 1) (t := 29) (cs := #[.int .i64 a.y, .int .i64 a.m, .bool a.s, .int .i64 a.d]) (by repeat (first | (refine Held.at _ _ _ _ ?_; (simp; done)) | refine Held.alloc ?_ _)) hq); have hbb := (Held.ext (b := w.heap.size + 1 + 1) (t := 29) (cs := #[.int .i64 b.y, .int .i64 b.m, .bool b.s, .int .i64 b.d]) (by repeat (first | (refine Held.at _ _ _ _ ?_; (simp; done)) | refine Held.alloc ?_ _)) hq); obtain ⟨k0, k1⟩ := hcb.c2; obtain ⟨e0, e1, e2, e3⟩ := hab.c4)
    refine (number_any _ _ _ _ c a _ (hC.ext (by repeat (first | exact Ext.refl _ | (refine Ext.alloc ?_ _) | (refine Ext.trans ?_ (by assumption))))) HL.out HY.out HDa.out).mono ?_
    rintro e wn ⟨rfl, hn⟩
    obtain ⟨k0, k1⟩ := (hcb.ext hn).c2
    obtain ⟨g0, g1, g2, g3⟩ := (hbb.ext hn).c4
    go_wp2_with (fail)
    refine (number_any _ _ _ _ c b _ (hC.ext (by repeat (first | exact Ext.refl _ | (refine Ext.alloc ?_ _) | (refine Ext.trans ?_ (by assumption))))) HL.out HY.out HDb.out).mono ?_
    rintro e wm ⟨rfl, hm⟩
    obtain ⟨y0, y1, y2, y3⟩ := ((hab.ext hn).ext hm).c4
    obtain ⟨z0, z1, z2, z3⟩ := ((hbb.ext hn).ext hm).c4
    go_wp2
    go_ret2
    exact ⟨by rw [HE.out, HV.out]; rfl, (by repeat (first | exact Ext.refl _ | (refine Ext.alloc ?_ _) | (refine Ext.trans ?_ (by assumption))))⟩
end Go.Proofs.YthmjpbafbohelaaDoor

namespace Go.Proofs.YthmjpbafbohelaaDoor

theorem dayAt_mono (c : Cal) {i j : Nat} (h : i ≤ j) : c.dayAt i ≤ c.dayAt j := by
  induction j with
  | zero => obtain rfl : i = 0 := by omega
            exact Int.le_refl _
  | succ j ih =>
    rcases Nat.lt_or_ge j i with h' | h'
    · obtain rfl : i = j + 1 := by omega
      exact Int.le_refl _
    · have := ih h'
      have := days_bd (c.yr j)
      rw [Cal.dayAt]; omega
theorem runs_end (c : Cal) (i : Nat) : ∀ (l : List (Int × Bool)) (d : Int) (x : It), x ∈ runs i (c.yr i) d l → x.y = i ∧ d ≤ x.first ∧ x.first + x.len c ≤ d + (c.yr i).lens l
  | [], d, x, hx => by cases hx
  | p :: l, d, x, hx => by
    have h0 := lens_29 (c.yr i) l
    have h1 := len_29 (c.yr i) p.1 p.2
    rw [runs] at hx
    rw [Yr.lens]
    rcases List.mem_cons.1 hx with rfl | hx
    · refine ⟨rfl, Int.le_refl _, ?_⟩
      show d + (c.yr i).len p.1 p.2 ≤ _
      omega
    · have := runs_end c i l _ x hx
      omega
theorem itemsTo_end (c : Cal) : ∀ (k : Nat) (x : It), x ∈ c.itemsTo k → x.y < k ∧ c.dayAt x.y ≤ x.first ∧ x.first + x.len c ≤ c.dayAt (x.y + 1)
  | 0, x, hx => by cases hx
  | k + 1, x, hx => by
    rw [Cal.itemsTo, List.mem_append] at hx
    rcases hx with hx | hx
    · have := itemsTo_end c k x hx; omega
    · have h := runs_end c k _ _ x hx
      refine ⟨by omega, by rw [h.1]; exact h.2.1, by rw [h.1]; exact h.2.2⟩
theorem items_end {c : Cal} {x : It} (hx : x ∈ c.items) : 1 ≤ x.first ∧ x.first + x.len c ≤ c.dayAt c.ny := by
  have h := itemsTo_end c c.ny x hx
  have h1 := dayAt_mono c (i := 0) (j := x.y) (by omega)
  have h2 := dayAt_mono c (i := x.y + 1) (j := c.ny) (by omega)
  have h3 : c.dayAt 0 = 1 := rfl
  omega
theorem atFrom_some {c : Cal} {n : Int} {o : Dt} : ∀ {l : List It}, c.atFrom n l = some o → ∃ x, x ∈ l ∧ x.first ≤ n ∧ n - x.first < x.len c ∧ o = ⟨x.y, x.n, x.s, n - x.first + 1⟩
  | x :: l, h => by
    rw [Cal.atFrom] at h
    split at h
    · rename_i hx
      exact ⟨x, List.mem_cons_self .., hx.1, hx.2, by simpa using h.symm⟩
    · obtain ⟨y, hy, h1⟩ := atFrom_some h
      exact ⟨y, List.mem_cons_of_mem _ hy, h1⟩
theorem at_out {c : Cal} {n : Int} (h : n < 1 ∨ c.dayAt c.ny ≤ n) : c.at? n = none := by
  cases ho : c.at? n with
  | none => rfl
  | some o =>
    obtain ⟨x, hx, h1, h2, _⟩ := atFrom_some ho
    have := items_end hx
    omega
end Go.Proofs.YthmjpbafbohelaaDoor

namespace Go.Proofs.YthmjpbafbohelaaDoor
open Go Go.RowKit Go.Shelf
attribute [local go_sem] gv_yes Dt.val

theorem four_set {W : World} {b : Nat} {t : TypeId} {v0 v1 v2 v3 : Value} (h : Held W b t #[v0, v1, v2, v3]) (u0 u1 u2 u3 : Value) :
    ((((((W.setCell ⟨b, 0, none⟩ u0).setCell ⟨b, 1, none⟩ u1).setCell ⟨b, 2, none⟩ u2).setCell ⟨b, 3, none⟩ u3).cell? ⟨b, 0, none⟩ = some u0) ∧ (((((W.setCell ⟨b, 0, none⟩ u0).setCell ⟨b, 1, none⟩ u1).setCell ⟨b, 2, none⟩ u2).setCell ⟨b, 3, none⟩ u3).cell? ⟨b, 1, none⟩ = some u1) ∧
      (((((W.setCell ⟨b, 0, none⟩ u0).setCell ⟨b, 1, none⟩ u1).setCell ⟨b, 2, none⟩ u2).setCell ⟨b, 3, none⟩ u3).cell? ⟨b, 2, none⟩ = some u2) ∧ (((((W.setCell ⟨b, 0, none⟩ u0).setCell ⟨b, 1, none⟩ u1).setCell ⟨b, 2, none⟩ u2).setCell ⟨b, 3, none⟩ u3).cell? ⟨b, 3, none⟩ = some u3)) ∧
    ∀ wd, Ext wd W → wd.heap.size ≤ b → Ext wd ((((W.setCell ⟨b, 0, none⟩ u0).setCell ⟨b, 1, none⟩ u1).setCell ⟨b, 2, none⟩ u2).setCell ⟨b, 3, none⟩ u3) :=
  ⟨(held_set4 h u0 u1 u2 u3).c4, fun _ e h1 => (((e.setCell h1 _).setCell h1 _).setCell h1 _).setCell h1 _⟩
set_option maxRecDepth 100000 in
set_option maxHeartbeats 1000000 in
theorem atX_any (A A' : Option Addr) (ca cb : Nat) (c : Cal) (n : Int) (w : World) (hC : CalAt w A ca A' cb c) (hn1 : -9223372036854775808 ≤ n) (hn2 : n ≤ 9223372036854775807) :
    Calls Tryd.prog 11 #[.agg #[.slice A c.nk ca, .slice A' c.ny cb], .int .i64 n] w fun e w' => e = .returned (.tuple #[(c.atV n).val, .int .i64 (c.atE n)]) ∧ Ext w w' := by
  cases hv : c.valid
  · have HE := Lib.hid (chk_no hv)
    have HV : Hid (c.atV n = zeroDt) := by unfold Hid Cal.atV; rw [hv]; rfl
    have HR : Hid (c.atE n = 70) := by unfold Hid Cal.atE; rw [hv]; rfl
    clear hv
    go_enter Tryd.func11, Tryd.ntmps11
    go_wp2_with (go_at_call 48; refine (checks_any _ _ _ _ c none 0 0 (fun _ => ⟨0, 0, false, 0⟩) _ (hC.ext (by repeat (first | exact Ext.refl _ | (refine Ext.alloc ?_ _) | (refine Ext.trans ?_ (by assumption))))) (rows_none _ _ _) (by omega)).mono ?_; rw [checks_none, HE.out]; rintro e wq ⟨rfl, hq⟩; have hrb := (Held.ext (b := w.heap.size + 1) (t := 29) (cs := #[.int .i64 0, .int .i64 0, .bool false, .int .i64 0]) (by repeat (first | (refine Held.at _ _ _ _ ?_; (simp; done)) | refine Held.alloc ?_ _)) hq); obtain ⟨r0, r1, r2, r3⟩ := hrb.c4; have f0 := hrb.frozen 0; have f1 := hrb.frozen 1; have f2 := hrb.frozen 2; have f3 := hrb.frozen 3)
    obtain ⟨⟨c0, c1, c2, c3⟩, gE⟩ := four_set hrb (.int .i64 0) (.int .i64 0) (.bool false) (.int .i64 0)
    refine bodyPost_ret (v := .tuple #[.agg #[.int .i64 0, .int .i64 0, .bool false, .int .i64 0], .int .i64 70]) (by simp [results, Tryd.results11, go_sem, c0, c1, c2, c3]) rfl ⟨by rw [HV.out, HR.out]; rfl, gE w (by repeat (first | exact Ext.refl _ | (refine Ext.alloc ?_ _) | (refine Ext.trans ?_ (by assumption)))) (by omega)⟩
  · have HE := Lib.hid (chk_yes hv)
    have HL := Lib.hid (valid_lg hv)
    have HY := Lib.hid (valid_ny hv)
    have HV : Hid (c.atV n = (c.at? n).getD zeroDt) := by unfold Hid Cal.atV; rw [hv]; rfl
    have HR : Hid (c.atE n = atOk (c.at? n)) := by unfold Hid Cal.atE; rw [hv]; rfl
    clear hv
    go_enter Tryd.func11, Tryd.ntmps11
    go_wp2_with (go_at_call 48; refine (checks_any _ _ _ _ c none 0 0 (fun _ => ⟨0, 0, false, 0⟩) _ (hC.ext (by repeat (first | exact Ext.refl _ | (refine Ext.alloc ?_ _) | (refine Ext.trans ?_ (by assumption))))) (rows_none _ _ _) (by omega)).mono ?_; rw [checks_none, HE.out]; rintro e wq ⟨rfl, hq⟩; obtain ⟨k0, k1⟩ := (Held.ext (b := w.heap.size) (t := 25) (cs := #[.slice A c.nk ca, .slice A' c.ny cb]) (by repeat (first | (refine Held.at _ _ _ _ ?_; (simp; done)) | refine Held.alloc ?_ _)) hq).c2; have hrb := (Held.ext (b := w.heap.size + 1) (t := 29) (cs := #[.int .i64 0, .int .i64 0, .bool false, .int .i64 0]) (by repeat (first | (refine Held.at _ _ _ _ ?_; (simp; done)) | refine Held.alloc ?_ _)) hq); obtain ⟨r0, r1, r2, r3⟩ := hrb.c4; have f0 := hrb.frozen 0; have f1 := hrb.frozen 1; have f2 := hrb.frozen 2; have f3 := hrb.frozen 3)
    refine (at_any _ _ _ _ c n _ (hC.ext (by repeat (first | exact Ext.refl _ | (refine Ext.alloc ?_ _) | (refine Ext.trans ?_ (by assumption))))) HL.out HY.out hn1 hn2).mono ?_
    rintro e wn ⟨rfl, hn⟩
    clear r0 r1 r2 r3 f0 f1 f2 f3
    have hrb := hrb.ext hn
    obtain ⟨r0, r1, r2, r3⟩ := hrb.c4
    have f0 := hrb.frozen 0
    have f1 := hrb.frozen 1
    have f2 := hrb.frozen 2
    have f3 := hrb.frozen 3
    generalize (c.at? n).getD zeroDt = dd at *
    generalize atOk (c.at? n) = ee at *
    go_wp2
    obtain ⟨⟨c0, c1, c2, c3⟩, gE⟩ := four_set hrb (.int .i64 dd.y) (.int .i64 dd.m) (.bool dd.s) (.int .i64 dd.d)
    refine bodyPost_ret (v := .tuple #[.agg #[.int .i64 dd.y, .int .i64 dd.m, .bool dd.s, .int .i64 dd.d], .int .i64 ee]) (by simp [results, Tryd.results11, go_sem, c0, c1, c2, c3]) rfl ⟨by rw [HV.out, HR.out]; rfl, gE w (by repeat (first | exact Ext.refl _ | (refine Ext.alloc ?_ _) | (refine Ext.trans ?_ (by assumption)))) (by omega)⟩
end Go.Proofs.YthmjpbafbohelaaDoor

namespace Go.Proofs.YthmjpbafbohelaaDoor
open Go Go.RowKit Go.Shelf
attribute [local go_sem] gv_yes

theorem Held.c7 {W : World} {b : Nat} {t : TypeId} {v0 v1 v2 v3 v4 v5 v6 : Value} (h : Held W b t #[v0, v1, v2, v3, v4, v5, v6]) : W.cell? ⟨b, 0, none⟩ = some v0 ∧ W.cell? ⟨b, 1, none⟩ = some v1 ∧ W.cell? ⟨b, 2, none⟩ = some v2 ∧ W.cell? ⟨b, 3, none⟩ = some v3 ∧ W.cell? ⟨b, 4, none⟩ = some v4 ∧ W.cell? ⟨b, 5, none⟩ = some v5 ∧ W.cell? ⟨b, 6, none⟩ = some v6 :=
  ⟨h.cell 0, h.cell 1, h.cell 2, h.cell 3, h.cell 4, h.cell 5, h.cell 6⟩
theorem ok_af {t : Tr} (h : t.ok = true) : 0 ≤ t.af ∧ t.af ≤ 3 := by
  simp only [Tr.ok, Bool.and_eq_true, decide_eq_true_eq] at h
  omega
theorem spansAt_nil (w : World) : SpansAt w (.slice none 0 0) [] := ⟨none, 0, rfl, fun h => absurd h (by simp), Nat.le_refl _, by decide⟩
set_option maxRecDepth 100000 in
set_option maxHeartbeats 1000000 in
theorem spansX_any (A A' : Option Addr) (ca cb : Nat) (c : Cal) (t : Tr) (w : World) (hC : CalAt w A ca A' cb c) :
    Calls Tryd.prog 44 #[.agg #[.slice A c.nk ca, .slice A' c.ny cb], .agg #[.int .i64 t.d, .bool t.more, .int .i64 t.m, .bool t.s, .string t.nm, .int .i64 t.af, .string t.kg]] w fun e w' => ∃ v, e = .returned (.tuple #[v, .int .i64 (c.spE t)]) ∧ Ext w w' ∧ SpansAt w' v (c.spV t) := by
  cases hv : c.valid
  · have HE := Lib.hid (chk_no hv)
    have HR : Hid (c.spE t = 70) := by unfold Hid Cal.spE; rw [hv]; rfl
    have HV : Hid (c.spV t = []) := by unfold Hid Cal.spV; rw [HR.out]; rfl
    clear hv
    go_enter Tryd.func44, Tryd.ntmps44
    go_wp2_with (go_at_call 48; refine (checks_any _ _ _ _ c none 0 0 (fun _ => ⟨0, 0, false, 0⟩) _ (hC.ext (by repeat (first | exact Ext.refl _ | (refine Ext.alloc ?_ _) | (refine Ext.trans ?_ (by assumption))))) (rows_none _ _ _) (by omega)).mono ?_; rw [checks_none, HE.out]; rintro e wq ⟨rfl, hq⟩)
    go_ret2
    exact ⟨_, by rw [HR.out]; rfl, (by repeat (first | exact Ext.refl _ | (refine Ext.alloc ?_ _) | (refine Ext.trans ?_ (by assumption)))), by rw [HV.out]; exact spansAt_nil _⟩
  · have HE := Lib.hid (chk_yes hv)
    have HL := Lib.hid (valid_lg hv)
    have HY := Lib.hid (valid_ny hv)
    have HK := Lib.hid (valid_kg hv)
    cases hk : t.ok
    · have HO := Lib.hid hk
      have HR : Hid (c.spE t = 72) := by unfold Hid Cal.spE trChk; rw [hv, hk]; rfl
      have HV : Hid (c.spV t = []) := by unfold Hid Cal.spV; rw [HR.out]; rfl
      clear hv hk
      go_enter Tryd.func44, Tryd.ntmps44
      go_wp2_with (first | (go_at_call 48; refine (checks_any _ _ _ _ c none 0 0 (fun _ => ⟨0, 0, false, 0⟩) _ (hC.ext (by repeat (first | exact Ext.refl _ | (refine Ext.alloc ?_ _) | (refine Ext.trans ?_ (by assumption))))) (rows_none _ _ _) (by omega)).mono ?_; rw [checks_none, HE.out]; rintro e wq ⟨rfl, hq⟩; have htb := (Held.ext (b := w.heap.size + 1) (t := 34) (cs := #[.int .i64 t.d, .bool t.more, .int .i64 t.m, .bool t.s, .string t.nm, .int .i64 t.af, .string t.kg]) (by repeat (first | (refine Held.at _ _ _ _ ?_; (simp; done)) | refine Held.alloc ?_ _)) hq); obtain ⟨t0, t1, t2, t3, t4, t5, t6⟩ := htb.c7) | (go_at_call 50; refine (validTrace_any t _).mono ?_; rw [HO.out]; rintro e wn ⟨rfl, hn⟩))
      go_ret2
      exact ⟨_, by rw [HR.out]; rfl, (by repeat (first | exact Ext.refl _ | (refine Ext.alloc ?_ _) | (refine Ext.trans ?_ (by assumption)))), by rw [HV.out]; exact spansAt_nil _⟩
    · have HO := Lib.hid hk
      have HA := Lib.hid (ok_af hk)
      have HR : Hid (c.spE t = 0) := by unfold Hid Cal.spE trChk; rw [hv, hk]; rfl
      have HV : Hid (c.spV t = c.spans t) := by unfold Hid Cal.spV; rw [HR.out]; rfl
      clear hv hk
      go_enter Tryd.func44, Tryd.ntmps44
      go_wp2_with (first | (go_at_call 48; refine (checks_any _ _ _ _ c none 0 0 (fun _ => ⟨0, 0, false, 0⟩) _ (hC.ext (by repeat (first | exact Ext.refl _ | (refine Ext.alloc ?_ _) | (refine Ext.trans ?_ (by assumption))))) (rows_none _ _ _) (by omega)).mono ?_; rw [checks_none, HE.out]; rintro e wq ⟨rfl, hq⟩; have hcb := (Held.ext (b := w.heap.size) (t := 25) (cs := #[.slice A c.nk ca, .slice A' c.ny cb]) (by repeat (first | (refine Held.at _ _ _ _ ?_; (simp; done)) | refine Held.alloc ?_ _)) hq); obtain ⟨k0, k1⟩ := hcb.c2; have htb := (Held.ext (b := w.heap.size + 1) (t := 34) (cs := #[.int .i64 t.d, .bool t.more, .int .i64 t.m, .bool t.s, .string t.nm, .int .i64 t.af, .string t.kg]) (by repeat (first | (refine Held.at _ _ _ _ ?_; (simp; done)) | refine Held.alloc ?_ _)) hq); obtain ⟨t0, t1, t2, t3, t4, t5, t6⟩ := htb.c7) | (go_at_call 50; refine (validTrace_any t _).mono ?_; rw [HO.out]; rintro e wn ⟨rfl, hn⟩; obtain ⟨k0, k1⟩ := (hcb.ext hn).c2; obtain ⟨t0, t1, t2, t3, t4, t5, t6⟩ := (htb.ext hn).c7))
      refine (spans_any _ _ _ _ c t _ (hC.ext (by repeat (first | exact Ext.refl _ | (refine Ext.alloc ?_ _) | (refine Ext.trans ?_ (by assumption))))) HL.out HY.out HK.out HA.out.1 HA.out.2).mono ?_
      rintro e wm ⟨v, rfl, hm, hS⟩
      go_wp2
      go_ret2
      exact ⟨_, by rw [HR.out]; rfl, (by repeat (first | exact Ext.refl _ | (refine Ext.alloc ?_ _) | (refine Ext.trans ?_ (by assumption)))), by rw [HV.out]; exact hS⟩
end Go.Proofs.YthmjpbafbohelaaDoor

namespace Go.Proofs.YthmjpbafbohelaaDoor
open Go Go.RowKit Go.Shelf
attribute [local go_sem] gv_yes

/-! ### The earliest and the latest days -/
def firstFrom : List Sp → Int → Int
  | [], _ => 0
  | s :: l, e => if e ≤ s.b then max s.a e else firstFrom l e
def lastTo (e : Int) (l : List Sp) : Int := l.foldl (fun acc s => if s.a ≤ e then min s.b e else acc) 0
def early (sp : Nat → List Sp) : Nat → Int
  | 0 => 1
  | k + 1 => firstFrom (sp k) (early sp k)
def lateD (sp : Nat → List Sp) (n : Nat) : Nat → Int
  | 0 => 156000
  | j + 1 => lastTo (lateD sp n j) (sp (n - 1 - j))
def late (sp : Nat → List Sp) (n i : Nat) : Int := lateD sp n (n - i)
def serFail (sp : Nat → List Sp) (n : Nat) : Bool := (List.range n).any fun k => decide (early sp (k + 1) = 0)
def serOk (f : Nat → Tr) (n : Nat) : Bool := (List.range n).all fun k => (f k).ok
def Cal.serE (c : Cal) (f : Nat → Tr) (n : Nat) : Int :=
  if c.valid then (if 64 < n then 3 else if serOk f n then (if serFail (fun i => c.spans (f i)) n then 73 else 0) else 72) else 70
def serL (sp : Nat → List Sp) (n : Nat) : List Sp := (List.range n).map fun i => ⟨early sp (i + 1), late sp n i⟩
def Cal.serV (c : Cal) (f : Nat → Tr) (n : Nat) : List Sp := if c.serE f n = 0 then serL (fun i => c.spans (f i)) n else []

theorem run_make_cells {P : Program} (t e : TypeId) (i : TypeInfo) (z : Value) (ht : P.underlying t = some (.slice e)) (hi : P.info? e = some i) (hz : i.zero = some z)
    (kl kc : IntKind) (n : Nat) (hbytes : i.bytes * n ≤ 281474976710656) (h63 : n ≤ 9223372036854775807) (w : World) :
    (Instr.makeSlice t (.int kl (n : Int)) (.int kc (n : Int))).run P w = .ok (.slice (some ⟨w.heap.size, 0, none⟩) n n) (w.alloc (.cells (madeCells z.cells (n * i.size)) e)) := by
  have h : ((i.bytes * n : Nat) : Int) ≤ 281474976710656 := by omega
  rw [Int.natCast_mul] at h
  have hr := run_make (P := P) w t e i z ht hi hz kl kc n n (by omega) (Int.le_refl _) h (by omega)
  simpa only [Int.toNat_natCast] using hr
theorem info_spans : (Tryd.prog.info? 41).map (fun i => (i.zero, i.size, i.bytes)) = some (some (.slice none 0 0), 1, 24) := by kernel_rfl
theorem Tr.row {w : World} {B : Option Addr} {n : Nat} {f : Nat → Tr} (h : RowsAt w B n 7 (fun i => (f i).cells)) {k : Nat} (hk : k < n) :
    ∃ b off, B = some ⟨b, off, none⟩ ∧ b < w.heap.size ∧ w.cell? ⟨b, off + k * 7, none⟩ = some (.int .i64 (f k).d) ∧ w.cell? ⟨b, off + k * 7 + 1, none⟩ = some (.bool (f k).more) ∧ w.cell? ⟨b, off + k * 7 + 2, none⟩ = some (.int .i64 (f k).m) ∧ w.cell? ⟨b, off + k * 7 + 3, none⟩ = some (.bool (f k).s) ∧
      w.cell? ⟨b, off + k * 7 + 4, none⟩ = some (.string (f k).nm) ∧ w.cell? ⟨b, off + k * 7 + 5, none⟩ = some (.int .i64 (f k).af) ∧ w.cell? ⟨b, off + k * 7 + 6, none⟩ = some (.string (f k).kg) := by
  obtain ⟨b, off, hB, hb, hc⟩ := h (by omega)
  exact ⟨b, off, hB, hb, by simpa using hc k 0 _ hk rfl, hc k 1 _ hk rfl, hc k 2 _ hk rfl, hc k 3 _ hk rfl, hc k 4 _ hk rfl, hc k 5 _ hk rfl, hc k 6 _ hk rfl⟩
def OksTo (f : Nat → Tr) (k : Nat) : Prop := ∀ i, i < k → (f i).ok = true
theorem serOk_no {f : Nat → Tr} {n k : Nat} (hk : k < n) (h : (f k).ok = false) : serOk f n = false := by
  rw [serOk, List.all_eq_false]; exact ⟨k, by simpa using hk, by simp [h]⟩
theorem serOk_yes {f : Nat → Tr} {n : Nat} (h : OksTo f n) : serOk f n = true := by
  rw [serOk, List.all_eq_true]; intro i hi; exact h i (by simpa using hi)
theorem ownsRow_ext {w w' : World} {base size n : Nat} {e : TypeId} {v : Value} {xs : List Value} (h : w.ownsRow base e size v n xs) (x : Ext w w') : w'.ownsRow base e size v n xs := h.kept (grown_of_ext x) (by
  rcases h.2 with ⟨rfl, _⟩ | ⟨g, cap, cur, rfl, _⟩
  · exact .inl rfl
  · exact .inr (by simp [Value.ownBlock]))
/-- The cells of n spans. -/
def outF (F L : Nat → Int) (j : Nat) : Value := if j % 2 = 0 then .int .i64 (F (j / 2)) else .int .i64 (L (j / 2))
theorem rowIs_madeSpan (w : World) (n : Nat) : (w.alloc (.cells (madeCells #[.int .i64 0, .int .i64 0] (n * 2)) 47)).rowIs w.heap.size 47 (n * 2) (outF (fun _ => 0) (fun _ => 0)) := by
  have h := World.rowIs_alloc w (madeCells #[.int .i64 0, .int .i64 0] (n * 2)) 47 (outF (fun _ => 0) (fun _ => 0)) (fun i hi => by
    rw [size_madeCells] at hi
    have h2 : i % 2 = 0 ∨ i % 2 = 1 := by omega
    rcases h2 with h2 | h2 <;> simp [madeCells, hi, outF, h2])
  rwa [size_madeCells] at h
theorem outF_first (F L : Nat → Int) (i : Nat) : outF F L (i * 2) = .int .i64 (F i) := by
  unfold outF; rw [if_pos (by omega), show i * 2 / 2 = i by omega]
theorem outF_last (F L : Nat → Int) (i : Nat) : outF F L (i * 2 + 1) = .int .i64 (L i) := by
  unfold outF; rw [if_neg (by omega), show (i * 2 + 1) / 2 = i by omega]
theorem rowIs_first {w : World} {b : Nat} {t : TypeId} {n : Nat} {F L : Nat → Int} (h : w.rowIs b t (n * 2) (outF F L)) (i : Nat) (v : Int) : (w.setCell ⟨b, i * 2, none⟩ (.int .i64 v)).rowIs b t (n * 2) (outF (fun j => if j = i then v else F j) L) :=
  (h.set (i * 2) (.int .i64 v)).congr fun j _ => by
    unfold outF
    by_cases e : j = i * 2
    · subst e; rw [if_pos rfl, if_pos (by omega)]; dsimp only; rw [if_pos (by omega)]
    · rw [if_neg e]
      by_cases h2 : j % 2 = 0
      · rw [if_pos h2, if_pos h2]; dsimp only; rw [if_neg (by omega)]
      · rw [if_neg h2, if_neg h2]
theorem rowIs_last {w : World} {b : Nat} {t : TypeId} {n : Nat} {F L : Nat → Int} (h : w.rowIs b t (n * 2) (outF F L)) (i : Nat) (v : Int) : (w.setCell ⟨b, i * 2 + 1, none⟩ (.int .i64 v)).rowIs b t (n * 2) (outF F (fun j => if j = i then v else L j)) :=
  (h.set (i * 2 + 1) (.int .i64 v)).congr fun j _ => by
    unfold outF
    by_cases e : j = i * 2 + 1
    · subst e; rw [if_pos rfl, if_neg (by omega)]; dsimp only; rw [if_pos (by omega)]
    · rw [if_neg e]
      by_cases h2 : j % 2 = 0
      · rw [if_pos h2, if_pos h2]
      · rw [if_neg h2, if_neg h2]; dsimp only; rw [if_neg (by omega)]
def NoFail (sp : Nat → List Sp) (k : Nat) : Prop := ∀ j, j < k → early sp (j + 1) ≠ 0
def Before (l : List Sp) (e : Int) (m : Nat) : Prop := ∀ j, j < m → (l.getD j ⟨0, 0⟩).b < e
theorem before_snoc {l : List Sp} {e : Int} {m : Nat} (h : Before l e m) (hm : (l.getD m ⟨0, 0⟩).b < e) : Before l e (m + 1) := fun j hj => by
  rcases Nat.lt_or_ge j m with h' | h'
  · exact h j h'
  · rw [show j = m from by omega]; exact hm
theorem firstFrom_none {e : Int} : ∀ {l : List Sp}, Before l e l.length → firstFrom l e = 0
  | [], _ => rfl
  | s :: l, h => by
    have h0 := h 0 (by simp)
    simp only [List.getD_cons_zero] at h0
    rw [firstFrom, if_neg (by omega)]
    exact firstFrom_none (fun j hj => by have := h (j + 1) (by simp; omega); simpa using this)
theorem firstFrom_here {e : Int} : ∀ {l : List Sp} {m : Nat}, m < l.length → Before l e m → e ≤ (l.getD m ⟨0, 0⟩).b → firstFrom l e = max (l.getD m ⟨0, 0⟩).a e
  | s :: l, 0, _, _, he => by
    simp only [List.getD_cons_zero] at he ⊢
    rw [firstFrom, if_pos he]
  | s :: l, m + 1, hm, hB, he => by
    have h0 := hB 0 (by omega)
    simp only [List.getD_cons_zero] at h0
    rw [firstFrom, if_neg (by omega)]
    simp only [List.getD_cons_succ] at he ⊢
    exact firstFrom_here (by simpa using hm) (fun j hj => by have := hB (j + 1) (by omega); simpa using this) he
theorem spans_cell {w : World} {A : Option Addr} {cap m : Nat} {l : List Sp} (h : SpansAt w (.slice A l.length cap) l) (hm : m < l.length) :
    ∃ b off, A = some ⟨b, off, none⟩ ∧ b < w.heap.size ∧ w.cell? ⟨b, off + m * 2, none⟩ = some (.int .i64 (l.getD m ⟨0, 0⟩).a) ∧ w.cell? ⟨b, off + m * 2 + 1, none⟩ = some (.int .i64 (l.getD m ⟨0, 0⟩).b) := by
  obtain ⟨A', cap', e, hr, _, _⟩ := h
  injection e with e1 e2 e3
  subst e1
  obtain ⟨b, off, hA, hb, hc⟩ := hr (by omega)
  exact ⟨b, off, hA, hb, by simpa using hc m 0 _ hm rfl, hc m 1 _ hm rfl⟩
theorem noFail_snoc {sp : Nat → List Sp} {k : Nat} (h : NoFail sp k) (hk : early sp (k + 1) ≠ 0) : NoFail sp (k + 1) := fun j hj => by
  rcases Nat.lt_or_ge j k with h' | h'
  · exact h j h'
  · rw [show j = k from by omega]; exact hk
theorem serFail_yes {sp : Nat → List Sp} {n k : Nat} (hk : k < n) (h : early sp (k + 1) = 0) : serFail sp n = true := by
  rw [serFail, List.any_eq_true]; exact ⟨k, by simpa using hk, by simp [h]⟩
theorem serFail_no {sp : Nat → List Sp} {n : Nat} (h : NoFail sp n) : serFail sp n = false := by
  rw [serFail, List.any_eq_false]; intro k hk; simpa using h k (by simpa using hk)
theorem late_top (sp : Nat → List Sp) (n : Nat) : late sp n n = 156000 := by unfold late; rw [Nat.sub_self]; rfl
theorem late_step {sp : Nat → List Sp} {n j : Nat} (hj : j < n) : late sp n j = lastTo (late sp n (j + 1)) (sp j) := by
  unfold late
  rw [show n - j = (n - (j + 1)) + 1 by omega, lateD, show n - 1 - (n - (j + 1)) = j by omega]
/-- The latest days from j on. -/
def lateF (sp : Nat → List Sp) (n j i : Nat) : Int := if j ≤ i ∧ i < n then late sp n i else 0
theorem lateF_top (sp : Nat → List Sp) (n : Nat) : lateF sp n n = fun _ => 0 := by funext i; unfold lateF; rw [if_neg (by omega)]
theorem lastTo_step (e : Int) (l : List Sp) (m : Nat) (hm : m < l.length) : lastTo e (l.take (m + 1)) = if (l.getD m ⟨0, 0⟩).a ≤ e then min (l.getD m ⟨0, 0⟩).b e else lastTo e (l.take m) := by
  have h : l.getD m ⟨0, 0⟩ = l[m] := by rw [List.getD_eq_getElem?_getD, List.getElem?_eq_getElem hm]; rfl
  rw [h, List.take_succ_eq_append_getElem hm, lastTo, List.foldl_append]; rfl
def inL (sp : Nat → List Sp) (n j m i : Nat) : Int := if i = j then lastTo (late sp n (j + 1)) ((sp j).take m) else lateF sp n (j + 1) i
theorem inL_zero (sp : Nat → List Sp) (n j : Nat) : inL sp n j 0 = lateF sp n (j + 1) := by
  funext i
  unfold inL
  by_cases e : i = j
  · subst e; rw [if_pos rfl]; unfold lateF; rw [if_neg (by omega)]; rfl
  · rw [if_neg e]
theorem inL_full {sp : Nat → List Sp} {n j : Nat} (hj : j < n) : inL sp n j (sp j).length = lateF sp n j := by
  funext i
  unfold inL
  rw [List.take_length, ← late_step hj]
  unfold lateF
  by_cases e : i = j
  · subst e; rw [if_pos rfl, if_pos ⟨by omega, hj⟩]
  · rw [if_neg e]
    by_cases h : j + 1 ≤ i ∧ i < n
    · rw [if_pos h, if_pos (by omega)]
    · rw [if_neg h, if_neg (by omega)]
theorem inL_set {sp : Nat → List Sp} {n j m : Nat} {v : Int} (h : lastTo (late sp n (j + 1)) ((sp j).take (m + 1)) = v) : (fun i => if i = j then v else inL sp n j m i) = inL sp n j (m + 1) := by
  funext i
  unfold inL
  by_cases e : i = j
  · rw [if_pos e, if_pos e, h]
  · rw [if_neg e, if_neg e, if_neg e]
theorem inL_same {sp : Nat → List Sp} {n j m : Nat} (h : lastTo (late sp n (j + 1)) ((sp j).take (m + 1)) = lastTo (late sp n (j + 1)) ((sp j).take m)) : inL sp n j m = inL sp n j (m + 1) := by
  funext i
  unfold inL
  rw [h]
theorem lateF_at {sp : Nat → List Sp} {n j : Nat} (h : j < n) : lateF sp n j j = late sp n j := by unfold lateF; rw [if_pos ⟨Nat.le_refl _, h⟩]
theorem serL_at {w : World} {O n : Nat} {sp : Nat → List Sp} (h : w.rowIs O 47 (n * 2) (outF (fun j => if j < n then early sp (j + 1) else 0) (lateF sp n 0))) (hn : n ≤ maxLen) : SpansAt w (.slice (some ⟨O, 0, none⟩) n n) (serL sp n) := by
  have hl : (serL sp n).length = n := by simp [serL]
  refine ⟨_, n, by rw [hl], fun _ => ⟨O, 0, rfl, h.lt, fun i j v hi hv => ?_⟩, by rw [hl]; exact Nat.le_refl _, hn⟩
  rw [hl] at hi
  have hg : (serL sp n).getD i ⟨0, 0⟩ = ⟨early sp (i + 1), late sp n i⟩ := by simp [serL, List.getD_eq_getElem?_getD, List.getElem?_map, List.getElem?_range hi]
  simp only [hg] at hv
  have hj : j < 2 := (List.getElem?_eq_some_iff.1 hv).1
  rw [show 0 + i * 2 + j = i * 2 + j by omega, h.cell (by omega)]
  match j, hj, hv with
  | 0, _, hv => rw [Nat.add_zero, outF_first, if_pos hi]; exact hv
  | 1, _, hv => rw [outF_last]; unfold lateF; rw [if_pos ⟨by omega, hi⟩]; exact hv
structure SerR (wo wr : World) (O n k : Nat) (sp : Nat → List Sp) (F L : Nat → Int) (vs : Nat → Value) : Prop where
  e : Ext wo wr
  z : O + 1 + 1 ≤ wr.heap.size
  o : wr.rowIs O 47 (n * 2) (outF F L)
  d : wr.rowIs (O + 1) 41 n (fun j => if j < k then vs j else .slice none 0 0)
  r : ∀ j, j < k → wr.ownsRow (O + 1 + 1) 47 2 (vs j) (sp j).length (spc (sp j))
namespace SerR
variable {wo wr w' : World} {O n k : Nat} {sp : Nat → List Sp} {F L : Nat → Int} {vs : Nat → Value}
theorem ext (h : SerR wo wr O n k sp F L vs) (e : Ext wr w') : SerR wo w' O n k sp F L vs :=
  ⟨h.e.trans e, Nat.le_trans h.z e.size, h.o.of_block (e.block h.o.lt), h.d.of_block (e.block h.d.lt), fun j hj => ownsRow_ext (h.r j hj) e⟩
theorem first (h : SerR wo wr O n k sp F L vs) (hO : wo.heap.size ≤ O) (i : Nat) (v : Int) : SerR wo (wr.setCell ⟨O, i * 2, none⟩ (.int .i64 v)) O n k sp (fun j => if j = i then v else F j) L vs :=
  ⟨h.e.setCell (p := ⟨O, i * 2, none⟩) hO _, by simpa [World.setCell] using h.z, rowIs_first h.o i v, h.d.setOther (a := ⟨O, i * 2, none⟩) (by show O + 1 ≠ O; omega) _, fun j hj => ownsRow_setCell_below (h.r j hj) (a := ⟨O, i * 2, none⟩) (by show O < O + 1 + 1; omega) _⟩
theorem last (h : SerR wo wr O n k sp F L vs) (hO : wo.heap.size ≤ O) (i : Nat) (v : Int) : SerR wo (wr.setCell ⟨O, i * 2 + 1, none⟩ (.int .i64 v)) O n k sp F (fun j => if j = i then v else L j) vs :=
  ⟨h.e.setCell (p := ⟨O, i * 2 + 1, none⟩) hO _, by simpa [World.setCell] using h.z, rowIs_last h.o i v, h.d.setOther (a := ⟨O, i * 2 + 1, none⟩) (by show O + 1 ≠ O; omega) _, fun j hj => ownsRow_setCell_below (h.r j hj) (a := ⟨O, i * 2 + 1, none⟩) (by show O < O + 1 + 1; omega) _⟩
theorem days (h : SerR wo wr O n k sp F L vs) (hO : wo.heap.size ≤ O) {v : Value} (hr : wr.ownsRow (O + 1 + 1) 47 2 v (sp k).length (spc (sp k))) :
    SerR wo (wr.setCell ⟨O + 1, k, none⟩ v) O n (k + 1) sp F L (fun j => if j = k then v else vs j) := by
  refine ⟨h.e.setCell (p := ⟨O + 1, k, none⟩) (show wo.heap.size ≤ O + 1 by omega) _, by simpa [World.setCell] using h.z, h.o.setOther (a := ⟨O + 1, k, none⟩) (by show O ≠ O + 1; omega) _, (h.d.set k v).congr fun j _ => ?_, fun j hj => ?_⟩
  · by_cases e : j = k
    · subst e; rw [if_pos rfl, if_pos (by omega), if_pos rfl]
    · rw [if_neg e]
      by_cases h2 : j < k
      · rw [if_pos h2, if_pos (by omega), if_neg e]
      · rw [if_neg h2, if_neg (by omega)]
  · by_cases e : j = k
    · subst e; rw [if_pos rfl]; exact ownsRow_setCell_below hr (a := ⟨O + 1, j, none⟩) (by show O + 1 < O + 1 + 1; omega) _
    · rw [if_neg e]; exact ownsRow_setCell_below (h.r j (by omega)) (a := ⟨O + 1, k, none⟩) (by show O + 1 < O + 1 + 1; omega) _
theorem upF {F' : Nat → Int} (h : SerR wo wr O n k sp F L vs) (e : F = F') : SerR wo wr O n k sp F' L vs := e ▸ h
theorem upL {L' : Nat → Int} (h : SerR wo wr O n k sp F L vs) (e : L = L') : SerR wo wr O n k sp F L' vs := e ▸ h
end SerR
theorem serF_step {sp : Nat → List Sp} {k : Nat} {v : Int} (h : early sp (k + 1) = v) : (fun j => if j = k then v else if j < k then early sp (j + 1) else 0) = fun j => if j < k + 1 then early sp (j + 1) else 0 := by
  funext j
  by_cases e : j = k
  · subst e; rw [if_pos rfl, if_pos (by omega), h]
  · rw [if_neg e]
    by_cases h2 : j < k
    · rw [if_pos h2, if_pos (by omega)]
    · rw [if_neg h2, if_neg (by omega)]
set_option maxRecDepth 100000 in
set_option maxHeartbeats 8000000 in
theorem seriesX_any (A A' : Option Addr) (ca cb : Nat) (c : Cal) (B : Option Addr) (n cap : Nat) (f : Nat → Tr) (w : World) (hC : CalAt w A ca A' cb c) (hT : RowsAt w B n 7 (fun i => (f i).cells)) (hn : n ≤ 9223372036854775807) :
    Calls Tryd.prog 16 #[.agg #[.slice A c.nk ca, .slice A' c.ny cb], .slice B n cap] w fun e w' => ∃ v, e = .returned (.tuple #[v, .int .i64 (c.serE f n)]) ∧ Ext w w' ∧ SpansAt w' v (c.serV f n) := by
  cases hv : c.valid
  · have HE := Lib.hid (chk_no hv)
    have HR : Hid (c.serE f n = 70) := by unfold Hid Cal.serE; rw [hv]; rfl
    have HV : Hid (c.serV f n = []) := by unfold Hid Cal.serV; rw [HR.out]; rfl
    clear hv
    go_enter Tryd.func16, Tryd.ntmps16
    go_wp2_with (go_at_call 48; refine (checks_any _ _ _ _ c none 0 0 (fun _ => ⟨0, 0, false, 0⟩) _ (hC.ext (by repeat (first | exact Ext.refl _ | (refine Ext.alloc ?_ _) | (refine Ext.trans ?_ (by assumption))))) (rows_none _ _ _) (by omega)).mono ?_; rw [checks_none, HE.out]; rintro e wq ⟨rfl, hq⟩)
    go_ret2
    exact ⟨_, by rw [HR.out]; rfl, (by repeat (first | exact Ext.refl _ | (refine Ext.alloc ?_ _) | (refine Ext.trans ?_ (by assumption)))), by rw [HV.out]; exact spansAt_nil _⟩
  · have HE := Lib.hid (chk_yes hv)
    by_cases h64 : 64 < n
    · have HR : Hid (c.serE f n = 3) := by unfold Hid Cal.serE; rw [hv, if_pos h64]; rfl
      have HV : Hid (c.serV f n = []) := by unfold Hid Cal.serV; rw [HR.out]; rfl
      clear hv
      have hb : decide (64 < (n : Int)) = true := decide_eq_true (by omega)
      go_enter Tryd.func16, Tryd.ntmps16
      go_wp2_with (go_at_call 48; refine (checks_any _ _ _ _ c none 0 0 (fun _ => ⟨0, 0, false, 0⟩) _ (hC.ext (by repeat (first | exact Ext.refl _ | (refine Ext.alloc ?_ _) | (refine Ext.trans ?_ (by assumption))))) (rows_none _ _ _) (by omega)).mono ?_; rw [checks_none, HE.out]; rintro e wq ⟨rfl, hq⟩)
      go_ret2
      exact ⟨_, by rw [HR.out]; rfl, (by repeat (first | exact Ext.refl _ | (refine Ext.alloc ?_ _) | (refine Ext.trans ?_ (by assumption)))), by rw [HV.out]; exact spansAt_nil _⟩
    · have h64' : n ≤ 64 := by omega
      have hb : decide (64 < (n : Int)) = false := decide_eq_false (by omega)
      have HL := Lib.hid (valid_lg hv)
      have HY := Lib.hid (valid_ny hv)
      have HK := Lib.hid (valid_kg hv)
      have HR : Hid (c.serE f n = if serOk f n then (if serFail (fun i => c.spans (f i)) n then 73 else 0) else 72) := by unfold Hid Cal.serE; rw [hv, if_neg h64]; rfl
      clear hv h64
      obtain ⟨i0, hi, hz0, hz1, hz2⟩ := info_parts info_span
      obtain ⟨j0, hj, hy0, hy1, hy2⟩ := info_parts info_spans
      have hmk1 := fun W => run_make_cells (P := Tryd.prog) 41 47 i0 _ Tryd.underlying41 hi hz0 .i64 .i64 n (by rw [hz2]; omega) (by omega) W
      have hmk2 := fun W => run_make_cells (P := Tryd.prog) 119 41 j0 _ Tryd.underlying119 hj hy0 .i64 .i64 n (by rw [hy2]; omega) (by omega) W
      rw [hz1] at hmk1
      rw [hy1] at hmk2
      clear hi hz0 hz1 hz2 hj hy0 hy1 hy2
      go_enter Tryd.func16, Tryd.ntmps16
      go_wp2_with (go_at_call 48; refine (checks_any _ _ _ _ c none 0 0 (fun _ => ⟨0, 0, false, 0⟩) _ (hC.ext (by repeat (first | exact Ext.refl _ | (refine Ext.alloc ?_ _) | (refine Ext.trans ?_ (by assumption))))) (rows_none _ _ _) (by omega)).mono ?_; rw [checks_none, HE.out]; rintro e wq ⟨rfl, hq⟩; have hcb := (Held.ext (b := w.heap.size) (t := 25) (cs := #[.slice A c.nk ca, .slice A' c.ny cb]) (by repeat (first | (refine Held.at _ _ _ _ ?_; (simp; done)) | refine Held.alloc ?_ _)) hq))
      have hEq : Ext w wq := (by repeat (first | exact Ext.refl _ | (refine Ext.alloc ?_ _) | (refine Ext.trans ?_ (by assumption))))
      generalize hs : w.heap.size = s at *
      go_loopw [31] (fun i wr => ∃ k : Nat, k ≤ n ∧ i = .int .i64 k ∧ OksTo f k ∧ Ext wq wr) (fun i _ => n - (intOf i).toNat)
      case atStart => exact ⟨0, Nat.zero_le _, rfl, (fun i h => absurd h (by omega)), Ext.refl _⟩
      case round =>
        obtain ⟨k, hk, rfl, hO, hB⟩ := hrel
        obtain ⟨wo, rfl⟩ : ∃ wo : World, wo = wr := ⟨_, rfl⟩
        by_cases hlt : k < n
        · obtain ⟨b, off, rfl, hbl, c0, c1, c2, c3, c4, c5, c6⟩ := Tr.row (hT.ext (hEq.trans hB)) hlt
          cases hok : (f k).ok
          · have HO := Lib.hid hok
            go_wp2_with (go_at_call 50; refine (validTrace_any (f k) _).mono ?_; rw [HO.out]; rintro e wn ⟨rfl, hn'⟩)
            go_ret2
            have HR2 : c.serE f n = 72 := by rw [HR.out, serOk_no hlt HO.out]; rfl
            exact ⟨_, by rw [HR2]; rfl, (by repeat (first | exact Ext.refl _ | (refine Ext.alloc ?_ _) | (refine Ext.trans ?_ (by assumption)))), by unfold Cal.serV; rw [HR2]; exact spansAt_nil _⟩
          · have HO := Lib.hid hok
            go_wp2_with (go_at_call 50; refine (validTrace_any (f k) _).mono ?_; rw [HO.out]; rintro e wn ⟨rfl, hn'⟩)
            exact ⟨⟨k + 1, by omega, by go_num, to_snoc hO HO.out, (by repeat (first | exact Ext.refl _ | (refine Ext.alloc ?_ _) | (refine Ext.trans ?_ (by assumption))))⟩, by simp [intOf]; omega⟩
        · have hOn : Hid (OksTo f n) := fun i hi => hO i (by omega)
          have hE1 : Ext w wo := hEq.trans hB
          have hge : n ≤ k := by omega
          clear hO hEq hlt
          have hcb := hcb.ext hB
          clear hB
          go_wp2
          rw [show decide (k < n) = false from decide_eq_false (by omega)]
          clear hge hk hmk1 hmk2
          generalize hW2 : World.alloc _ _ = W2
          have hs2 : W2.heap.size = wo.heap.size + 1 + 1 := by rw [← hW2]; simp
          have hE2 : Ext wo W2 := by rw [← hW2]; exact (by repeat (first | exact Ext.refl _ | (refine Ext.alloc ?_ _) | (refine Ext.trans ?_ (by assumption))))
          have hO0 : W2.rowIs wo.heap.size 47 (n * 2) (outF (fun _ => 0) (fun _ => 0)) := by
            rw [← hW2]; exact (rowIs_madeSpan wo n).alloc _
          have hD0 : W2.rowIs (wo.heap.size + 1) 41 n (fun _ => .slice none 0 0) := by
            rw [← hW2]
            have := World.rowIs_made (wo.alloc (.cells (madeCells #[.int .i64 0, .int .i64 0] (n * 2)) 47)) (.slice none 0 0) n 41
            rwa [World.size_alloc] at this
          clear hW2
          have hz2 := Nat.le_of_eq hs2.symm
          clear hs2
          generalize hOb : wo.heap.size = O at *
          have hO1 := Nat.le_of_eq hOb
          have hO2 := Nat.le_of_eq hOb.symm
          have hsO : s < O := by have := hcb.lt; omega
          have hCo : CalAt wo A ca A' cb c := hC.ext hE1
          have hTo := hT.ext hE1
          clear hC hT hOb
          generalize hsp : (fun i => c.spans (f i)) = sp at *
          have HSP : Hid (∀ i, c.spans (f i) = sp i) := fun i => congrFun hsp i
          clear hsp
          have hS0 : SerR wo W2 O n 0 sp (fun _ => 0) (fun _ => 0) (fun _ => .slice none 0 0) := ⟨hE2, by omega, hO0, hD0.congr (fun _ _ => rfl), fun j h => absurd h (by omega)⟩
          clear hO0 hD0 hE2
          go_loopw [11, 47] (fun e i wr => ∃ k : Nat, k ≤ n ∧ i = .int .i64 k ∧ e = .int .i64 (early sp k) ∧ 1 ≤ early sp k ∧ NoFail sp k ∧ ∃ vs, SerR wo wr O n k sp (fun j => if j < k then early sp (j + 1) else 0) (fun _ => 0) vs) (fun _ i _ => n - (intOf i).toNat)
          case atStart => exact ⟨0, Nat.zero_le _, rfl, rfl, Int.le_refl _, (fun j h => absurd h (by omega)), _, hS0⟩
          case round =>
            clear hS0
            obtain ⟨k, hk, rfl, rfl, he1, hNF, vs, hS⟩ := hrel
            obtain ⟨w1, rfl⟩ : ∃ w1 : World, w1 = wr := ⟨_, rfl⟩
            by_cases hlt : k < n
            · obtain ⟨b, off, rfl, hbl, c0, c1, c2, c3, c4, c5, c6⟩ := Tr.row (hTo.ext hS.e) hlt
              obtain ⟨k0, k1⟩ := (hcb.ext hS.e).c2
              have hka := ok_af (hOn.out k hlt)
              have hsw := (hcb.ext hS.e).lt
              go_wp2_with (fail)
              refine (spans_own _ _ _ _ c (f k) _ (hCo.ext (hS.e.alloc _)) HL.out HY.out HK.out hka.1 hka.2).mono ?_
              rintro e w4 ⟨v, rfl, h4, hr4⟩
              rw [HSP.out] at hr4
              have hS4 := (hS.ext ((Ext.refl w1).alloc _)).ext h4
              have hr5 := World.ownsRow.mono (base' := O + 1 + 1) hr4 (by have := hS.z; simp; omega)
              have hd4 := hS4.d.cell hlt
              rw [if_neg (by omega)] at hd4
              have hf4 := hS4.d.frozen k
              have hS5 := hS4.days hO1 hr5
              clear hS hr4 h4 c0 c1 c2 c3 c4 c5 c6 k0 k1
              obtain ⟨A2, cap2, rfl, -, -, -⟩ := spansAt_own hr5
              clear hr5 hS4
              go_upto_region 19 with (fail)
              generalize World.setCell w4 _ _ = w5 at *
              clear hd4 hf4
              have hd5 := hS5.d.cell hlt
              rw [if_pos (by omega), if_pos rfl] at hd5
              generalize hvs : (fun j => if j = k then Value.slice A2 (sp k).length cap2 else vs j) = vs' at *
              have hvk : vs' k = .slice A2 (sp k).length cap2 := by rw [← hvs]; exact if_pos rfl
              have HVK := Lib.hid hvk
              clear hvs hvk
              have hlk : (sp k).length ≤ 9223372036854775807 := by
                obtain ⟨A4, cap4, e4, -, h5, h6⟩ := spansAt_own (hS5.r k (by omega))
                unfold maxLen at h6; omega
              go_wp2
              go_loopw [14, 63] (fun d i wr => ∃ m : Nat, m ≤ (sp k).length ∧ i = .int .i64 m ∧ d = .int .i64 0 ∧ Before (sp k) (early sp k) m ∧ SerR wo wr O n (k + 1) sp (fun j => if j < k then early sp (j + 1) else 0) (fun _ => 0) vs') (fun _ i _ => (sp k).length - (intOf i).toNat)
              case atStart => exact ⟨0, Nat.zero_le _, rfl, rfl, (fun j h => absurd h (by omega)), hS5⟩
              case round =>
                clear hS5 hd5
                obtain ⟨m, hm, rfl, rfl, hBf, hS⟩ := hrel
                obtain ⟨w6, rfl⟩ : ∃ w6 : World, w6 = wr := ⟨_, rfl⟩
                by_cases hml : m < (sp k).length
                · have hsa := spansAt_own (hS.r k (by omega))
                  rw [HVK.out] at hsa
                  obtain ⟨b3, off3, rfl, hb3, a0, a1⟩ := spans_cell hsa hml
                  clear hsa
                  generalize hx : (sp k).getD m ⟨0, 0⟩ = x at *
                  by_cases hxe : early sp k ≤ x.b
                  · have hxd : decide (early sp k ≤ x.b) = true := decide_eq_true hxe
                    have hfx : Hid (early sp (k + 1) = max x.a (early sp k)) := firstFrom_here hml hBf (by rw [hx]; exact hxe) |>.trans (by rw [hx])
                    have hSa := hS.ext (w' := w6.alloc (.cells #[.int .i64 x.a, .int .i64 x.b] 47)) (by repeat (first | exact Ext.refl _ | (refine Ext.alloc ?_ _) | (refine Ext.trans ?_ (by assumption))))
                    have ho := hSa.o.cell (i := k * 2) (by omega)
                    rw [outF_first] at ho
                    have hfo := hSa.o.frozen (k * 2)
                    have hOl := hS.o.lt
                    by_cases hab : x.a < early sp k
                    · have hmx : Hid (early sp (k + 1) = early sp k) := hfx.out.trans (by omega)
                      have hbz : (early sp k == 0) = false := beq_eq_false_iff_ne.2 (by omega)
                      have hS7 := ((hS.first hO1 k (early sp k)).upF (serF_step hmx.out)).ext ((Ext.refl _).alloc (.cells #[.int .i64 x.a, .int .i64 x.b] 47))
                      clear hfx hx
                      have hmm : max x.a (early sp k) = early sp k := by omega
                      go_wp2
                      exact ⟨⟨k + 1, by omega, by go_num, by rw [hmx.out], by rw [hmx.out]; exact he1, noFail_snoc hNF (by rw [hmx.out]; omega), _, hS7⟩, by simp [intOf]; omega⟩
                    · have hab' : early sp k ≤ x.a := by omega
                      have hmx : Hid (early sp (k + 1) = x.a) := hfx.out.trans (by omega)
                      have hbz : (x.a == 0) = false := beq_eq_false_iff_ne.2 (by omega)
                      have hS7 := ((hS.first hO1 k x.a).upF (serF_step hmx.out)).ext ((Ext.refl _).alloc (.cells #[.int .i64 x.a, .int .i64 x.b] 47))
                      clear hfx hx hab
                      have hmm : max x.a (early sp k) = x.a := by omega
                      go_wp2
                      exact ⟨⟨k + 1, by omega, by go_num, by rw [hmx.out], by rw [hmx.out]; omega, noFail_snoc hNF (by rw [hmx.out]; omega), _, hS7⟩, by simp [intOf]; omega⟩
                  · have hxd : decide (early sp k ≤ x.b) = false := decide_eq_false hxe
                    have HXE := Lib.hid hxe
                    have HX := Lib.hid hx
                    clear hxe hx
                    go_wp2
                    exact ⟨⟨m + 1, by omega, by go_num, rfl, before_snoc hBf (by rw [HX.out]; have := HXE.out; omega), hS.ext (by repeat (first | exact Ext.refl _ | (refine Ext.alloc ?_ _) | (refine Ext.trans ?_ (by assumption))))⟩, by simp [intOf]; omega⟩
                · have hfl : Hid (early sp (k + 1) = 0) := firstFrom_none (e := early sp k) (fun j hj => hBf j (by omega))
                  go_wp2
                  go_ret2
                  have HR2 : c.serE f n = 73 := by rw [HR.out, serOk_yes hOn.out, serFail_yes hlt hfl.out]; rfl
                  exact ⟨_, by rw [HR2]; rfl, hE1.trans hS.e, by unfold Cal.serV; rw [HR2]; exact spansAt_nil _⟩
            · obtain rfl : k = n := by omega
              have HR2 : Hid (c.serE f k = 0) := by unfold Hid; rw [HR.out, serOk_yes hOn.out, serFail_no hNF]; rfl
              have HV2 : Hid (c.serV f k = serL sp k) := by
                unfold Hid Cal.serV
                rw [HR2.out, if_pos rfl]
                congr 1
                exact funext HSP.out
              clear hNF hlt hk
              go_wp2
              go_loopw [17, 18] (fun e i wr => ∃ j : Nat, j ≤ k ∧ i = .int .i64 ((j : Int) - 1) ∧ e = .int .i64 (late sp k j) ∧ SerR wo wr O k k sp (fun j => if j < k then early sp (j + 1) else 0) (lateF sp k j) vs) (fun _ i _ => (intOf i + 1).toNat)
              case atStart => exact ⟨k, Nat.le_refl _, rfl, by rw [late_top], hS.upL (lateF_top sp k).symm⟩
              case round =>
                clear hS
                obtain ⟨j, hj, rfl, rfl, hS⟩ := hrel
                obtain ⟨w1, rfl⟩ : ∃ w1 : World, w1 = wr := ⟨_, rfl⟩
                cases j with
                | zero =>
                  go_wp2
                  go_ret2
                  refine ⟨_, by rw [HR2.out]; rfl, hE1.trans hS.e, ?_⟩
                  rw [HV2.out]
                  exact serL_at hS.o (by unfold maxLen; omega)
                | succ j =>
                  rw [show ((j + 1 : Nat) : Int) - 1 = j by omega]
                  have hd5 := hS.d.cell (i := j) (by omega)
                  rw [if_pos (by omega)] at hd5
                  have hsa := spansAt_own (hS.r j (by omega))
                  obtain ⟨A2, cap2, hvj, -, hle2, hmx2⟩ := hsa
                  rw [hvj] at hd5
                  have HVJ := Lib.hid hvj
                  have hlk : (sp j).length ≤ 9223372036854775807 := by unfold maxLen at hmx2; omega
                  clear hvj hmx2 hle2
                  go_wp2
                  go_loopw [97] (fun i wr => ∃ m : Nat, m ≤ (sp j).length ∧ i = .int .i64 m ∧ SerR wo wr O k k sp (fun j => if j < k then early sp (j + 1) else 0) (inL sp k j m) vs) (fun i _ => (sp j).length - (intOf i).toNat)
                  case atStart => exact ⟨0, Nat.zero_le _, rfl, hS.upL (inL_zero sp k j).symm⟩
                  case round =>
                    clear hS hd5
                    obtain ⟨m, hm, rfl, hS⟩ := hrel
                    obtain ⟨w6, rfl⟩ : ∃ w6 : World, w6 = wr := ⟨_, rfl⟩
                    by_cases hml : m < (sp j).length
                    · have hsa := spansAt_own (hS.r j (by omega))
                      rw [HVJ.out] at hsa
                      obtain ⟨b3, off3, rfl, hb3, a0, a1⟩ := spans_cell hsa hml
                      clear hsa
                      have hst := lastTo_step (late sp k (j + 1)) (sp j) m hml
                      generalize hx : (sp j).getD m ⟨0, 0⟩ = x at *
                      have HX := Lib.hid hx
                      clear hx
                      have ho := hS.o.cell (i := j * 2 + 1) (by omega)
                      rw [outF_last] at ho
                      have hfo := hS.o.frozen (j * 2 + 1)
                      have hOl := hS.o.lt
                      by_cases hxe : x.a ≤ late sp k (j + 1)
                      · have hxd : decide (x.a ≤ late sp k (j + 1)) = true := decide_eq_true hxe
                        rw [if_pos hxe] at hst
                        by_cases hab : x.b ≤ late sp k (j + 1)
                        · have hmx : Hid (lastTo (late sp k (j + 1)) ((sp j).take (m + 1)) = x.b) := hst.trans (by omega)
                          clear hst
                          have hS7 := ((hS.last hO1 j x.b).upL (inL_set hmx.out)).ext ((Ext.refl _).alloc (.cells #[.int .i64 x.a, .int .i64 x.b] 47))
                          have hmm : min x.b (late sp k (j + 1)) = x.b := by omega
                          go_wp2
                          exact ⟨⟨m + 1, by omega, by go_num, hS7⟩, by simp [intOf]; omega⟩
                        · have hab' : late sp k (j + 1) < x.b := by omega
                          have hmx : Hid (lastTo (late sp k (j + 1)) ((sp j).take (m + 1)) = late sp k (j + 1)) := hst.trans (by omega)
                          clear hst hab
                          have hS7 := ((hS.last hO1 j (late sp k (j + 1))).upL (inL_set hmx.out)).ext ((Ext.refl _).alloc (.cells #[.int .i64 x.a, .int .i64 x.b] 47))
                          have hmm : min x.b (late sp k (j + 1)) = late sp k (j + 1) := by omega
                          go_wp2
                          exact ⟨⟨m + 1, by omega, by go_num, hS7⟩, by simp [intOf]; omega⟩
                      · have hxd : decide (x.a ≤ late sp k (j + 1)) = false := decide_eq_false hxe
                        rw [if_neg hxe] at hst
                        have HST := Lib.hid hst
                        clear hst hxe
                        have hS7 := (hS.upL (inL_same HST.out)).ext ((Ext.refl _).alloc (.cells #[.int .i64 x.a, .int .i64 x.b] 47))
                        go_wp2
                        exact ⟨⟨m + 1, by omega, by go_num, hS7⟩, by simp [intOf]; omega⟩
                    · obtain rfl : m = (sp j).length := by omega
                      have hS7 := hS.upL (inL_full (show j < k by omega))
                      have ho := hS7.o.cell (i := j * 2 + 1) (by omega)
                      rw [outF_last, lateF_at (show j < k by omega)] at ho
                      clear hS
                      go_wp2
                      exact ⟨⟨j, by omega, by go_num, rfl, hS7⟩, by first | (simp [intOf]; done) | (simp [intOf]; omega)⟩
end Go.Proofs.YthmjpbafbohelaaDoor

