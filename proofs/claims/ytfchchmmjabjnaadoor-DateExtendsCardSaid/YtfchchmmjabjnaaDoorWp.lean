/- The walk of Days. -/
import Derived.Test.YtfchchmmjabjnaaDoorWo
import Derived.Test.YtfchchmmjabjnaaDoorWb
namespace Go.Proofs.YtfchchmmjabjnaaDoor
open Go Go.RowKit Go.Shelf
attribute [local go_sem] Oper.semAt_some gv_yes

/-- The days of the months of year y among some months. -/
def sumY (c : Cal) (y : Int) : List It → Int
  | [] => 0
  | x :: l => (if (x.y : Int) = y then x.len c else 0) + sumY c y l
theorem sumY_append (c : Cal) (y : Int) : ∀ l l' : List It, sumY c y (l ++ l') = sumY c y l + sumY c y l'
  | [], l' => by simp [sumY]
  | x :: l, l' => by rw [List.cons_append, sumY, sumY, sumY_append c y l l']; omega
theorem sumY_snoc (c : Cal) (y : Int) (l : List It) (x : It) : sumY c y (l ++ [x]) = sumY c y l + (if (x.y : Int) = y then x.len c else 0) := by rw [sumY_append]; simp [sumY]
theorem sumY_runs (c : Cal) (i : Nat) : ∀ (l : List (Int × Bool)) (d : Int), sumY c i (runs i (c.yr i) d l) = (c.yr i).lens l
  | [], _ => rfl
  | p :: l, d => by rw [runs, sumY, sumY_runs c i l, Yr.lens, if_pos rfl]; rfl
theorem sumY_runs' (c : Cal) {i : Nat} {y : Int} (h : (i : Int) ≠ y) : ∀ (l : List (Int × Bool)) (d : Int), sumY c y (runs i (c.yr i) d l) = 0
  | [], _ => rfl
  | p :: l, d => by rw [runs, sumY, sumY_runs' c h l, if_neg h]; rfl
theorem sumY_to (c : Cal) (y : Nat) : ∀ k : Nat, sumY c y (c.itemsTo k) = if y < k then (c.yr y).days else 0
  | 0 => by simp [Cal.itemsTo, sumY]
  | k + 1 => by
    rw [Cal.itemsTo, sumY_append, sumY_to c y k]
    by_cases h : k = y
    · subst h; rw [sumY_runs, if_neg (by omega), if_pos (by omega)]; simp [Yr.days]
    · rw [sumY_runs' c (by omega)]
      by_cases h2 : y < k
      · rw [if_pos h2, if_pos (by omega)]; simp
      · rw [if_neg h2, if_neg (by omega)]; simp
theorem sumY_items {c : Cal} {y : Int} (h0 : 0 ≤ y) (h1 : y < c.ny) : sumY c y c.items = (c.yrI y).days := by
  have := sumY_to c y.toNat c.ny
  rw [if_pos (by omega), show ((y.toNat : Nat) : Int) = y by omega] at this
  exact this
theorem sumY_bd (c : Cal) (y : Int) : ∀ l : List It, 0 ≤ sumY c y l ∧ sumY c y l ≤ 30 * (l.length : Int)
  | [] => by simp [sumY]
  | x :: l => by
    have := sumY_bd c y l
    have h := len_29 (c.yr x.y) x.n x.s
    rw [sumY, List.length_cons]
    unfold It.len
    split <;> omega
def Cal.daysR (c : Cal) (y : Int) : Int × Int := if c.valid then (if 0 ≤ y ∧ y < c.ny then ((c.yrI y).days, 0) else (0, 8)) else (0, 70)
theorem valid_ny {c : Cal} (h : c.valid = true) : c.ny ≤ 400 := by
  simp only [Cal.valid, Bool.and_eq_true, decide_eq_true_eq] at h
  exact h.1.2
set_option maxRecDepth 100000 in
set_option maxHeartbeats 4000000 in
theorem daysX_any (A A' : Option Addr) (ca cb : Nat) (c : Cal) (y : Int) (w : World) (hC : CalAt w A ca A' cb c) :
    Calls Tryd.prog 58 #[.agg #[.slice A c.nk ca, .slice A' c.ny cb], .int .i64 y] w fun e w' => e = .returned (.tuple #[.int .i64 (c.daysR y).1, .int .i64 (c.daysR y).2]) ∧ Ext w w' := by
  have hny := hC.ny_le
  refine callsIn_wide.1 (callsIn_of_wp_marks (F := Fence.wide) (n := 9) Tryd.func58 rfl trivial (wpIn_wide.2 ?_) rfl)
  simp only [Tryd.ntmps58, List.size_toArray, List.length_cons, List.length_nil, Nat.reduceAdd, Nat.reduceSub, Array.replicate_succ, Array.replicate_zero, List.push_toArray, List.append_toArray, List.nil_append, List.cons_append]
  go_upto_region 1 with (fail)
  refine wp_region_xl w (by repeat (first | exact Ext.refl _ | (refine Ext.alloc ?_ _) | (refine Ext.trans ?_ (by assumption)))) ?_
  intro hne hrx hry
  try simp only []
  try simp only [List.append_eq, List.cons_append, List.nil_append]
  have hrx0 := fun u o => hrx u (w.heap.size) o (by first | omega | (simp; done) | (simp; omega))
  have hrx1 := fun u o => hrx u (w.heap.size + 1) o (by first | omega | (simp; done) | (simp; omega))
  skip
  repeat (first
    | go_big_quiet_skip
    | ((with_reducible apply q_and)
       · exact rfl
       · exact rfl
       · exact rfl
       intro K hK
       unfold Then; go_big_quiet_op; (with_reducible refine hK _ ?_); clear hK K)
    | ((with_reducible apply q_or)
       · exact rfl
       · exact rfl
       · exact rfl
       intro K hK
       unfold Then; go_big_quiet_op; (with_reducible refine hK _ ?_); clear hK K)
    | (go_big_quiet_want; go_big_quiet_op; go_big_quiet_on)
    | (go_big_quiet_want; go_big_quiet_op; apply Exists.intro; refine ⟨fun u => ?_, ?_⟩
       · first
           | (go_at_call 75; refine (checks_any _ _ _ _ c none 0 0 (fun _ => ⟨0, 0, false, 0⟩) _ (hC.ext (Ext.trans (by repeat (first | exact Ext.refl _ | (refine Ext.alloc ?_ _) | (refine Ext.trans ?_ (by assumption)))) u.e)) (rows_none _ _ _) (by omega)).mono ?_; rintro e w' ⟨rfl, hb⟩; exact ⟨rfl, u.back hb⟩)
       go_big_quiet_on)
    | ((with_reducible apply q_and_g)
       · first | exact wanted_pt rfl rfl rfl | exact wanted_pf rfl rfl rfl | exact wanted_gt rfl rfl rfl | exact wanted_gf rfl rfl rfl
       · exact rfl
       · exact rfl
       · exact rfl
       intro K hK
       unfold Then; go_big_quiet_op; (with_reducible refine hK _ ?_); clear hK K)
    | ((with_reducible apply q_or_g)
       · first | exact wanted_pt rfl rfl rfl | exact wanted_pf rfl rfl rfl | exact wanted_gt rfl rfl rfl | exact wanted_gf rfl rfl rfl
       · exact rfl
       · exact rfl
       · exact rfl
       intro K hK
       unfold Then; go_big_quiet_op; (with_reducible refine hK _ ?_); clear hK K)
    | ((with_reducible apply q_sym)
       · first | exact wanted_pt rfl rfl rfl | exact wanted_pf rfl rfl rfl | exact wanted_gt rfl rfl rfl | exact wanted_gf rfl rfl rfl
       apply Exists.intro
       refine And.intro (fun hgb => ?_) ?_
       · intro u
         try simp at hgb
         go_simp
         try simp only [if_pos hsl]
         try simp only [if_pos (hin (by omega))]
         try (simp only [hd0 (by omega)]; go_simp)
         try (rw [hlook _ (Ext.trans (by repeat (first | exact Ext.refl _ | (refine Ext.alloc ?_ _) | (refine Ext.trans ?_ (by assumption)))) u.e) (hlk0 hgb)]; go_simp)
         first
           | (with_reducible exact rfl)
           | (go_at_call 75; refine (checks_any _ _ _ _ c none 0 0 (fun _ => ⟨0, 0, false, 0⟩) _ (hC.ext (Ext.trans (by repeat (first | exact Ext.refl _ | (refine Ext.alloc ?_ _) | (refine Ext.trans ?_ (by assumption)))) u.e)) (rows_none _ _ _) (by omega)).mono ?_; rintro e w' ⟨rfl, hb⟩; exact ⟨rfl, u.back hb⟩)
       intro K hK
       unfold Then; go_big_quiet_op; (with_reducible refine hK _ ?_); clear hK K))
  clear hne hry hrx hrx0 hrx1
  refine wpQuiet_nil ?_
  intro wq hq
  obtain ⟨hcwq, hfwq, hzwq⟩ := Ext.rules hq
  try simp only [World.size_alloc] at hzwq
  have hk0wq := fun o => hcwq (w.heap.size) o (by first | omega | (simp; done) | (simp; omega))
  have hj0wq := fun o => hfwq (w.heap.size) o (by first | omega | (simp; done) | (simp; omega))
  have hl0wq : w.heap.size < wq.heap.size := (by first | omega | (simp; done) | (simp; omega))
  have hk1wq := fun o => hcwq (w.heap.size + 1) o (by first | omega | (simp; done) | (simp; omega))
  have hj1wq := fun o => hfwq (w.heap.size + 1) o (by first | omega | (simp; done) | (simp; omega))
  have hl1wq : w.heap.size + 1 < wq.heap.size := (by first | omega | (simp; done) | (simp; omega))
  obtain ⟨hcbwq, hfbwq, hzbwq⟩ := Ext.rules (show Ext w wq from (by repeat (first | exact Ext.refl _ | (refine Ext.alloc ?_ _) | (refine Ext.trans ?_ (by assumption)))))
  clear hcwq hfwq
  simp only [checks_none]
  cases hv : c.valid
  · rw [chk_no hv]
    go_wp2
    exact ret_none (v := .tuple #[.int .i64 0, .int .i64 70]) (by simp [results, Tryd.results58, go_sem]) ⟨by simp [Cal.daysR, hv], (by repeat (first | exact Ext.refl _ | (refine Ext.alloc ?_ _) | (refine Ext.trans ?_ (by assumption))))⟩
  · rw [chk_yes hv]
    go_upto_region 4 with (fail)
    refine wp_region_xl w (by repeat (first | exact Ext.refl _ | (refine Ext.alloc ?_ _) | (refine Ext.trans ?_ (by assumption)))) ?_
    intro hne hrx hry
    try simp only []
    try simp only [List.append_eq, List.cons_append, List.nil_append]
    have hrx0 := fun u o => hrx u (w.heap.size) o (by first | omega | (simp; done) | (simp; omega))
    have hrx1 := fun u o => hrx u (w.heap.size + 1) o (by first | omega | (simp; done) | (simp; omega))
    skip
    repeat (first
      | go_big_quiet_skip
      | ((with_reducible apply q_and)
         · exact rfl
         · exact rfl
         · exact rfl
         intro K hK
         unfold Then; go_big_quiet_op; (with_reducible refine hK _ ?_); clear hK K)
      | ((with_reducible apply q_or)
         · exact rfl
         · exact rfl
         · exact rfl
         intro K hK
         unfold Then; go_big_quiet_op; (with_reducible refine hK _ ?_); clear hK K)
      | (go_big_quiet_want; go_big_quiet_op; go_big_quiet_on)
      | (go_big_quiet_want; go_big_quiet_op; apply Exists.intro; refine ⟨fun u => ?_, ?_⟩
         · first
             | (go_at_call 102; refine (hasYear_any _ _ _ _ c y _ hny).mono ?_; rintro e w' ⟨rfl, hb⟩; exact ⟨rfl, u.back hb⟩)
         go_big_quiet_on)
      | ((with_reducible apply q_and_g)
         · first | exact wanted_pt rfl rfl rfl | exact wanted_pf rfl rfl rfl | exact wanted_gt rfl rfl rfl | exact wanted_gf rfl rfl rfl
         · exact rfl
         · exact rfl
         · exact rfl
         intro K hK
         unfold Then; go_big_quiet_op; (with_reducible refine hK _ ?_); clear hK K)
      | ((with_reducible apply q_or_g)
         · first | exact wanted_pt rfl rfl rfl | exact wanted_pf rfl rfl rfl | exact wanted_gt rfl rfl rfl | exact wanted_gf rfl rfl rfl
         · exact rfl
         · exact rfl
         · exact rfl
         intro K hK
         unfold Then; go_big_quiet_op; (with_reducible refine hK _ ?_); clear hK K)
      | ((with_reducible apply q_sym)
         · first | exact wanted_pt rfl rfl rfl | exact wanted_pf rfl rfl rfl | exact wanted_gt rfl rfl rfl | exact wanted_gf rfl rfl rfl
         apply Exists.intro
         refine And.intro (fun hgb => ?_) ?_
         · intro u
           try simp at hgb
           go_simp
           try simp only [if_pos hsl]
           try simp only [if_pos (hin (by omega))]
           try (simp only [hd0 (by omega)]; go_simp)
           try (rw [hlook _ (Ext.trans (by repeat (first | exact Ext.refl _ | (refine Ext.alloc ?_ _) | (refine Ext.trans ?_ (by assumption)))) u.e) (hlk0 hgb)]; go_simp)
           first
             | (with_reducible exact rfl)
             | (go_at_call 102; refine (hasYear_any _ _ _ _ c y _ hny).mono ?_; rintro e w' ⟨rfl, hb⟩; exact ⟨rfl, u.back hb⟩)
         intro K hK
         unfold Then; go_big_quiet_op; (with_reducible refine hK _ ?_); clear hK K))
    clear hne hry hrx hrx0 hrx1
    refine wpQuiet_nil ?_
    intro wn hwn
    obtain ⟨hcwn, hfwn, hzwn⟩ := Ext.rules hwn
    try simp only [World.size_alloc] at hzwn
    have hk0wn := fun o => hcwn (w.heap.size) o (by first | omega | (simp; done) | (simp; omega))
    have hj0wn := fun o => hfwn (w.heap.size) o (by first | omega | (simp; done) | (simp; omega))
    have hl0wn : w.heap.size < wn.heap.size := (by first | omega | (simp; done) | (simp; omega))
    have hk1wn := fun o => hcwn (w.heap.size + 1) o (by first | omega | (simp; done) | (simp; omega))
    have hj1wn := fun o => hfwn (w.heap.size + 1) o (by first | omega | (simp; done) | (simp; omega))
    have hl1wn : w.heap.size + 1 < wn.heap.size := (by first | omega | (simp; done) | (simp; omega))
    obtain ⟨hcbwn, hfbwn, hzbwn⟩ := Ext.rules (show Ext w wn from (by repeat (first | exact Ext.refl _ | (refine Ext.alloc ?_ _) | (refine Ext.trans ?_ (by assumption)))))
    clear hcwn hfwn
    by_cases hy : 0 ≤ y ∧ y < c.ny
    · simp only [decide_eq_true hy.1, decide_eq_true hy.2, decide_eq_true hy, Bool.not_true, Bool.or_false]
      have hcb : Held wn w.heap.size 25 #[.slice A c.nk ca, .slice A' c.ny cb] := Held.ext (W := (w.alloc (.cells #[.slice A c.nk ca, .slice A' c.ny cb] 25)).alloc (.cells #[.int .i64 y] 3)) (by repeat (first | (refine Held.at _ _ _ _ ?_; (simp; done)) | refine Held.alloc ?_ _)) (by repeat (first | exact Ext.refl _ | (refine Ext.alloc ?_ _) | (refine Ext.trans ?_ (by assumption))))
      have hyb : Held wn (w.heap.size + 1) 3 #[.int .i64 y] := Held.ext (W := (w.alloc (.cells #[.slice A c.nk ca, .slice A' c.ny cb] 25)).alloc (.cells #[.int .i64 y] 3)) (by repeat (first | (refine Held.at _ _ _ _ ?_; (simp; done)) | refine Held.alloc ?_ _)) (by repeat (first | exact Ext.refl _ | (refine Ext.alloc ?_ _) | (refine Ext.trans ?_ (by assumption))))
      have hEn : Ext w wn := (by repeat (first | exact Ext.refl _ | (refine Ext.alloc ?_ _) | (refine Ext.trans ?_ (by assumption))))
      have hCn := hC.ext hEn
      obtain ⟨k0, k1⟩ := hcb.c2
      go_wp2_with (go_at_call 103; refine (months_any _ _ _ _ c _).mono ?_; rintro e w' ⟨rfl, rfl⟩)
      generalize hW5 : World.alloc _ _ = W5
      have hE5 : Ext wn W5 := by rw [← hW5]; exact (by repeat (first | exact Ext.refl _ | (refine Ext.alloc ?_ _) | (refine Ext.trans ?_ (by assumption))))
      have hs5 : W5.heap.size = wn.heap.size + 1 + 1 := by rw [← hW5]; simp
      have b7 : Boxed W5 wn.heap.size 3 (.int .i64 0) := by rw [← hW5]; exact Held.boxed (by repeat (first | (refine Held.at _ _ _ _ ?_; (simp; done)) | refine Held.alloc ?_ _))
      have hB : W5.cell? ⟨wn.heap.size + 1, 1, none⟩ = some (.slice A' c.ny cb) := by rw [← hW5]; exact (Held.cell (t := 25) (cs := #[.slice A c.nk ca, .slice A' c.ny cb]) (by repeat (first | (refine Held.at _ _ _ _ ?_; (simp; done)) | refine Held.alloc ?_ _)) 1)
      have hlg := valid_lg hv
      have hn4 := valid_ny hv
      clear hW5 k0 k1 hzwq hk0wq hj0wq hk1wq hj1wq hcbwq hfbwq hzbwq hk0wn hj0wn hk1wn hj1wn hcbwn hfbwn
      generalize hs : w.heap.size = s at *
      generalize hL : wn.heap.size = L at *
      refine loop_months (A := A) (A' := A') (ca := ca) (cb := cb) (c := c) (B := L + 1) wn W5 rfl rfl hCn hlg hn4 hE5 hB (by omega)
        (fun pre W => Ext wn W ∧ Boxed W L 3 (.int .i64 (sumY c y (Mo.its pre))))
        (fun _ _ _ => False) (OwnFrom.and (ownFrom_ext (by omega)) (ownFrom_box _ _ _ _)) (fun _ _ _ _ _ h _ _ => h) ⟨hE5, b7⟩
        (AxM (L + 1) (fun m Bx => #[.agg #[.slice A c.nk ca, .slice A' c.ny cb], .int .i64 y, .pointer (some ⟨s, 0, none⟩), .pointer (some ⟨s + 1, 0, none⟩), .int .i64 0, .int .i64 0, .int .i64 0, .pointer (some ⟨L, 0, none⟩), .pointer (some ⟨Bx, 0, none⟩), .agg #[.slice A c.nk ca, .slice A' c.ny cb], .int .i64 0, .int .i64 0, .bool false, undef,
          .agg #[.slice A c.nk ca, .slice A' c.ny cb], .int .i64 y, .bool true, .bool false, .agg #[.slice A c.nk ca, .slice A' c.ny cb], .func (.func 123) #[] #[.pointer (some ⟨L + 1, 0, none⟩)], .agg #[.int .i64 (m.y : Int), .int .i64 m.n, .bool m.s], .int .i64 m.first, undef, undef, undef, undef, undef, undef, undef, undef, undef, undef])) axM_own ?assign ?body ?done ?stop
      case assign =>
        intro l pre x W K hi hK
        simp only [Mo.enc]
        gi_wp2
        exact hK _ _ (keepsFrom_ext ((Ext.refl W).alloc _)) (KpY.of_ext ((Ext.refl W).alloc _) hi.1.size) ⟨hi.1.alloc _, hi.2.alloc _⟩ ⟨W.heap.size, hi.2.lt, Held.new _ _ _, rfl⟩
      case body =>
        rintro l pre x a' W hl ⟨hE, b7⟩ ⟨Bx, hBx, hm, rfl⟩ hlt
        have hxok := x.2
        have hxy := hxok.y
        have hxn := hxok.n1
        have hxn2 := hxok.n12
        have hCW := hCn.ext hE
        have hlx := hlg _ hxy
        clear hxok
        obtain ⟨m0, m1, m2⟩ := hm.c3
        have e0 := (hyb.ext hE).c1
        obtain ⟨k0, k1⟩ := (hcb.ext hE).c2
        have hl1 := hm.lt
        have hl2 := (hyb.ext hE).lt
        have hl3 := (hcb.ext hE).lt
        have hl4 := b7.lt
        have w7 := b7.cell
        have HS : Hid (sumY c y (Mo.its (pre ++ [x])) = _) := (congrArg (sumY c y) (its_snoc pre x)).trans (sumY_snoc c y _ x.1)
        have hb1 := sumY_bd c y (Mo.its pre)
        rw [its_length] at hb1
        generalize sumY c y (Mo.its pre) = S at *
        have hb2 := len_29 (c.yr x.1.y) x.1.n x.1.s
        have HL : Hid (x.1.len c = (c.yr x.1.y).len x.1.n x.1.s) := rfl
        have hsum : IntKind.i64.wrap (S + (c.yr x.1.y).len x.1.n x.1.s) = S + (c.yr x.1.y).len x.1.n x.1.s := by rw [IntKind.wrap_i64]; omega
        by_cases hxe : (x.1.y : Int) = y
        · have HX := Lib.hid hxe
          have hxb : ((x.1.y : Int) == y) = true := beq_iff_eq.2 hxe
          clear hxe
          gi_upto_region 10 with (fail)
          refine wpIn_region_xs 5 W mixed (by kernel_rfl) (by kernel_rfl) (by repeat (first | exact Ext.refl _ | (refine Ext.alloc ?_ _) | (refine Ext.trans ?_ (by assumption)))) ?_
          intro hne hrx hry
          try simp only []
          try simp only [List.append_eq, List.cons_append, List.nil_append]
          simp only [List.take_succ_cons, List.take_zero, List.drop_succ_cons, List.drop_zero]
          skip
          repeat (first
            | go_big_quiet_skip
            | (go_big_quiet_want; go_big_quiet_op; go_big_quiet_on)
            | (go_big_quiet_want; go_big_quiet_op; apply Exists.intro; refine ⟨fun u => ?_, ?_⟩
               · first
                   | (go_at_call 104; refine (of_any _ _ _ _ c x.1.y _ _ _ (hCW.ext (Ext.trans (by repeat (first | exact Ext.refl _ | (refine Ext.alloc ?_ _) | (refine Ext.trans ?_ (by assumption)))) u.e)) hxy hxn hxn2 hlx.1 hlx.2).mono ?_; rintro e w' ⟨rfl, hb⟩; exact ⟨rfl, u.back hb⟩)
               go_big_quiet_on))
          clear hne hry hrx
          refine wpQuiet_nil ?_
          intro wz hz
          obtain ⟨hcwz, hfwz, hzwz⟩ := Ext.rules hz
          try simp only [World.size_alloc] at hzwz
          obtain ⟨hcbwz, hfbwz, hzbwz⟩ := Ext.rules (show Ext W wz from (by repeat (first | exact Ext.refl _ | (refine Ext.alloc ?_ _) | (refine Ext.trans ?_ (by assumption)))))
          clear hcwz hfwz
          have b7z := boxed_ext b7 hz
          have w7z := b7z.cell
          have f7z := b7z.frozen
          clear hcbwz hfbwz
          gi_wp2
          exact ⟨(keepsFrom_ext hz).trans ((KeepsOthers.setCell _ _ _).from _), (KpY.of_ext hz (by have := hE.size; omega)).trans (KpY.box b7z (by decide) (by omega) _), (hE.trans hz).setCell (p := ⟨L, 0, none⟩) (show wn.heap.size ≤ L by omega) _, by rw [HS.out, if_pos HX.out, HL.out]; exact b7z.set _⟩
        · have HX := Lib.hid hxe
          have hxb : ((x.1.y : Int) == y) = false := beq_eq_false_iff_ne.2 hxe
          clear hxe
          gi_wp2
          exact ⟨KeepsFrom.refl _ _, KpY.refl _ _, hE, by rw [HS.out, if_neg HX.out, Int.add_zero]; exact b7⟩
      case done =>
        rintro D xs W hD hxs ⟨hE, b7⟩ hK
        rw [hxs, sumY_items hy.1 hy.2] at b7
        have w7 := b7.cell
        go_wp2
        exact ret_mark hK (v := .tuple #[.int .i64 (c.yrI y).days, .int .i64 0]) (by simp [results, Tryd.results58, go_sem]) ⟨by simp [Cal.daysR, hv, hy], hEn.trans (hE.putObj (by omega) _)⟩
      case stop =>
        rintro D c' pre W _ _ h _
        exact h.elim
    · have hy' : (!decide (0 ≤ y) || !decide (y < (c.ny : Int))) = true := by simp; omega
      try simp only [hy', decide_eq_false hy]
      go_wp2
      exact ret_none (v := .tuple #[.int .i64 0, .int .i64 8]) (by simp [results, Tryd.results58, go_sem]) ⟨by simp [Cal.daysR, hv, hy], (by repeat (first | exact Ext.refl _ | (refine Ext.alloc ?_ _) | (refine Ext.trans ?_ (by assumption))))⟩
end Go.Proofs.YtfchchmmjabjnaaDoor
