/- The walk of at: the day with a number. -/
import Derived.Test.YtfchchmmjabjnaaDoorWn
namespace Go.Proofs.YtfchchmmjabjnaaDoor
open Go Go.RowKit Go.Shelf
attribute [local go_sem] Oper.semAt_some gv_yes

theorem held_set4 {W : World} {b : Nat} {t : TypeId} {v0 v1 v2 v3 : Value} (h : Held W b t #[v0, v1, v2, v3]) (u0 u1 u2 u3 : Value) :
    Held ((((W.setCell ⟨b, 0, none⟩ u0).setCell ⟨b, 1, none⟩ u1).setCell ⟨b, 2, none⟩ u2).setCell ⟨b, 3, none⟩ u3) b t #[u0, u1, u2, u3] := by
  unfold Held at h ⊢
  simp [World.setCell, Array.getElem?_modify, h]
theorem four_one {W : World} {b b' : Nat} {t t' : TypeId} {v0 v1 v2 v3 v' : Value} (h : Held W b t #[v0, v1, v2, v3]) (h' : Boxed W b' t' v') (hne : b ≠ b') (u0 u1 u2 u3 u' : Value) :
    Held (((((W.setCell ⟨b, 0, none⟩ u0).setCell ⟨b, 1, none⟩ u1).setCell ⟨b, 2, none⟩ u2).setCell ⟨b, 3, none⟩ u3).setCell ⟨b', 0, none⟩ u') b t #[u0, u1, u2, u3] ∧
    Boxed (((((W.setCell ⟨b, 0, none⟩ u0).setCell ⟨b, 1, none⟩ u1).setCell ⟨b, 2, none⟩ u2).setCell ⟨b, 3, none⟩ u3).setCell ⟨b', 0, none⟩ u') b' t' u' ∧
    KeepsOthers W (((((W.setCell ⟨b, 0, none⟩ u0).setCell ⟨b, 1, none⟩ u1).setCell ⟨b, 2, none⟩ u2).setCell ⟨b, 3, none⟩ u3).setCell ⟨b', 0, none⟩ u') ∧
    ∀ wd, Ext wd W → wd.heap.size ≤ b → wd.heap.size ≤ b' → Ext wd (((((W.setCell ⟨b, 0, none⟩ u0).setCell ⟨b, 1, none⟩ u1).setCell ⟨b, 2, none⟩ u2).setCell ⟨b, 3, none⟩ u3).setCell ⟨b', 0, none⟩ u') := by
  refine ⟨(held_set4 h u0 u1 u2 u3).other hne u', ?_, ((((KeepsOthers.setCell _ _ _).trans (KeepsOthers.setCell _ _ _)).trans (KeepsOthers.setCell _ _ _)).trans (KeepsOthers.setCell _ _ _)).trans (KeepsOthers.setCell _ _ _), fun wd e h1 h2 => ((((e.setCell h1 _).setCell h1 _).setCell h1 _).setCell h1 _).setCell h2 _⟩
  have h2 : Boxed ((((W.setCell ⟨b, 0, none⟩ u0).setCell ⟨b, 1, none⟩ u1).setCell ⟨b, 2, none⟩ u2).setCell ⟨b, 3, none⟩ u3) b' t' v' := by
    unfold Boxed at h' ⊢
    rw [← h']
    simp [World.setCell, Array.getElem?_modify, hne]
  exact h2.set u'
def NotDay (c : Cal) (n : Int) (l : List It) : Prop := ∀ x, x ∈ l → ¬ (x.first ≤ n ∧ n - x.first < x.len c)
theorem atFrom_none {c : Cal} {n : Int} : ∀ {l : List It}, NotDay c n l → c.atFrom n l = none
  | [], _ => rfl
  | x :: l, h => by rw [Cal.atFrom, if_neg (h x (List.mem_cons_self ..))]; exact atFrom_none (fun y hy => h y (List.mem_cons_of_mem _ hy))
theorem atFrom_here {c : Cal} {n : Int} {x : It} (hx : x.first ≤ n ∧ n - x.first < x.len c) : ∀ (pre l : List It), NotDay c n pre → c.atFrom n (pre ++ x :: l) = some ⟨x.y, x.n, x.s, n - x.first + 1⟩
  | [], l, _ => by simp [Cal.atFrom, hx]
  | y :: pre, l, h => by rw [List.cons_append, Cal.atFrom, if_neg (h y (List.mem_cons_self ..)), atFrom_here hx pre l (fun z hz => h z (List.mem_cons_of_mem _ hz))]
theorem at_none {c : Cal} {n : Int} (h : NotDay c n c.items) : c.at? n = none := atFrom_none h
theorem at_here {c : Cal} {n : Int} {pre : List It} {x : It} (hN : NotDay c n pre) (hx : x.first ≤ n ∧ n - x.first < x.len c) (hp : pre ++ [x] <+: c.items) : c.at? n = some ⟨x.y, x.n, x.s, n - x.first + 1⟩ := by
  obtain ⟨t, ht⟩ := hp
  rw [Cal.at?, ← ht, List.append_assoc, List.singleton_append, atFrom_here hx pre t hN]
theorem notDay_snoc {c : Cal} {n : Int} {l : List It} {x : It} (h : NotDay c n l) (hx : ¬ (x.first ≤ n ∧ n - x.first < x.len c)) : NotDay c n (l ++ [x]) := fun y hy => by
  rcases List.mem_append.1 hy with hy | hy
  · exact h y hy
  · rw [List.mem_singleton.1 hy]; exact hx
def Dt.val (d : Dt) : Value := .agg #[.int .i64 d.y, .int .i64 d.m, .bool d.s, .int .i64 d.d]
def atOk (o : Option Dt) : Int := if o.isSome then 0 else 8

def atW (A A' : Option Addr) (ca cb : Nat) (c : Cal) (n : Int) (w : World) : World := (w.alloc (.cells #[.slice A c.nk ca, .slice A' c.ny cb] 25)).alloc (.cells #[.int .i64 n] 3)
set_option maxRecDepth 100000 in
set_option maxHeartbeats 4000000 in
theorem at_any (A A' : Option Addr) (ca cb : Nat) (c : Cal) (n : Int) (w : World) (hC : CalAt w A ca A' cb c) (hlg : ∀ i, i < c.ny → 0 ≤ (c.yr i).lg ∧ (c.yr i).lg ≤ 8191) (hny : c.ny ≤ 400) (_hn1 : -9223372036854775808 ≤ n) (hn2 : n ≤ 9223372036854775807) :
    Calls Tryd.prog 89 #[.agg #[.slice A c.nk ca, .slice A' c.ny cb], .int .i64 n] w fun e w' => e = .returned (.tuple #[((c.at? n).getD zeroDt).val, .int .i64 (atOk (c.at? n))]) ∧ Ext w w' := by
  refine callsIn_wide.1 (callsIn_of_wp_marks (F := Fence.wide) (n := 9) Tryd.func89 rfl trivial (wpIn_wide.2 ?_) rfl)
  simp only [Tryd.ntmps89, List.size_toArray, List.length_cons, List.length_nil, Nat.reduceAdd, Nat.reduceSub, Array.replicate_succ, Array.replicate_zero, List.push_toArray, List.append_toArray, List.nil_append, List.cons_append]
  go_wp2_with (go_at_call 103; refine (months_any _ _ _ _ c _).mono ?_; rintro e w' ⟨rfl, rfl⟩)
  obtain ⟨wd, hwd⟩ : ∃ wd, wd = atW A A' ca cb c n w := ⟨_, rfl⟩
  have hEd : Ext w wd := by rw [hwd]; unfold atW; exact (by repeat (first | exact Ext.refl _ | (refine Ext.alloc ?_ _) | (refine Ext.trans ?_ (by assumption))))
  have hsd : wd.heap.size = w.heap.size + 1 + 1 := by rw [hwd]; simp [atW]
  have hdb : Held wd (w.heap.size + 1) 3 #[.int .i64 n] := by rw [hwd]; unfold atW; exact (by repeat (first | (refine Held.at _ _ _ _ ?_; (simp; done)) | refine Held.alloc ?_ _))
  have hcb : Held wd w.heap.size 25 #[.slice A c.nk ca, .slice A' c.ny cb] := by rw [hwd]; unfold atW; exact (by repeat (first | (refine Held.at _ _ _ _ ?_; (simp; done)) | refine Held.alloc ?_ _))
  generalize hW5 : World.alloc _ _ = W5
  have hE5 : Ext wd W5 := by rw [← hW5, hwd]; unfold atW; exact (by repeat (first | exact Ext.refl _ | (refine Ext.alloc ?_ _) | (refine Ext.trans ?_ (by assumption))))
  have hs5 : W5.heap.size = w.heap.size + 1 + 1 + 1 + 1 + 1 := by rw [← hW5]; simp
  have b4 : Held W5 (w.heap.size + 1 + 1) 39 #[.int .i64 0, .int .i64 0, .bool false, .int .i64 0] := by rw [← hW5]; exact (by repeat (first | (refine Held.at _ _ _ _ ?_; (simp; done)) | refine Held.alloc ?_ _))
  have b5 : Boxed W5 (w.heap.size + 1 + 1 + 1) 29 (.int .i64 0) := by rw [← hW5]; exact Held.boxed (by repeat (first | (refine Held.at _ _ _ _ ?_; (simp; done)) | refine Held.alloc ?_ _))
  have hB : W5.cell? ⟨w.heap.size + 1 + 1 + 1 + 1, 1, none⟩ = some (.slice A' c.ny cb) := by rw [← hW5]; exact (Held.cell (t := 25) (cs := #[.slice A c.nk ca, .slice A' c.ny cb]) (by repeat (first | (refine Held.at _ _ _ _ ?_; (simp; done)) | refine Held.alloc ?_ _)) 1)
  clear hW5 hwd
  generalize hs : w.heap.size = s at *
  refine loop_months (A := A) (A' := A') (ca := ca) (cb := cb) (c := c) (B := s + 1 + 1 + 1 + 1) wd W5 rfl rfl (hC.ext hEd) hlg hny hE5 hB (by omega)
    (fun pre W => Ext wd W ∧ Held W (s + 1 + 1) 39 #[.int .i64 0, .int .i64 0, .bool false, .int .i64 0] ∧ Boxed W (s + 1 + 1 + 1) 29 (.int .i64 0) ∧ NotDay c n (Mo.its pre))
    (fun c' pre W => Ext wd W ∧ ∃ p : List (Mo c) × Mo c, Held W (s + 1 + 1) 39 #[.int .i64 (p.2.1.y : Int), .int .i64 p.2.1.n, .bool p.2.1.s, .int .i64 (n - p.2.1.first + 1)] ∧ Boxed W (s + 1 + 1 + 1) 29 (.int .i64 0) ∧
      c' = .ret ∧ pre = p.1 ++ [p.2] ∧ NotDay c n (Mo.its p.1) ∧ p.2.1.first ≤ n ∧ n - p.2.1.first < p.2.1.len c)
    (OwnFrom.and (ownFrom_ext (by omega)) (OwnFrom.and (ownFrom_held _ _ _ _) (OwnFrom.and (ownFrom_box _ _ _ _) (ownFrom_pure _ _))))
    (fun c' => OwnFrom.and (ownFrom_ext (by omega)) (ownFrom_ex fun p => OwnFrom.and (ownFrom_held _ _ _ _) (OwnFrom.and (ownFrom_box _ _ _ _) (ownFrom_pure _ _))))
    ⟨hE5, b4, b5, fun _ h => (by cases h)⟩
    (AxM (s + 1 + 1 + 1 + 1) (fun y Bx => #[.agg #[.slice A c.nk ca, .slice A' c.ny cb], .int .i64 n, .pointer (some ⟨s, 0, none⟩), .pointer (some ⟨s + 1, 0, none⟩), .pointer (some ⟨s + 1 + 1, 0, none⟩), .pointer (some ⟨s + 1 + 1 + 1, 0, none⟩), .pointer (some ⟨Bx, 0, none⟩), .int .i64 y.first,
      .agg #[.slice A c.nk ca, .slice A' c.ny cb], .func (.func 123) #[] #[.pointer (some ⟨s + 1 + 1 + 1 + 1, 0, none⟩)], .agg #[.int .i64 (y.y : Int), .int .i64 y.n, .bool y.s], .int .i64 y.first, undef, undef, undef, undef, undef, undef, undef, undef, undef, undef, undef, undef, undef, undef, undef, undef, undef, undef, undef, undef, undef, undef, undef, undef])) axM_own ?assign ?body ?done ?stop
  case assign =>
    intro l pre x W K hi hK
    simp only [Mo.enc]
    gi_wp2
    exact hK _ _ (keepsFrom_ext ((Ext.refl W).alloc _)) (KpY.of_ext ((Ext.refl W).alloc _) hi.1.size) ⟨hi.1.alloc _, hi.2.1.alloc _, hi.2.2.1.alloc _, hi.2.2.2⟩ ⟨W.heap.size, hi.2.2.1.lt, Held.new _ _ _, rfl⟩
  case body =>
    rintro l pre x a' W hl ⟨hE, b4, b5, hN⟩ ⟨Bx, hBx, hm, rfl⟩ hlt
    have hxok := x.2
    have hx1 := hxok.f1
    have hx2 := hxok.f2
    have hxy := hxok.y
    have hxn := hxok.n1
    have hxn2 := hxok.n12
    have hCW := (hC.ext hEd).ext hE
    have hlx := hlg _ hxy
    clear hxok
    have hdW := hdb.ext hE
    have hcW := hcb.ext hE
    obtain ⟨m0, m1, m2⟩ := hm.c3
    have e0 := hdW.c1
    obtain ⟨k0, k1⟩ := hcW.c2
    have hl1 := hm.lt
    have hl2 := hdW.lt
    have hl3 := hcW.lt
    have HL : Hid (x.1.len c = (c.yr x.1.y).len x.1.n x.1.s) := rfl
    by_cases hg : x.1.first ≤ n
    · have hgd : decide (x.1.first ≤ n) = true := decide_eq_true hg
      have hsub : IntKind.i64.wrap (n - x.1.first) = n - x.1.first := by rw [IntKind.wrap_i64]; omega
      gi_upto_region 4 with (fail)
      refine wpIn_region_xw W mixed (by kernel_rfl) (by kernel_rfl) (by repeat (first | exact Ext.refl _ | (refine Ext.alloc ?_ _) | (refine Ext.trans ?_ (by assumption)))) ?_
      intro hne hrx hry
      try simp only []
      try simp only [List.append_eq, List.cons_append, List.nil_append]
      skip
      repeat (first
        | go_big_quiet_skip
        | (go_big_quiet_want; go_big_quiet_op; go_big_quiet_on)
        | (go_big_quiet_want; go_big_quiet_op; apply Exists.intro; refine ⟨fun u => ?_, ?_⟩
           · first
               | (go_at_call 104; refine (of_any _ _ _ _ c x.1.y _ _ _ (hCW.ext (Ext.trans (by repeat (first | exact Ext.refl _ | (refine Ext.alloc ?_ _) | (refine Ext.trans ?_ (by assumption)))) u.e)) hxy hxn hxn2 hlx.1 hlx.2).mono ?_; rintro e w' ⟨rfl, hb⟩; exact ⟨rfl, u.back hb⟩)
           go_big_quiet_on))
      clear hne hry hrx
      refine wpQuiet_nil ?_
      intro wq hq
      obtain ⟨hcwq, hfwq, hzwq⟩ := Ext.rules hq
      try simp only [World.size_alloc] at hzwq
      obtain ⟨hcbwq, hfbwq, hzbwq⟩ := Ext.rules (show Ext W wq from (by repeat (first | exact Ext.refl _ | (refine Ext.alloc ?_ _) | (refine Ext.trans ?_ (by assumption)))))
      clear hcwq hfwq
      by_cases hd : n - x.1.first < (c.yr x.1.y).len x.1.n x.1.s
      · rw [decide_eq_true hd]
        clear m0 m1 m2 e0 k0 k1
        obtain ⟨m0, m1, m2⟩ := (hm.ext hq).c3
        have e0 := (hdW.ext hq).c1
        have hl1 := (hm.ext hq).lt
        have hl2 := (hdW.ext hq).lt
        have b4q := b4.ext hq
        have b5q := boxed_ext b5 hq
        obtain ⟨w0, w1, w2, w3⟩ := b4q.c4
        have f0 := b4q.frozen 0
        have f1 := b4q.frozen 1
        have f2 := b4q.frozen 2
        have f3 := b4q.frozen 3
        have w5 := b5q.cell
        have f5 := b5q.frozen
        clear hcbwq hfbwq
        obtain ⟨g4, g5, gK, gE⟩ := four_one b4q b5q (by omega) (.int .i64 (x.1.y : Int)) (.int .i64 x.1.n) (.bool x.1.s) (.int .i64 (n - x.1.first + 1)) (.int .i64 0)
        gi_wp2
        exact ⟨(keepsFrom_ext hq).trans (gK.from _), gE _ (hE.trans hq) (by omega) (by omega), (pre, x), g4, g5, rfl, rfl, hN, hg, by rw [HL.out]; exact hd⟩
      · rw [decide_eq_false hd]
        have HD := Lib.hid hd
        clear hd
        gi_wp2
        exact ⟨keepsFrom_ext hq, KpY.of_ext hq (by have := hE.size; omega), hE.trans hq, b4.ext hq, boxed_ext b5 hq, by rw [its_snoc]; exact notDay_snoc hN (fun h => by have h2 := h.2; rw [HL.out] at h2; have := HD.out; omega)⟩
    · have hgd : decide (x.1.first ≤ n) = false := decide_eq_false hg
      have HG := Lib.hid hg
      clear hg
      gi_upto_region 4 with (fail)
      refine wpIn_region_xw W mixed (by kernel_rfl) (by kernel_rfl) (by repeat (first | exact Ext.refl _ | (refine Ext.alloc ?_ _) | (refine Ext.trans ?_ (by assumption)))) ?_
      intro hne hrx hry
      try simp only []
      try simp only [List.append_eq, List.cons_append, List.nil_append]
      skip
      repeat (first
        | go_big_quiet_skip
        | (go_big_quiet_want; go_big_quiet_op; go_big_quiet_on))
      clear hne hry hrx
      refine wpQuiet_nil ?_
      intro wq hq
      obtain ⟨hcwq, hfwq, hzwq⟩ := Ext.rules hq
      try simp only [World.size_alloc] at hzwq
      obtain ⟨hcbwq, hfbwq, hzbwq⟩ := Ext.rules (show Ext W wq from (by repeat (first | exact Ext.refl _ | (refine Ext.alloc ?_ _) | (refine Ext.trans ?_ (by assumption)))))
      clear hcwq hfwq
      gi_wp2
      exact ⟨keepsFrom_ext hq, KpY.of_ext hq (by have := hE.size; omega), hE.trans hq, b4.ext hq, boxed_ext b5 hq, by rw [its_snoc]; exact notDay_snoc hN (fun h => by have := HG.out; have := h.1; omega)⟩
  case done =>
    rintro D xs W hD hxs ⟨hE, b4, b5, hN⟩ hK
    obtain ⟨w0, w1, w2, w3⟩ := b4.c4
    have f0 := b4.frozen 0
    have f1 := b4.frozen 1
    have f2 := b4.frozen 2
    have f3 := b4.frozen 3
    have w5 := b5.cell
    have f5 := b5.frozen
    rw [hxs] at hN
    have HN := Lib.hid (at_none hN)
    clear hN hxs
    obtain ⟨g4, g5, gK, gE⟩ := four_one b4 b5 (by omega) (.int .i64 0) (.int .i64 0) (.bool false) (.int .i64 0) (.int .i64 8)
    have hE2 := gE _ hE (by omega) (by omega)
    have hK2 := gK.same D _ hK rfl
    go_wp2
    clear w0 w1 w2 w3 f0 f1 f2 f3 w5 f5 gK gE b4 b5
    generalize World.setCell _ _ _ = W6 at *
    obtain ⟨c0, c1, c2, c3⟩ := (show Held (W6.putObj D (.deferred none)) _ _ _ from (grownBy_putObj' W6 D (.deferred none)).block _ g4.lt (fun e => by cases e; rw [show W6.heap[s + 1 + 1]? = _ from g4] at hK2; cases hK2) |>.trans g4).c4
    have c5 := (boxed_turned (o' := .deferred none) (show Boxed W6 _ _ _ from g5) hK2 rfl).cell
    refine ret_mark hK2 (v := .tuple #[zeroDt.val, .int .i64 8]) (by simp [results, Tryd.results89, go_sem, c0, c1, c2, c3, c5, Dt.val, zeroDt]) ⟨by rw [HN.out]; rfl, hEd.trans (hE2.putObj (by omega) _)⟩
  case stop =>
    rintro D c' pre W hD hpre ⟨hE, ⟨p, x⟩, b4, b5, rfl, rfl, hN, hg, hd⟩ hK
    rw [its_snoc] at hpre
    have HN := Lib.hid (at_here hN ⟨hg, hd⟩ hpre)
    clear hN hpre hg hd
    go_wp2
    obtain ⟨c0, c1, c2, c3⟩ := (show Held (W.putObj D (.deferred none)) _ _ _ from (grownBy_putObj' W D (.deferred none)).block _ b4.lt (fun e => by cases e; rw [show W.heap[s + 1 + 1]? = _ from b4] at hK; cases hK) |>.trans b4).c4
    have c5 := (boxed_turned (o' := .deferred none) b5 hK rfl).cell
    refine ret_mark hK (v := .tuple #[(Dt.mk x.1.y x.1.n x.1.s (n - x.1.first + 1)).val, .int .i64 0]) (by simp [results, Tryd.results89, go_sem, c0, c1, c2, c3, c5, Dt.val]) ⟨by rw [HN.out]; rfl, hEd.trans (hE.putObj (by omega) _)⟩
end Go.Proofs.YtfchchmmjabjnaaDoor
