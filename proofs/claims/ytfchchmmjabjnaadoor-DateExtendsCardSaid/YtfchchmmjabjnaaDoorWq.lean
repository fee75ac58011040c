/- The walk of spans: the days that fit a trace. -/
import Derived.Test.YtfchchmmjabjnaaDoorWp
import Derived.RangeFuncBox
import Derived.Laws.OwnMore
import Derived.Deep.Onto
namespace Go.Proofs.YtfchchmmjabjnaaDoor
open Go Go.RowKit Go.Shelf
attribute [local go_sem] Oper.semAt_some gv_yes

def spc (l : List Sp) : List Value := l.flatMap Sp.cells
theorem spc_append (l l' : List Sp) : spc (l ++ l') = spc l ++ spc l' := by simp [spc]
theorem spc_length : ∀ l : List Sp, (spc l).length = l.length * 2
  | [] => rfl
  | x :: l => by
    have := spc_length l
    show ((Sp.cells x) ++ spc l).length = _
    rw [List.length_append, this, List.length_cons]
    show 2 + _ = _
    omega
theorem spc_set (l : List Sp) (a b n : Int) : (spc (l ++ [⟨a, b⟩])).set (l.length * 2 + 1) (.int .i64 n) = spc (l ++ [⟨a, n⟩]) := by
  rw [spc_append, spc_append, List.set_append_right (h := by rw [spc_length]; omega), spc_length]
  congr 1
  rw [show l.length * 2 + 1 - l.length * 2 = 1 by omega]; rfl
theorem spc_last (l : List Sp) (a b : Int) : (spc (l ++ [⟨a, b⟩]))[l.length * 2 + 1]? = some (.int .i64 b) := by
  rw [spc_append, List.getElem?_append_right (by rw [spc_length]; omega), spc_length, show l.length * 2 + 1 - l.length * 2 = 1 by omega]; rfl
theorem Held.kept {W W' : World} {row : Option Nat} {b : Nat} {t : TypeId} {cs : Array Value} (h : Held W b t cs) (hg : W.grownBy W' row) (hne : some b ≠ row) : Held W' b t cs := (hg.block b h.lt hne).trans h
theorem Held.not_row {W : World} {b : Nat} {t e : TypeId} {cs : Array Value} (h : Held W b t cs) (hte : t ≠ e) {base size k : Nat} {v : Value} {xs : List Value} (hr : W.ownsRow base e size v k xs) : some b ≠ v.ownBlock := by
  rcases hr.2 with ⟨rfl, _⟩ | ⟨g, cap, cur, rfl, _, hgb, _⟩
  · simp [Value.ownBlock]
  · intro e'
    obtain rfl : b = g := by simpa [Value.ownBlock] using e'
    have := (show W.heap[b]? = _ from h).symm.trans hgb
    simp at this
    exact hte this.2
theorem row_type {W : World} {base size k : Nat} {e : TypeId} {v : Value} {xs : List Value} (hr : W.ownsRow base e size v k xs) : ∀ r, v.ownBlock = some r → base ≤ r ∧ ∃ cur, W.heap[r]? = some (.cells cur e (0, 0)) := by
  rcases hr.2 with ⟨rfl, _⟩ | ⟨g, cap, cur, rfl, hb, hgb, _⟩
  · intro r h; simp [Value.ownBlock] at h
  · intro r h
    obtain rfl : g = r := by simpa [Value.ownBlock] using h
    exact ⟨hb, cur, hgb⟩
theorem cells_new2 (w : World) (x y : Value) (t : TypeId) : ∀ j u, [x, y][j]? = some u → (w.alloc (.cells #[x, y] t)).cell? ((⟨w.heap.size, 0, none⟩ : Addr).add j) = some u := fun j u hj => by
  have h := Held.new w t #[x, y]
  match j, hj with
  | 0, hj => simp at hj; subst hj; exact h.cell 0
  | 1, hj => simp at hj; subst hj; exact h.cell 1

/-- What a step of the loop's body leaves: the box of out, its row; what lay is kept. -/
structure SpStep (wd W0 W : World) (B0 Bo Bx : Nat) (mcs : Array Value) (L : List Sp) (v : Value) : Prop where
  e : Ext wd W
  k : KpY wd.heap.size W0 W
  f : KeepsFrom B0 W0 W
  m : Held W Bx 113 mcs
  b : Boxed W Bo 28 v
  r : W.ownsRow wd.heap.size 52 2 v L.length (spc L)
namespace SpStep
variable {wd W0 W W' : World} {B0 Bo Bx : Nat} {mcs : Array Value} {L : List Sp} {v : Value}
theorem ext (h : SpStep wd W0 W B0 Bo Bx mcs L v) (e : Ext W W') : SpStep wd W0 W' B0 Bo Bx mcs L v :=
  ⟨h.e.trans e, h.k.trans (KpY.of_ext e h.e.size), h.f.trans (keepsFrom_ext e), h.m.ext e, boxed_ext h.b e, h.r.kept (grown_of_ext e) (by
    rcases h.r.2 with ⟨rfl, _⟩ | ⟨g, cap, cur, rfl, _⟩
    · exact .inl rfl
    · exact .inr (by simp [Value.ownBlock]))⟩
theorem toL {L2 : List Sp} (h : SpStep wd W0 W B0 Bo Bx mcs L v) (e : L2 = L) : SpStep wd W0 W B0 Bo Bx mcs L2 v := e ▸ h
/-- out[k].Last = n. -/
theorem stored {L' : List Sp} {a b : Int} {g cap : Nat} (h : SpStep wd W0 W B0 Bo Bx mcs (L' ++ [⟨a, b⟩]) (.slice (some ⟨g, 0, none⟩) (L'.length + 1) cap)) (n : Int) :
    SpStep wd W0 (W.setCell ⟨g, L'.length * 2 + 1, none⟩ (.int .i64 n)) B0 Bo Bx mcs (L' ++ [⟨a, n⟩]) (.slice (some ⟨g, 0, none⟩) (L'.length + 1) cap) := by
  have hr := h.r
  rw [List.length_append] at hr
  obtain ⟨h1, h2⟩ := World.ownsRow.stored hr (L'.length * 2 + 1) (.int .i64 n)
  obtain ⟨hg, cur, hc⟩ := row_type h.r g rfl
  rw [spc_set] at h1
  refine ⟨h.e.setCell (p := ⟨g, L'.length * 2 + 1, none⟩) hg _, h.k.trans (KpY.grown h2 h.e.size (fun r e => by cases e; exact ⟨hg, _, hc, fun cs f hh => by injection hh with _ ht; exact absurd ht (by decide)⟩)), h.f.trans ((KeepsOthers.setCell _ _ _).from _),
    h.m.kept h2 (h.m.not_row (by decide) h.r), h.b.kept h2 (h.b.not_row (by decide) h.r), by rw [List.length_append]; exact h1⟩
/-- out = append(out, Span{n, n}). -/
theorem appended {w1 : World} {v' : Value} {n : Int} (h : SpStep wd W0 W B0 Bo Bx mcs L v) (hB : wd.heap.size ≤ Bo) {o : Obj}
    (hown : w1.ownsRow wd.heap.size 52 2 v' (L.length + 1) (spc L ++ [.int .i64 n, .int .i64 n])) (hgrow : (W.alloc o).grownBy w1 v.ownBlock) :
    Boxed w1 Bo 28 v ∧ SpStep wd W0 (w1.setCell ⟨Bo, 0, none⟩ v') B0 Bo Bx mcs (L ++ [⟨n, n⟩]) v' := by
  obtain ⟨h1, h2, h3, h4, h5⟩ := h.b.appended (tmp := o) (by decide) h.r h.e.size hB hown hgrow
  have ha := (h.ext ((Ext.refl W).alloc o))
  have hrt := row_type ha.r
  refine ⟨h1, Below.trans h.e h5, h.k.trans ((KpY.of_ext ((Ext.refl W).alloc o) h.e.size).trans ((KpY.grown hgrow ha.e.size (fun r e => ?_)).trans (KpY.box h1 (by decide) hB _))), h.f.trans (h4.from _), ?_, h2, ?_⟩
  · obtain ⟨g1, cur, g2⟩ := hrt r e
    exact ⟨g1, _, g2, fun cs f hh => by injection hh with _ ht; exact absurd ht (by decide)⟩
  · have m1 := ha.m.kept hgrow (ha.m.not_row (by decide) ha.r)
    exact m1.other (fun e => by
      have e1 := (show w1.heap[Bx]? = _ from m1)
      rw [e, show w1.heap[Bo]? = _ from h1] at e1
      simp at e1) _
  · rw [List.length_append, spc_append]; exact h3
end SpStep

theorem addDay_nil (n : Int) : addDay [] n = [⟨n, n⟩] := rfl
theorem addDay_join (l : List Sp) (a b n : Int) (h : b = n - 1) : addDay (l ++ [⟨a, b⟩]) n = l ++ [⟨a, n⟩] := by simp [addDay, h]
theorem addDay_apart (l : List Sp) (a b n : Int) (h : b ≠ n - 1) : addDay (l ++ [⟨a, b⟩]) n = l ++ [⟨a, b⟩] ++ [⟨n, n⟩] := by simp [addDay, h]
theorem addDay_length (l : List Sp) (n : Int) : (addDay l n).length ≤ l.length + 1 := by
  rcases List.eq_nil_or_concat l with rfl | ⟨l', ⟨a, b⟩, rfl⟩
  · simp [addDay]
  · rw [List.concat_eq_append]
    by_cases h : b = n - 1
    · rw [addDay_join _ _ _ _ h]; simp
    · rw [addDay_apart _ _ _ _ h]; simp
theorem dayFold_length (t : Tr) (first : Int) (o : List Sp) : ∀ k : Nat, (t.dayFold first o k).length ≤ o.length + k
  | 0 => by simp [Tr.dayFold]
  | k + 1 => by
    have := dayFold_length t first o k
    rw [Tr.dayFold]
    split
    · have := addDay_length (t.dayFold first o k) (first + k); omega
    · omega
theorem itFold_length (c : Cal) (t : Tr) (o : List Sp) (x : It) : (c.itFold t o x).length ≤ o.length + 30 := by
  rw [Cal.itFold]
  split
  · have h := dayFold_length t x.first o (x.len c).toNat
    have h2 := len_29 (c.yr x.y) x.n x.s
    unfold It.len at *; omega
  · omega
def foldTo (c : Cal) (t : Tr) (l : List It) : List Sp := l.foldl (c.itFold t) []
theorem foldTo_snoc (c : Cal) (t : Tr) (l : List It) (x : It) : foldTo c t (l ++ [x]) = c.itFold t (foldTo c t l) x := by simp [foldTo]
theorem foldTo_length (c : Cal) (t : Tr) (l : List It) : (foldTo c t l).length ≤ 30 * l.length := by
  have h : ∀ (l : List It) (o : List Sp), (l.foldl (c.itFold t) o).length ≤ o.length + 30 * l.length := by
    intro l
    induction l with
    | nil => intro o; simp
    | cons x l ih => intro o; have := ih (c.itFold t o x); have := itFold_length c t o x; simp only [List.foldl_cons, List.length_cons]; omega
  have := h l []
  simpa [foldTo] using this
/-- A slice that reads as some spans. -/
def SpansAt (w : World) (v : Value) (l : List Sp) : Prop := ∃ A cap, v = .slice A l.length cap ∧ RowsAt w A l.length 2 (fun i => (l.getD i ⟨0, 0⟩).cells) ∧ l.length ≤ cap ∧ cap ≤ maxLen
theorem SpansAt.ext {w w' : World} {v : Value} {l : List Sp} (h : SpansAt w v l) (e : Ext w w') : SpansAt w' v l := by
  obtain ⟨A, cap, hv, hr, hc, hm⟩ := h
  exact ⟨A, cap, hv, hr.ext e, hc, hm⟩
theorem spc_get (l : List Sp) (i j : Nat) (v : Value) (hi : i < l.length) (hv : ((l.getD i ⟨0, 0⟩).cells)[j]? = some v) : (spc l)[i * 2 + j]? = some v := by
  have hj : j < 2 := by have := (List.getElem?_eq_some_iff.1 hv).1; exact this
  have e : l = l.take i ++ (l[i] :: l.drop (i + 1)) := by rw [List.getElem_cons_drop, List.take_append_drop]
  have hl : (spc (l.take i)).length = i * 2 := by rw [spc_length, List.length_take]; omega
  have hd : l.getD i ⟨0, 0⟩ = l[i] := by rw [List.getD_eq_getElem?_getD, List.getElem?_eq_getElem hi]; rfl
  rw [hd] at hv
  have hc : (l[i].cells).length = 2 := rfl
  rw [e, spc_append, List.getElem?_append_right (by rw [hl]; omega), hl, show i * 2 + j - i * 2 = j by omega]
  show ((l[i].cells) ++ spc (l.drop (i + 1)))[j]? = _
  rw [List.getElem?_append_left (by rw [hc]; exact hj), hv]
theorem spansAt_own {w : World} {base : Nat} {v : Value} {l : List Sp} (h : w.ownsRow base 52 2 v l.length (spc l)) : SpansAt w v l := by
  rcases h.2 with ⟨rfl, h0⟩ | ⟨g, cap, cur, rfl, hb, hg, hn, hm, _⟩
  · refine ⟨none, 0, by rw [h0], fun hp => by omega, by omega, by decide⟩
  · refine ⟨_, _, rfl, fun _ => ⟨g, 0, rfl, (Array.getElem?_eq_some_iff.1 hg).1, fun i j v hi hv => ?_⟩, hn, hm⟩
    have hj : j < 2 := by have := (List.getElem?_eq_some_iff.1 hv).1; exact this
    rw [Nat.zero_add, World.ownsRow.cellAt h (i * 2 + j) (by omega)]
    exact spc_get l i j v hi hv

def spW (A A' : Option Addr) (ca cb : Nat) (c : Cal) (t : Tr) (w : World) : World := (w.alloc (.cells #[.slice A c.nk ca, .slice A' c.ny cb] 25)).alloc (.cells #[.int .i64 t.d, .bool t.more, .int .i64 t.m, .bool t.s, .string t.nm, .int .i64 t.af, .string t.kg] 33)
theorem info_span : (Tryd.prog.info? 52).map (fun i => (i.zero, i.size, i.bytes)) = some (some (.agg #[.int .i64 0, .int .i64 0]), 2, 16) := by kernel_rfl
set_option maxRecDepth 100000 in
set_option maxHeartbeats 8000000 in
theorem spans_own (A A' : Option Addr) (ca cb : Nat) (c : Cal) (t : Tr) (w : World) (hC : CalAt w A ca A' cb c) (hlg : ∀ i, i < c.ny → 0 ≤ (c.yr i).lg ∧ (c.yr i).lg ≤ 8191) (hny : c.ny ≤ 400) (hkg : ∀ i, i < c.ny → 0 ≤ (c.yr i).k ∧ (c.yr i).k < c.nk) (ha : 0 ≤ t.af) (ha' : t.af ≤ 3) :
    Calls Tryd.prog 77 #[.agg #[.slice A c.nk ca, .slice A' c.ny cb], .agg #[.int .i64 t.d, .bool t.more, .int .i64 t.m, .bool t.s, .string t.nm, .int .i64 t.af, .string t.kg]] w fun e w' => ∃ v, e = .returned v ∧ Ext w w' ∧ w'.ownsRow w.heap.size 52 2 v (c.spans t).length (spc (c.spans t)) := by
  refine callsIn_wide.1 (callsIn_of_wp_marks (F := Fence.wide) (n := 9) Tryd.func77 rfl trivial (wpIn_wide.2 ?_) rfl)
  simp only [Tryd.ntmps77, List.size_toArray, List.length_cons, List.length_nil, Nat.reduceAdd, Nat.reduceSub, Array.replicate_succ, Array.replicate_zero, List.push_toArray, List.append_toArray, List.nil_append, List.cons_append]
  go_wp2_with (go_at_call 103; refine (months_any _ _ _ _ c _).mono ?_; rintro e w' ⟨rfl, rfl⟩)
  obtain ⟨wd, hwd⟩ : ∃ wd, wd = spW A A' ca cb c t w := ⟨_, rfl⟩
  have hEd : Ext w wd := by rw [hwd]; unfold spW; exact (by repeat (first | exact Ext.refl _ | (refine Ext.alloc ?_ _) | (refine Ext.trans ?_ (by assumption))))
  have hsd : wd.heap.size = w.heap.size + 1 + 1 := by rw [hwd]; simp [spW]
  have htb : Held wd (w.heap.size + 1) 33 #[.int .i64 t.d, .bool t.more, .int .i64 t.m, .bool t.s, .string t.nm, .int .i64 t.af, .string t.kg] := by rw [hwd]; unfold spW; exact (by repeat (first | (refine Held.at _ _ _ _ ?_; (simp; done)) | refine Held.alloc ?_ _))
  have hcb : Held wd w.heap.size 25 #[.slice A c.nk ca, .slice A' c.ny cb] := by rw [hwd]; unfold spW; exact (by repeat (first | (refine Held.at _ _ _ _ ?_; (simp; done)) | refine Held.alloc ?_ _))
  generalize hW5 : World.alloc _ _ = W5
  have hE5 : Ext wd W5 := by rw [← hW5, hwd]; unfold spW; exact (by repeat (first | exact Ext.refl _ | (refine Ext.alloc ?_ _) | (refine Ext.trans ?_ (by assumption))))
  have hs5 : W5.heap.size = w.heap.size + 1 + 1 + 1 + 1 := by rw [← hW5]; simp
  have b5 : Boxed W5 (w.heap.size + 1 + 1) 28 (.slice none 0 0) := by rw [← hW5]; exact Held.boxed (by repeat (first | (refine Held.at _ _ _ _ ?_; (simp; done)) | refine Held.alloc ?_ _))
  have hB : W5.cell? ⟨w.heap.size + 1 + 1 + 1, 1, none⟩ = some (.slice A' c.ny cb) := by rw [← hW5]; exact (Held.cell (t := 25) (cs := #[.slice A c.nk ca, .slice A' c.ny cb]) (by repeat (first | (refine Held.at _ _ _ _ ?_; (simp; done)) | refine Held.alloc ?_ _)) 1)
  clear hW5 hwd
  generalize hs : w.heap.size = s at *
  obtain ⟨i0, hi, hz0, hz1, hz2⟩ := info_parts info_span
  have hsd1 := Nat.le_of_eq hsd
  have hsd2 := Nat.le_of_eq hsd.symm
  have hs51 := Nat.le_of_eq hs5
  have hs52 := Nat.le_of_eq hs5.symm
  clear hsd hs5 hs
  refine loop_months (A := A) (A' := A') (ca := ca) (cb := cb) (c := c) (B := s + 1 + 1 + 1) wd W5 rfl rfl (hC.ext hEd) hlg hny hE5 hB (by omega)
    (fun pre W => Ext wd W ∧ ∃ v, Boxed W (s + 1 + 1) 28 v ∧ W.ownsRow wd.heap.size 52 2 v (foldTo c t (Mo.its pre)).length (spc (foldTo c t (Mo.its pre))) ∧ True)
    (fun _ _ _ => False) (OwnFrom.and (ownFrom_ext (by omega)) (Own.from (holdsRow_own wd.heap.size (s + 1 + 1) 28 52 2 (fun pre => (foldTo c t (Mo.its pre)).length) (fun pre => spc (foldTo c t (Mo.its pre))) (fun _ _ => True)) _)) (fun _ _ _ _ _ h _ _ => h) ⟨hE5, _, b5, World.ownsRow_nil _ _ _ _, trivial⟩
    (AxM (s + 1 + 1 + 1) (fun m Bx => #[.agg #[.slice A c.nk ca, .slice A' c.ny cb], .agg #[.int .i64 t.d, .bool t.more, .int .i64 t.m, .bool t.s, .string t.nm, .int .i64 t.af, .string t.kg], .pointer (some ⟨s, 0, none⟩), .pointer (some ⟨s + 1, 0, none⟩), .slice none 0 0, .pointer (some ⟨s + 1 + 1, 0, none⟩), .pointer (some ⟨Bx, 0, none⟩), .int .i64 m.first, undef, undef, undef, .agg #[.slice A c.nk ca, .slice A' c.ny cb], .func (.func 123) #[] #[.pointer (some ⟨s + 1 + 1 + 1, 0, none⟩)],
      .agg #[.int .i64 (m.y : Int), .int .i64 m.n, .bool m.s], .int .i64 m.first, undef, undef, undef, undef, undef, undef, undef, undef, undef, undef, undef, undef, undef, undef, undef, undef, undef, undef, undef, undef, undef, undef, undef, undef, undef, undef, undef, undef, undef, undef, undef, undef, undef, undef, undef, undef, undef, undef, undef, undef, undef, undef, undef, undef, undef, undef, undef])) axM_own ?assign ?body ?done ?stop
  case assign =>
    intro l pre x W K hi hK
    simp only [Mo.enc]
    gi_wp2
    obtain ⟨hE, v, hb, hr, -⟩ := hi
    exact hK _ _ (keepsFrom_ext ((Ext.refl W).alloc _)) (KpY.of_ext ((Ext.refl W).alloc _) hE.size) ⟨hE.alloc _, v, hb.alloc _, hr.alloc _, trivial⟩ ⟨W.heap.size, hb.lt, Held.new _ _ _, rfl⟩
  case body =>
    rintro l pre x a' W hl ⟨hE, v, b5, hr, -⟩ ⟨Bx, hBx, hm, rfl⟩ hlt
    have hxok := x.2
    have hx1 := hxok.f1
    have hx2 := hxok.f2
    have hxy := hxok.y
    have hxn := hxok.n1
    have hxn2 := hxok.n12
    have hlx := hlg _ hxy
    have hkx := hkg _ hxy
    clear hxok
    have hCW := (hC.ext hEd).ext hE
    obtain ⟨m0, m1, m2⟩ := hm.c3
    obtain ⟨k0, k1⟩ := (hcb.ext hE).c2
    have tb := htb.ext hE
    have t0 := tb.cell 0
    have t1 := tb.cell 1
    have t2 := tb.cell 2
    have t3 := tb.cell 3
    have t4 := tb.cell 4
    have t5 := tb.cell 5
    have t6 := tb.cell 6
    simp only [List.getElem?_toArray, List.getElem?_cons_zero, List.getElem?_cons_succ] at t0 t1 t2 t3 t4 t5 t6
    have hl1 := hm.lt
    have hl2 := tb.lt
    have hl3 := (hcb.ext hE).lt
    have HF : Hid (foldTo c t (Mo.its (pre ++ [x])) = _) := (congrArg (foldTo c t) (its_snoc pre x)).trans (foldTo_snoc c t _ x.1)
    have hob := foldTo_length c t (Mo.its pre)
    rw [its_length] at hob
    generalize foldTo c t (Mo.its pre) = o at *
    gi_upto_region 5 with (fail)
    refine wpIn_region_xl W (by kernel_rfl) (by repeat (first | exact Ext.refl _ | (refine Ext.alloc ?_ _) | (refine Ext.trans ?_ (by assumption)))) ?_
    intro hne hrx hry
    try simp only []
    try simp only [List.append_eq, List.cons_append, List.nil_append]
    skip
    repeat (first
      | go_big_quiet_skip
      | (go_big_quiet_want; go_big_quiet_op; go_big_quiet_on)
      | (go_big_quiet_want; go_big_quiet_op; apply Exists.intro; refine ⟨fun u => ?_, ?_⟩
         · first
             | (go_at_call 84; refine (inMonth_any _ _ _ _ c t x.1.y _ _ _ (hCW.ext (Ext.trans (by repeat (first | exact Ext.refl _ | (refine Ext.alloc ?_ _) | (refine Ext.trans ?_ (by assumption)))) u.e)) hxy hny hkx.1 hkx.2 ha ha').mono ?_; rintro e w' ⟨rfl, hb⟩; exact ⟨rfl, u.back hb⟩)
         go_big_quiet_on))
    clear hne hry hrx
    refine wpQuiet_nil ?_
    intro wq hq
    obtain ⟨hcwq, hfwq, hzwq⟩ := Ext.rules hq
    try simp only [World.size_alloc] at hzwq
    obtain ⟨hcbwq, hfbwq, hzbwq⟩ := Ext.rules (show Ext W wq from (by repeat (first | exact Ext.refl _ | (refine Ext.alloc ?_ _) | (refine Ext.trans ?_ (by assumption)))))
    clear hcwq hfwq
    have hst : SpStep wd W wq W5.heap.size (s + 1 + 1) Bx #[.int .i64 (x.1.y : Int), .int .i64 x.1.n, .bool x.1.s] o v := SpStep.ext ⟨hE, KpY.refl _ _, KeepsFrom.refl _ _, hm, b5, hr⟩ hq
    have HI : Hid (c.itFold t o x.1 = if c.inMonth t x.1.y x.1.n x.1.s then t.dayFold x.1.first o ((c.yr x.1.y).len x.1.n x.1.s).toNat else o) := rfl
    generalize hin : c.inMonth t x.1.y x.1.n x.1.s = im at *
    clear hin m0 m1 m2 k0 k1 t0 t1 t2 t3 t4 t5 t6 hl1 hl2 hl3 hzwq hcbwq hfbwq hzbwq hq
    cases im
    · gi_wp2
      exact ⟨hst.f, hst.k, hst.e, v, hst.b, by rw [HF.out, HI.out]; exact hst.r, trivial⟩
    · have hln := len_29 (c.yr x.1.y) x.1.n x.1.s
      gi_wp2
      gi_loopw [8] (fun d wr => ∃ k : Nat, k ≤ ((c.yr x.1.y).len x.1.n x.1.s).toNat ∧ d = .int .i64 (k + 1) ∧ ∃ v, SpStep wd W wr W5.heap.size (s + 1 + 1) Bx #[.int .i64 (x.1.y : Int), .int .i64 x.1.n, .bool x.1.s] (t.dayFold x.1.first o k) v) (fun d _ => 32 - (intOf d).toNat)
      case atStart => exact ⟨0, Nat.zero_le _, rfl, v, hst⟩
      case round =>
        clear hst hE b5 hr hm
        obtain ⟨k, hk, rfl, v, hst⟩ := hrel
        obtain ⟨wo, rfl⟩ : ∃ wo : World, wo = wr := ⟨_, rfl⟩
        obtain ⟨m0, m1, m2⟩ := hst.m.c3
        obtain ⟨k0, k1⟩ := (hcb.ext hst.e).c2
        have hCo := (hC.ext hEd).ext hst.e
        have hl1 := hst.m.lt
        have hl3 := (hcb.ext hst.e).lt
        gi_upto_region 7 with (fail)
        refine wpIn_region_xl wo (by kernel_rfl) (by repeat (first | exact Ext.refl _ | (refine Ext.alloc ?_ _) | (refine Ext.trans ?_ (by assumption)))) ?_
        intro hne hrx hry
        try simp only []
        try simp only [List.append_eq, List.cons_append, List.nil_append]
        skip
        repeat (first
          | go_big_quiet_skip
          | (go_big_quiet_want; go_big_quiet_op; go_big_quiet_on)
          | (go_big_quiet_want; go_big_quiet_op; apply Exists.intro; refine ⟨fun u => ?_, ?_⟩
             · first
                 | (go_at_call 104; refine (of_any _ _ _ _ c x.1.y _ _ _ (hCo.ext (Ext.trans (by repeat (first | exact Ext.refl _ | (refine Ext.alloc ?_ _) | (refine Ext.trans ?_ (by assumption)))) u.e)) hxy hxn hxn2 hlx.1 hlx.2).mono ?_; rintro e w' ⟨rfl, hb⟩; exact ⟨rfl, u.back hb⟩)
             go_big_quiet_on))
        clear hne hry hrx
        refine wpQuiet_nil ?_
        intro w7 h7
        obtain ⟨hcw7, hfw7, hzw7⟩ := Ext.rules h7
        try simp only [World.size_alloc] at hzw7
        obtain ⟨hcbw7, hfbw7, hzbw7⟩ := Ext.rules (show Ext wo w7 from (by repeat (first | exact Ext.refl _ | (refine Ext.alloc ?_ _) | (refine Ext.trans ?_ (by assumption)))))
        clear hcw7 hfw7
        have hst7 := hst.ext h7
        clear m0 m1 m2 k0 k1 hl1 hl3 hCo hst hzw7 hcbw7 hfbw7 hzbw7 h7
        by_cases hkl : (k : Int) + 1 ≤ (c.yr x.1.y).len x.1.n x.1.s
        · have tb := htb.ext hst7.e
          have t0 := tb.cell 0
          have t1 := tb.cell 1
          have t2 := tb.cell 2
          have t3 := tb.cell 3
          have t4 := tb.cell 4
          have t5 := tb.cell 5
          have t6 := tb.cell 6
          simp only [List.getElem?_toArray, List.getElem?_cons_zero, List.getElem?_cons_succ] at t0 t1 t2 t3 t4 t5 t6
          have hl2 := tb.lt
          gi_upto_region 9 with (fail)
          refine wpIn_region_xl w7 (by kernel_rfl) (by repeat (first | exact Ext.refl _ | (refine Ext.alloc ?_ _) | (refine Ext.trans ?_ (by assumption)))) ?_
          intro hne hrx hry
          try simp only []
          try simp only [List.append_eq, List.cons_append, List.nil_append]
          skip
          repeat (first
            | go_big_quiet_skip
            | (go_big_quiet_want; go_big_quiet_op; go_big_quiet_on)
            | (go_big_quiet_want; go_big_quiet_op; apply Exists.intro; refine ⟨fun u => ?_, ?_⟩
               · first
                   | (go_at_call 86; refine (onDay_any t _ _).mono ?_; rintro e w' ⟨rfl, hb⟩; exact ⟨rfl, u.back hb⟩)
               go_big_quiet_on))
          clear hne hry hrx
          refine wpQuiet_nil ?_
          intro w9 h9
          obtain ⟨hcw9, hfw9, hzw9⟩ := Ext.rules h9
          try simp only [World.size_alloc] at hzw9
          obtain ⟨hcbw9, hfbw9, hzbw9⟩ := Ext.rules (show Ext w7 w9 from (by repeat (first | exact Ext.refl _ | (refine Ext.alloc ?_ _) | (refine Ext.trans ?_ (by assumption)))))
          clear hcw9 hfw9
          have hst9 := hst7.ext h9
          clear t0 t1 t2 t3 t4 t5 t6 hl2 tb hst7 hzw9 hcbw9 hfbw9 hzbw9 h9
          have HD : Hid (t.dayFold x.1.first o (k + 1) = if t.onDay ((k : Int) + 1) then addDay (t.dayFold x.1.first o k) (x.1.first + k) else t.dayFold x.1.first o k) := rfl
          generalize t.onDay ((k : Int) + 1) = od at *
          cases od
          · gi_wp2
            exact ⟨⟨k + 1, by omega, by go_num, v, by rw [HD.out]; exact hst9⟩, by simp [intOf]; omega⟩
          · have hol := dayFold_length t x.1.first o k
            have hob2 : (t.dayFold x.1.first o k).length ≤ 1000000 := by omega
            clear hol hob
            generalize t.dayFold x.1.first o k = L at *
            have hm1 : L.length + 1 ≤ maxLen := by unfold maxLen; omega
            have hm2 : (L.length + 1) * 16 ≤ 140737488355328 := by omega
            rcases List.eq_nil_or_concat L with rfl | ⟨L', ⟨a, b⟩, rfl⟩
            · obtain ⟨A0, cap0, rfl⟩ : ∃ A0 cap0, v = .slice A0 0 cap0 := by
                rcases hst9.r.2 with ⟨h, _⟩ | ⟨g, cap, cur, h, _⟩
                · exact ⟨_, _, h⟩
                · exact ⟨_, _, h⟩
              have hc5 := hst9.b.cell
              gi_wp2_with (gi_at_builtin; refine wpListIn_append_own _ rfl _ _ 28 rfl wd.heap.size 52 i0 (.agg #[.int .i64 0, .int .i64 0]) 2 16 Tryd.underlying28 hi hz0 hz1 hz2 rfl (by decide) _ _ _ rfl (hst9.r.alloc _) ⟨w9.heap.size, 0, none⟩ 1 1 [.int .i64 (x.1.first + ((k : Int) + 1) - 1), .int .i64 (x.1.first + ((k : Int) + 1) - 1)] rfl rfl (cells_new2 _ _ _ _) (by simp [Value.oneCell']) hm1 hm2 (by have := hst9.e.size; simp; omega) ?_; intro v' w1 hown' hgrow _; obtain ⟨hv1, hst1⟩ := hst9.appended hsd1 hown' hgrow; obtain ⟨g', cap', rfl⟩ := ownsRow_succ hown'; have hc1 := hv1.cell; have hf1 := hv1.frozen)
              exact ⟨⟨k + 1, by omega, by go_num, _, hst1.toL (by rw [HD.out, if_pos rfl, addDay_nil, show x.1.first + ((k : Int) + 1) - 1 = x.1.first + k by omega]; rfl)⟩, by simp [intOf]; omega⟩
            · rw [List.concat_eq_append] at *
              obtain ⟨g, cap, rfl⟩ := ownsRow_succ (show w9.ownsRow wd.heap.size 52 2 v (L'.length + 1) _ by have := hst9.r; rwa [List.length_append] at this)
              have hr9 := hst9.r
              have hc5 := hst9.b.cell
              have hlast : w9.cell? ⟨g, L'.length * 2 + 1, none⟩ = some (.int .i64 b) := by
                rw [List.length_append] at hr9
                exact (World.ownsRow.cellAt hr9 (L'.length * 2 + 1) (by omega)).trans (spc_last L' a b)
              have hfl : w9.frozen? ⟨g, L'.length * 2 + 1, none⟩ = false := by
                rw [List.length_append] at hr9
                exact World.ownsRow.frozenAt hr9 _
              have hLn : L'.length ≤ 1000000 := by rw [List.length_append] at hob2; omega
              clear hr9
              by_cases hbn : b = x.1.first + ((k : Int) + 1) - 1 - 1
              · have hbb : (b == x.1.first + ((k : Int) + 1) - 1 - 1) = true := beq_iff_eq.2 hbn
                have HB := Lib.hid hbn
                clear hbn
                have hs1 := hst9.stored (x.1.first + ((k : Int) + 1) - 1)
                gi_wp2
                exact ⟨⟨k + 1, by omega, by go_num, _, hs1.toL (by rw [HD.out, if_pos rfl, addDay_join _ _ _ _ (by have := HB.out; omega), show x.1.first + ((k : Int) + 1) - 1 = x.1.first + k by omega])⟩, by simp [intOf]; omega⟩
              · have hbb : (b == x.1.first + ((k : Int) + 1) - 1 - 1) = false := beq_eq_false_iff_ne.2 hbn
                have HB := Lib.hid hbn
                clear hbn
                gi_wp2_with (gi_at_builtin; refine wpListIn_append_own _ rfl _ _ 28 rfl wd.heap.size 52 i0 (.agg #[.int .i64 0, .int .i64 0]) 2 16 Tryd.underlying28 hi hz0 hz1 hz2 rfl (by decide) _ _ _ rfl (hst9.r.alloc _) ⟨w9.heap.size, 0, none⟩ 1 1 [.int .i64 (x.1.first + ((k : Int) + 1) - 1), .int .i64 (x.1.first + ((k : Int) + 1) - 1)] rfl rfl (cells_new2 _ _ _ _) (by simp [Value.oneCell']) hm1 hm2 (by have := hst9.e.size; simp; omega) ?_; intro v' w1 hown' hgrow _; obtain ⟨hv1, hst1⟩ := hst9.appended hsd1 hown' hgrow; obtain ⟨g', cap', rfl⟩ := ownsRow_succ hown'; have hc1 := hv1.cell; have hf1 := hv1.frozen)
                simp only [List.length_append, List.length_cons, List.length_nil, Nat.zero_add] at hst1
                exact ⟨⟨k + 1, by omega, by go_num, _, hst1.toL (by rw [HD.out, if_pos rfl, addDay_apart _ _ _ _ (by have := HB.out; omega), show x.1.first + ((k : Int) + 1) - 1 = x.1.first + k by omega])⟩, by simp [intOf]; omega⟩
        · gi_wp2
          have hkk : k = ((c.yr x.1.y).len x.1.n x.1.s).toNat := by omega
          exact ⟨hst7.f, hst7.k, hst7.e, v, hst7.b, by
            have e : foldTo c t (Mo.its (pre ++ [x])) = t.dayFold x.1.first o k := by rw [HF.out, HI.out, hkk]; rfl
            rw [e]; exact hst7.r⟩
  case done =>
    rintro D xs W hD hxs ⟨hE, v, b5, hr, -⟩ hK
    rw [hxs] at hr
    have hc5 := b5.cell
    go_wp2
    exact ret_mark hK (v := v) (by simp [results, Tryd.results77, go_sem]) ⟨v, rfl, hEd.trans (hE.putObj (by omega) _), World.ownsRow.mono (ownsRow_putObj hr _ hK rfl) hEd.size⟩
  case stop =>
    rintro D c' pre W _ _ h _
    exact h.elim
theorem spans_any (A A' : Option Addr) (ca cb : Nat) (c : Cal) (t : Tr) (w : World) (hC : CalAt w A ca A' cb c) (hlg : ∀ i, i < c.ny → 0 ≤ (c.yr i).lg ∧ (c.yr i).lg ≤ 8191) (hny : c.ny ≤ 400) (hkg : ∀ i, i < c.ny → 0 ≤ (c.yr i).k ∧ (c.yr i).k < c.nk) (ha : 0 ≤ t.af) (ha' : t.af ≤ 3) :
    Calls Tryd.prog 77 #[.agg #[.slice A c.nk ca, .slice A' c.ny cb], .agg #[.int .i64 t.d, .bool t.more, .int .i64 t.m, .bool t.s, .string t.nm, .int .i64 t.af, .string t.kg]] w fun e w' => ∃ v, e = .returned v ∧ Ext w w' ∧ SpansAt w' v (c.spans t) :=
  (spans_own A A' ca cb c t w hC hlg hny hkg ha ha').mono fun _ _ ⟨v, h1, h2, h3⟩ => ⟨v, h1, h2, spansAt_own h3⟩
end Go.Proofs.YtfchchmmjabjnaaDoor
