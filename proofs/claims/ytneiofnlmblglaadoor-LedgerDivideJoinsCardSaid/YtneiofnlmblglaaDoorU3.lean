/- Walks of the program's functions and plain facts, packed; proved: the lemmas below; no conditions but those that each states. -/
import Derived.Test.YtneiofnlmblglaaDoorU2
import Derived.RangeFuncBox
import Derived.Laws.OwnMore
import Derived.Deep.Onto
import Derived.Maps.AppendAt
import Derived.Laws.Append
set_option maxRecDepth 100000
set_option maxHeartbeats 4000000
namespace Go.Proofs.YtneiofnlmblglaaDoor
section
open Go Go.RowKit Go.Shelf
attribute [local go_sem] Oper.semAt_some Zi
theorem Sb {W : World} {b : Nat} {t : TypeId} {v0 v1 v2 v3 : Value} (h : Qb W b t #[v0, v1, v2, v3]) (u0 u1 u2 u3 : Value) :
  Qb ((((W.setCell ⟨b, 0, none⟩ u0).setCell ⟨b, 1, none⟩ u1).setCell ⟨b, 2, none⟩ u2).setCell ⟨b, 3, none⟩ u3) b t #[u0, u1, u2, u3] := by
 unfold Qb at h ⊢
 simp [World.setCell, Array.getElem?_modify, h]
theorem Tp {W : World} {b b' : Nat} {t t' : TypeId} {v0 v1 v2 v3 v' : Value} (h : Qb W b t #[v0, v1, v2, v3]) (h' : Boxed W b' t' v') (hne : b ≠ b') (u0 u1 u2 u3 u' : Value) :
  Qb (((((W.setCell ⟨b, 0, none⟩ u0).setCell ⟨b, 1, none⟩ u1).setCell ⟨b, 2, none⟩ u2).setCell ⟨b, 3, none⟩ u3).setCell ⟨b', 0, none⟩ u') b t #[u0, u1, u2, u3] ∧
  Boxed (((((W.setCell ⟨b, 0, none⟩ u0).setCell ⟨b, 1, none⟩ u1).setCell ⟨b, 2, none⟩ u2).setCell ⟨b, 3, none⟩ u3).setCell ⟨b', 0, none⟩ u') b' t' u' ∧
  KeepsOthers W (((((W.setCell ⟨b, 0, none⟩ u0).setCell ⟨b, 1, none⟩ u1).setCell ⟨b, 2, none⟩ u2).setCell ⟨b, 3, none⟩ u3).setCell ⟨b', 0, none⟩ u') ∧
  ∀ wd, Qa wd W → wd.heap.size ≤ b → wd.heap.size ≤ b' → Qa wd (((((W.setCell ⟨b, 0, none⟩ u0).setCell ⟨b, 1, none⟩ u1).setCell ⟨b, 2, none⟩ u2).setCell ⟨b, 3, none⟩ u3).setCell ⟨b', 0, none⟩ u') := by
 refine ⟨(Sb h u0 u1 u2 u3).other hne u', ?_, ((((KeepsOthers.setCell _ _ _).trans (KeepsOthers.setCell _ _ _)).trans (KeepsOthers.setCell _ _ _)).trans (KeepsOthers.setCell _ _ _)).trans (KeepsOthers.setCell _ _ _), fun wd e h1 h2 => ((((e.setCell h1 _).setCell h1 _).setCell h1 _).setCell h1 _).setCell h2 _⟩
 have h2 : Boxed ((((W.setCell ⟨b, 0, none⟩ u0).setCell ⟨b, 1, none⟩ u1).setCell ⟨b, 2, none⟩ u2).setCell ⟨b, 3, none⟩ u3) b' t' v' := by
  unfold Boxed at h' ⊢
  rw [← h']
  simp [World.setCell, Array.getElem?_modify, hne]
 exact h2.set u'
def Uc (c : Qc) (n : Int) (l : List It) : Prop := ∀ x, x ∈ l → ¬ (x.first ≤ n ∧ n - x.first < x.len c)
theorem Fy {c : Qc} {n : Int} : ∀ {l : List It}, Uc c n l → c.atFrom n l = none
 | [], _ => rfl
 | x :: l, h => by rw [Qc.atFrom, if_neg (h x (List.mem_cons_self ..))]; exact Fy (fun y hy => h y (List.mem_cons_of_mem _ hy))
theorem Fv {c : Qc} {n : Int} {x : It} (hx : x.first ≤ n ∧ n - x.first < x.len c) : ∀ (Qw l : List It), Uc c n Qw → c.atFrom n (Qw ++ x :: l) = some ⟨x.y, x.n, x.s, n - x.first + 1⟩
 | [], l, _ => by simp [Qc.atFrom, hx]
 | y :: Qw, l, h => by rw [List.cons_append, Qc.atFrom, if_neg (h y (List.mem_cons_self ..)), Fv hx Qw l (fun z hz => h z (List.mem_cons_of_mem _ hz))]
theorem Ao {c : Qc} {n : Int} (h : Uc c n c.items) : c.at? n = none := Fy h
theorem Am {c : Qc} {n : Int} {Qw : List It} {x : It} (hN : Uc c n Qw) (hx : x.first ≤ n ∧ n - x.first < x.len c) (hp : Qw ++ [x] <+: c.items) : c.at? n = some ⟨x.y, x.n, x.s, n - x.first + 1⟩ := by
 obtain ⟨t, ht⟩ := hp
 rw [Qc.at?, ← ht, List.append_assoc, List.singleton_append, Fv hx Qw t hN]
theorem P2 {c : Qc} {n : Int} {l : List It} {x : It} (h : Uc c n l) (hx : ¬ (x.first ≤ n ∧ n - x.first < x.len c)) : Uc c n (l ++ [x]) := fun y hy => by
 rcases List.mem_append.1 hy with hy | hy
 ·exact h y hy
 ·rw [List.mem_singleton.1 hy]; exact hx
def Dt.val (d : Dt) : Value := .agg #[.int .i64 d.y, .int .i64 d.m, .bool d.s, .int .i64 d.d]
def Kl (o : Option Dt) : Int := if o.isSome then 0 else 8
def atW (A A' : Option Addr) (ca cb : Nat) (c : Qc) (n : Int) (w : World) : World := (w.alloc (.cells #[.slice A c.nk ca, .slice A' c.ny cb] 25)).alloc (.cells #[.int .i64 n] 3)
theorem Fz (A A' : Option Addr) (ca cb : Nat) (c : Qc) (n : Int) (w : World) (hC : Q8 w A ca A' cb c) (hlg : ∀ i, i < c.ny → 0 ≤ (c.yr i).lg ∧ (c.yr i).lg ≤ 8191) (hny : c.ny ≤ 400) (_hn1 : -9223372036854775808 ≤ n) (hn2 : n ≤ 9223372036854775807) :
  Calls Tryd.prog 21 #[.agg #[.slice A c.nk ca, .slice A' c.ny cb], .int .i64 n] w fun e w' => e = .returned (.tuple #[((c.at? n).getD Y2).val, .int .i64 (Kl (c.at? n))]) ∧ Qa w w' := by
 refine callsIn_wide.1 (callsIn_of_wp_marks (F := Fence.wide) (n := 9) Tryd.func21 rfl trivial (wpIn_wide.2 ?_) rfl)
 simp only [Tryd.ntmps21, List.size_toArray, List.length_cons, List.length_nil, Nat.reduceAdd, Nat.reduceSub, Array.replicate_succ, Array.replicate_zero, List.push_toArray, List.append_toArray, List.nil_append, List.cons_append]
 go_wp2_with (go_at_call 51; refine (Ps _ _ _ _ c _).mono ?_; rintro e w' ⟨rfl, rfl⟩)
 obtain ⟨wd, hwd⟩ := Qg (atW A A' ca cb c n w)
 have hEd : Qa w wd := by rw [hwd]; unfold atW; exact (by repeat (first | exact Qa.refl _ | (refine Qa.alloc ?_ _) | (refine Qa.trans ?_ (by assumption))))
 have hsd : wd.heap.size = w.heap.size + 1 + 1 := by rw [hwd]; simp [atW]
 have hdb : Qb wd (w.heap.size + 1) 3 #[.int .i64 n] := by rw [hwd]; unfold atW; exact (by repeat (first | (refine Qb.at _ _ _ _ ?_; (simp; done)) | refine Qb.alloc ?_ _))
 have hcb : Qb wd w.heap.size 25 #[.slice A c.nk ca, .slice A' c.ny cb] := by rw [hwd]; unfold atW; exact (by repeat (first | (refine Qb.at _ _ _ _ ?_; (simp; done)) | refine Qb.alloc ?_ _))
 generalize hW5 : World.alloc _ _ = W5
 have hE5 : Qa wd W5 := by rw [← hW5, hwd]; unfold atW; exact (by repeat (first | exact Qa.refl _ | (refine Qa.alloc ?_ _) | (refine Qa.trans ?_ (by assumption))))
 have hs5 : W5.heap.size = w.heap.size + 1 + 1 + 1 + 1 + 1 := by rw [← hW5]; simp
 have b4 : Qb W5 (w.heap.size + 1 + 1) 27 #[.int .i64 0, .int .i64 0, .bool false, .int .i64 0] := by rw [← hW5]; exact (by repeat (first | (refine Qb.at _ _ _ _ ?_; (simp; done)) | refine Qb.alloc ?_ _))
 have b5 : Boxed W5 (w.heap.size + 1 + 1 + 1) 33 (.int .i64 0) := by rw [← hW5]; exact Qb.boxed (by repeat (first | (refine Qb.at _ _ _ _ ?_; (simp; done)) | refine Qb.alloc ?_ _))
 have hB : W5.cell? ⟨w.heap.size + 1 + 1 + 1 + 1, 1, none⟩ = some (.slice A' c.ny cb) := by rw [← hW5]; exact (Qb.cell (t := 25) (cs := #[.slice A c.nk ca, .slice A' c.ny cb]) (by repeat (first | (refine Qb.at _ _ _ _ ?_; (simp; done)) | refine Qb.alloc ?_ _)) 1)
 clear hW5 hwd
 generalize hs : w.heap.size = s at *
 refine Pa (A := A) (A' := A') (ca := ca) (cb := cb) (c := c) (B := s + 1 + 1 + 1 + 1) wd W5 rfl rfl (hC.ext hEd) hlg hny hE5 hB (by omega)
  (fun Qw W => Qa wd W ∧ Qb W (s + 1 + 1) 27 #[.int .i64 0, .int .i64 0, .bool false, .int .i64 0] ∧ Boxed W (s + 1 + 1 + 1) 33 (.int .i64 0) ∧ Uc c n (Mo.its Qw))
  (fun c' Qw W => Qa wd W ∧ ∃ p : List (Mo c) × Mo c, Qb W (s + 1 + 1) 27 #[.int .i64 (p.2.1.y : Int), .int .i64 p.2.1.n, .bool p.2.1.s, .int .i64 (n - p.2.1.first + 1)] ∧ Boxed W (s + 1 + 1 + 1) 33 (.int .i64 0) ∧
   c' = .ret ∧ Qw = p.1 ++ [p.2] ∧ Uc c n (Mo.its p.1) ∧ p.2.1.first ≤ n ∧ n - p.2.1.first < p.2.1.len c)
  (OwnFrom.and (Mu (by omega)) (OwnFrom.and (Ga _ _ _ _) (OwnFrom.and (V2 _ _ _ _) (ownFrom_pure _ _))))
  (fun c' => OwnFrom.and (Mu (by omega)) (H0 fun p => OwnFrom.and (Ga _ _ _ _) (OwnFrom.and (V2 _ _ _ _) (ownFrom_pure _ _))))
  ⟨hE5, b4, b5, fun _ h => (by cases h)⟩
  (AxM (s + 1 + 1 + 1 + 1) (fun y Bx => #[.agg #[.slice A c.nk ca, .slice A' c.ny cb], .int .i64 n, .pointer (some ⟨s, 0, none⟩), .pointer (some ⟨s + 1, 0, none⟩), .pointer (some ⟨s + 1 + 1, 0, none⟩), .pointer (some ⟨s + 1 + 1 + 1, 0, none⟩), .pointer (some ⟨Bx, 0, none⟩), .int .i64 y.first,
   .agg #[.slice A c.nk ca, .slice A' c.ny cb], .func (.func 76) #[] #[.pointer (some ⟨s + 1 + 1 + 1 + 1, 0, none⟩)], .agg #[.int .i64 (y.y : Int), .int .i64 y.n, .bool y.s], .int .i64 y.first, undef, undef, undef, undef, undef, undef, undef, undef, undef, undef, undef, undef, undef, undef, undef, undef, undef, undef, undef, undef, undef, undef, undef, undef])) F9 ?assign ?body ?done ?stop
 case assign =>
  intro l Qw x W K hi hK
  simp only [Mo.enc]
  gi_wp2
  exact hK _ _ (Vu ((Qa.refl W).alloc _)) (Ju.of_ext ((Qa.refl W).alloc _) hi.1.size) ⟨hi.1.alloc _, hi.2.1.alloc _, hi.2.2.1.alloc _, hi.2.2.2⟩ ⟨W.heap.size, hi.2.2.1.lt, Qb.new _ _ _, rfl⟩
 case body =>
  rintro l Qw x a' W hl ⟨hE, b4, b5, hN⟩ ⟨Bx, hBx, hm, rfl⟩ hlt
  have hxok := x.2
  have hx1 := hxok.f1
  have hx2 := hxok.f2
  have hxy := hxok.y
  have hxn := hxok.n1
  have hxn2 := hxok.n12
  have hCW := (hC.ext hEd).ext hE
  have hlx := hlg _ hxy
  clear hxok
  have hdW := hdb.ext hE
  have hcW := hcb.ext hE
  obtain ⟨m0, m1, m2⟩ := hm.c3
  have e0 := hdW.c1
  obtain ⟨k0, k1⟩ := hcW.c2
  have hl1 := hm.lt
  have hl2 := hdW.lt
  have hl3 := hcW.lt
  have HL : Hid (x.1.len c = (c.yr x.1.y).len x.1.n x.1.s) := rfl
  by_cases hg : x.1.first ≤ n
  ·have hgd : decide (x.1.first ≤ n) = true := decide_eq_true hg
   have hsub : IntKind.i64.wrap (n - x.1.first) = n - x.1.first := by rw [IntKind.wrap_i64]; omega
   gi_upto_region 4 with (fail)
   refine Fg W Qr (by kernel_rfl) (by kernel_rfl) (by repeat (first | exact Qa.refl _ | (refine Qa.alloc ?_ _) | (refine Qa.trans ?_ (by assumption)))) ?_
   intro hne hrx hry
   try simp only []
   try simp only [List.append_eq, List.cons_append, List.nil_append]
   skip
   repeat (first
    | go_big_quiet_skip
    | (go_big_quiet_want; go_big_quiet_op; go_big_quiet_on)
    | (go_big_quiet_want; go_big_quiet_op; apply Exists.intro; refine ⟨fun u => ?_, ?_⟩
       ·first
         | (go_at_call 52; refine (of_any _ _ _ _ c x.1.y _ _ _ (hCW.ext (Qa.trans (by repeat (first | exact Qa.refl _ | (refine Qa.alloc ?_ _) | (refine Qa.trans ?_ (by assumption)))) u.e)) hxy hxn hxn2 hlx.1 hlx.2).mono ?_; rintro e w' ⟨rfl, hb⟩; exact ⟨rfl, u.back hb⟩)
       go_big_quiet_on))
   clear hne hry hrx
   refine wpQuiet_nil ?_
   intro wq hq
   obtain ⟨hcwq, hfwq, hzwq⟩ := Qa.rules hq
   try simp only [World.size_alloc] at hzwq
   obtain ⟨hcbwq, hfbwq, hzbwq⟩ := Qa.rules (show Qa W wq from (by repeat (first | exact Qa.refl _ | (refine Qa.alloc ?_ _) | (refine Qa.trans ?_ (by assumption)))))
   clear hcwq hfwq
   by_cases hd : n - x.1.first < (c.yr x.1.y).len x.1.n x.1.s
   ·rw [decide_eq_true hd]
    clear m0 m1 m2 e0 k0 k1
    obtain ⟨m0, m1, m2⟩ := (hm.ext hq).c3
    have e0 := (hdW.ext hq).c1
    have hl1 := (hm.ext hq).lt
    have hl2 := (hdW.ext hq).lt
    have b4q := b4.ext hq
    have b5q := Km b5 hq
    obtain ⟨w0, w1, w2, w3⟩ := b4q.c4
    have f0 := b4q.frozen 0
    have f1 := b4q.frozen 1
    have f2 := b4q.frozen 2
    have f3 := b4q.frozen 3
    have w5 := b5q.cell
    have f5 := b5q.frozen
    clear hcbwq hfbwq
    obtain ⟨g4, g5, gK, gE⟩ := Tp b4q b5q (by omega) (.int .i64 (x.1.y : Int)) (.int .i64 x.1.n) (.bool x.1.s) (.int .i64 (n - x.1.first + 1)) (.int .i64 0)
    gi_wp2
    exact ⟨(Vu hq).trans (gK.from _), gE _ (hE.trans hq) (by omega) (by omega), (Qw, x), g4, g5, rfl, rfl, hN, hg, by rw [HL.out]; exact hd⟩
   ·rw [decide_eq_false hd]
    have HD := Lib.hid hd
    clear hd
    gi_wp2
    exact ⟨Vu hq, Ju.of_ext hq (by have := hE.size; omega), hE.trans hq, b4.ext hq, Km b5 hq, by rw [Xn]; exact P2 hN (fun h => by have h2 := h.2; rw [HL.out] at h2; have := HD.out; omega)⟩
  ·have hgd : decide (x.1.first ≤ n) = false := decide_eq_false hg
   have HG := Lib.hid hg
   clear hg
   gi_upto_region 4 with (fail)
   refine Fg W Qr (by kernel_rfl) (by kernel_rfl) (by repeat (first | exact Qa.refl _ | (refine Qa.alloc ?_ _) | (refine Qa.trans ?_ (by assumption)))) ?_
   intro hne hrx hry
   try simp only []
   try simp only [List.append_eq, List.cons_append, List.nil_append]
   skip
   repeat (first
    | go_big_quiet_skip
    | (go_big_quiet_want; go_big_quiet_op; go_big_quiet_on))
   clear hne hry hrx
   refine wpQuiet_nil ?_
   intro wq hq
   obtain ⟨hcwq, hfwq, hzwq⟩ := Qa.rules hq
   try simp only [World.size_alloc] at hzwq
   obtain ⟨hcbwq, hfbwq, hzbwq⟩ := Qa.rules (show Qa W wq from (by repeat (first | exact Qa.refl _ | (refine Qa.alloc ?_ _) | (refine Qa.trans ?_ (by assumption)))))
   clear hcwq hfwq
   gi_wp2
   exact ⟨Vu hq, Ju.of_ext hq (by have := hE.size; omega), hE.trans hq, b4.ext hq, Km b5 hq, by rw [Xn]; exact P2 hN (fun h => by have := HG.out; have := h.1; omega)⟩
 case done =>
  rintro D xs W hD hxs ⟨hE, b4, b5, hN⟩ hK
  obtain ⟨w0, w1, w2, w3⟩ := b4.c4
  have f0 := b4.frozen 0
  have f1 := b4.frozen 1
  have f2 := b4.frozen 2
  have f3 := b4.frozen 3
  have w5 := b5.cell
  have f5 := b5.frozen
  rw [hxs] at hN
  have HN := Lib.hid (Ao hN)
  clear hN hxs
  obtain ⟨g4, g5, gK, gE⟩ := Tp b4 b5 (by omega) (.int .i64 0) (.int .i64 0) (.bool false) (.int .i64 0) (.int .i64 8)
  have hE2 := gE _ hE (by omega) (by omega)
  have hK2 := gK.same D _ hK rfl
  go_wp2
  clear w0 w1 w2 w3 f0 f1 f2 f3 w5 f5 gK gE b4 b5
  generalize World.setCell _ _ _ = W6 at *
  obtain ⟨c0, c1, c2, c3⟩ := (show Qb (W6.putObj D (.deferred none)) _ _ _ from (grownBy_putObj' W6 D (.deferred none)).block _ g4.lt (fun e => by cases e; rw [show W6.heap[s + 1 + 1]? = _ from g4] at hK2; cases hK2) |>.trans g4).c4
  have c5 := (Vm (o' := .deferred none) (show Boxed W6 _ _ _ from g5) hK2 rfl).cell
  refine M7 hK2 (v := .tuple #[Y2.val, .int .i64 8]) (by simp [results, Tryd.results21, go_sem, c0, c1, c2, c3, c5, Dt.val, Y2]) ⟨by rw [HN.out]; rfl, hEd.trans (hE2.putObj (by omega) _)⟩
 case stop =>
  rintro D c' Qw W hD hpre ⟨hE, ⟨p, x⟩, b4, b5, rfl, rfl, hN, hg, hd⟩ hK
  rw [Xn] at hpre
  have HN := Lib.hid (Am hN ⟨hg, hd⟩ hpre)
  clear hN hpre hg hd
  go_wp2
  obtain ⟨c0, c1, c2, c3⟩ := (show Qb (W.putObj D (.deferred none)) _ _ _ from (grownBy_putObj' W D (.deferred none)).block _ b4.lt (fun e => by cases e; rw [show W.heap[s + 1 + 1]? = _ from b4] at hK; cases hK) |>.trans b4).c4
  have c5 := (Vm (o' := .deferred none) b5 hK rfl).cell
  refine M7 hK (v := .tuple #[(Dt.mk x.1.y x.1.n x.1.s (n - x.1.first + 1)).val, .int .i64 0]) (by simp [results, Tryd.results21, go_sem, c0, c1, c2, c3, c5, Dt.val]) ⟨by rw [HN.out]; rfl, hEd.trans (hE.putObj (by omega) _)⟩
theorem Lj {c : Qc} (h : c.valid = true) : c.ny ≤ 400 := by
 simp only [Qc.valid, Bool.and_eq_true, decide_eq_true_eq] at h
 exact h.1.2
theorem Qb.kept {W W' : World} {row : Option Nat} {b : Nat} {t : TypeId} {cs : Array Value} (h : Qb W b t cs) (hg : W.grownBy W' row) (hne : some b ≠ row) : Qb W' b t cs := (hg.block b h.lt hne).trans h
theorem Qb.not_row {W : World} {b : Nat} {t e : TypeId} {cs : Array Value} (h : Qb W b t cs) (hte : t ≠ e) {base size k : Nat} {v : Value} {xs : List Value} (hr : W.ownsRow base e size v k xs) : some b ≠ v.ownBlock := by
 rcases hr.2 with ⟨rfl, _⟩ | ⟨g, cap, cur, rfl, _, hgb, _⟩
 ·simp [Value.ownBlock]
 ·intro e'
  obtain rfl : b = g := by simpa [Value.ownBlock] using e'
  have := (show W.heap[b]? = _ from h).symm.trans hgb
  simp at this
  exact hte this.2
theorem M8 {W : World} {base size k : Nat} {e : TypeId} {v : Value} {xs : List Value} (hr : W.ownsRow base e size v k xs) : ∀ r, v.ownBlock = some r → base ≤ r ∧ ∃ cur, W.heap[r]? = some (.cells cur e (0, 0)) := by
 rcases hr.2 with ⟨rfl, _⟩ | ⟨g, cap, cur, rfl, hb, hgb, _⟩
 ·intro r h; simp [Value.ownBlock] at h
 ·intro r h
  obtain rfl : g = r := by simpa [Value.ownBlock] using h
  exact ⟨hb, cur, hgb⟩
namespace SpStep
variable {wd W0 W W' : World} {B0 Bo Bx : Nat} {mcs : Array Value} {L : List Sp} {v : Value}
end SpStep
/-- A slice that reads as some spans. -/
def Nt (w : World) (v : Value) (l : List Sp) : Prop := ∃ A cap, v = .slice A l.length cap ∧ Qo w A l.length 2 (fun i => (l.getD i ⟨0, 0⟩).cells) ∧ l.length ≤ cap ∧ cap ≤ maxLen
theorem Nt.ext {w w' : World} {v : Value} {l : List Sp} (h : Nt w v l) (e : Qa w w') : Nt w' v l := by
 obtain ⟨A, cap, hv, hr, hc, hm⟩ := h
 exact ⟨A, cap, hv, hr.ext e, hc, hm⟩
end
section
open Go Go.RowKit Go.Shelf
attribute [local go_sem] Zi
theorem Bg {c : Qc} {i : Nat} (hi : i < c.ny) : ∀ (k : Nat), k ≤ 12 → ∀ x, x ∈ Jj i (c.yr i) (c.dayAt i) ((c.yr i).moTo k) → c.okIt x
 | 0, _, x, hx => by simp [Yr.moTo, Jj] at hx
 | k + 1, hk, x, hx => by
  rw [Wu, La, List.mem_append] at hx
  rcases hx with hx | hx
  ·exact Bg hi k (by omega) x hx
  ·by_cases h : (c.yr i).db = (k : Int) + 1
   ·rw [if_pos h] at hx
    rcases List.mem_cons.1 hx with rfl | hx
    ·exact L9 hi (by omega)
    ·rcases List.mem_cons.1 hx with rfl | hx
     ·exact Sj hi (by omega)
     ·cases hx
   ·rw [if_neg h] at hx
    rcases List.mem_cons.1 hx with rfl | hx
    ·exact L9 hi (by omega)
    ·cases hx
theorem So (c : Qc) : ∀ i : Nat, i ≤ c.ny → ∀ x, x ∈ c.itemsTo i → c.okIt x
 | 0, _, x, hx => by cases hx
 | i + 1, hi, x, hx => by
  rw [Qc.itemsTo, List.mem_append] at hx
  rcases hx with hx | hx
  ·exact So c i (by omega) x hx
  ·exact Bg (by omega) 12 (by omega) x hx
theorem Qbq (c : Qc) : ∀ x, x ∈ c.items → c.okIt x := So c c.ny (Nat.le_refl _)
theorem Ug (c : Qc) (d : Dt) : c.checks (fun _ => d) 1 = c.inE d := by simp [Qc.checks, Qc.inE]
def two (a b : Dt) (i : Nat) : Dt := if i = 0 then a else b
theorem Og (c : Qc) (a b : Dt) : c.checks (two a b) 2 = c.in2E a b := by
 simp only [Qc.checks, Qc.in2E, show List.range 2 = [0, 1] from rfl, List.all_cons, List.all_nil, Bool.and_true]
 rfl
theorem Sc (c : Qc) (d : Dt) : (c.valid = false ∧ c.inE d = 70) ∨ (c.valid = true ∧ c.has d = false ∧ c.inE d = 71) ∨ (c.valid = true ∧ c.has d = true ∧ c.inE d = 0) := by
 unfold Qc.inE
 cases c.valid <;> cases c.has d <;> simp
theorem Va (c : Qc) (a b : Dt) : (c.valid = false ∧ c.in2E a b = 70) ∨ (c.valid = true ∧ (c.has a && c.has b) = false ∧ c.in2E a b = 71) ∨ (c.valid = true ∧ (c.has a && c.has b) = true ∧ c.in2E a b = 0) := by
 unfold Qc.in2E
 cases c.valid <;> cases c.has a <;> cases c.has b <;> simp
theorem Lz {c : Qc} {d : Dt} (h : c.has d = true) : 1 ≤ d.d ∧ d.d ≤ 30 := by
 simp only [Qc.has, Bool.and_eq_true, decide_eq_true_eq] at h
 have := Ws (c.yrI d.y) d.m d.s
 omega
theorem Uq {w : World} {b : Nat} {t : TypeId} {d : Dt} (h : Qb w b t #[.int .i64 d.y, .int .i64 d.m, .bool d.s, .int .i64 d.d]) : Qo w (some ⟨b, 0, none⟩) 1 4 (fun _ => Om d) := fun _ =>
 ⟨b, 0, rfl, h.lt, fun i j v hi hv => by
  obtain rfl : i = 0 := by omega
  rw [show 0 + 0 * 4 + j = j by omega, h.cell j, List.getElem?_toArray]; exact hv⟩
theorem Gm {w : World} {b : Nat} {t : TypeId} {x y : Dt} (h : Qb w b t #[.int .i64 x.y, .int .i64 x.m, .bool x.s, .int .i64 x.d, .int .i64 y.y, .int .i64 y.m, .bool y.s, .int .i64 y.d]) : Qo w (some ⟨b, 0, none⟩) 2 4 (fun i => Om (two x y i)) := fun _ =>
 ⟨b, 0, rfl, h.lt, fun i j v hi hv => by
  have hj : j < 4 := (List.getElem?_eq_some_iff.1 hv).1
  rw [Nat.zero_add, h.cell]
  match i, j, hi, hj, hv with
  | 0, 0, _, _, hv => exact hv
  | 0, 1, _, _, hv => exact hv
  | 0, 2, _, _, hv => exact hv
  | 0, 3, _, _, hv => exact hv
  | 1, 0, _, _, hv => exact hv
  | 1, 1, _, _, hv => exact hv
  | 1, 2, _, _, hv => exact hv
  | 1, 3, _, _, hv => exact hv⟩
set_option maxHeartbeats 1000000 in
theorem Qda (A A' : Option Addr) (ca cb : Nat) (c : Qc) (d : Dt) (w : World) (hC : Q8 w A ca A' cb c) :
  Calls Tryd.prog 53 #[.agg #[.slice A c.nk ca, .slice A' c.ny cb], .agg #[.int .i64 d.y, .int .i64 d.m, .bool d.s, .int .i64 d.d]] w fun e w' => e = .returned (.tuple #[.int .i64 (c.numV d), .int .i64 (c.inE d)]) ∧ Qa w w' := by
 rcases Sc c d with ⟨hv, hE⟩ | ⟨hv, hh, hE⟩ | ⟨hv, hh, hE⟩
 ·have HE := Lib.hid hE
  have HV : Hid (c.numV d = 0) := by unfold Hid Qc.numV; rw [hE]; rfl
  clear hE hv
  go_enter Tryd.func53, Tryd.ntmps53
  go_wp2_with (go_at_call 20; refine (Xb _ _ _ _ c _ 1 1 (fun _ => d) _ (hC.ext (by repeat (first | exact Qa.refl _ | (refine Qa.alloc ?_ _) | (refine Qa.trans ?_ (by assumption))))) (Uq (t := 27) (by repeat (first | (refine Qb.at _ _ _ _ ?_; (simp; done)) | refine Qb.alloc ?_ _))) (by omega)).mono ?_; rw [Ug, HE.out]; rintro e wq ⟨rfl, hq⟩)
  go_ret2
  exact ⟨by rw [HE.out, HV.out]; rfl, (by repeat (first | exact Qa.refl _ | (refine Qa.alloc ?_ _) | (refine Qa.trans ?_ (by assumption))))⟩
 ·have HE := Lib.hid hE
  have HV : Hid (c.numV d = 0) := by unfold Hid Qc.numV; rw [hE]; rfl
  clear hE hv
  go_enter Tryd.func53, Tryd.ntmps53
  go_wp2_with (go_at_call 20; refine (Xb _ _ _ _ c _ 1 1 (fun _ => d) _ (hC.ext (by repeat (first | exact Qa.refl _ | (refine Qa.alloc ?_ _) | (refine Qa.trans ?_ (by assumption))))) (Uq (t := 27) (by repeat (first | (refine Qb.at _ _ _ _ ?_; (simp; done)) | refine Qb.alloc ?_ _))) (by omega)).mono ?_; rw [Ug, HE.out]; rintro e wq ⟨rfl, hq⟩)
  go_ret2
  exact ⟨by rw [HE.out, HV.out]; rfl, (by repeat (first | exact Qa.refl _ | (refine Qa.alloc ?_ _) | (refine Qa.trans ?_ (by assumption))))⟩
 ·have HE := Lib.hid hE
  have HV : Hid (c.numV d = (c.num d).1) := by unfold Hid Qc.numV; rw [hE]; rfl
  have HL := Lib.hid (Ka hv)
  have HY := Lib.hid (Lj hv)
  have HD := Lib.hid (Lz hh)
  clear hE hv hh
  go_enter Tryd.func53, Tryd.ntmps53
  go_wp2_with (go_at_call 20; refine (Xb _ _ _ _ c _ 1 1 (fun _ => d) _ (hC.ext (by repeat (first | exact Qa.refl _ | (refine Qa.alloc ?_ _) | (refine Qa.trans ?_ (by assumption))))) (Uq (t := 27) (by repeat (first | (refine Qb.at _ _ _ _ ?_; (simp; done)) | refine Qb.alloc ?_ _))) (by omega)).mono ?_; rw [Ug, HE.out]; rintro e wq ⟨rfl, hq⟩; obtain ⟨k0, k1⟩ := (Qb.ext (b := w.heap.size) (t := 25) (cs := #[.slice A c.nk ca, .slice A' c.ny cb]) (by repeat (first | (refine Qb.at _ _ _ _ ?_; (simp; done)) | refine Qb.alloc ?_ _)) hq).c2; obtain ⟨e0, e1, e2, e3⟩ := (Qb.ext (b := w.heap.size + 1) (t := 27) (cs := #[.int .i64 d.y, .int .i64 d.m, .bool d.s, .int .i64 d.d]) (by repeat (first | (refine Qb.at _ _ _ _ ?_; (simp; done)) | refine Qb.alloc ?_ _)) hq).c4)
  refine (Mr _ _ _ _ c d _ (hC.ext (by repeat (first | exact Qa.refl _ | (refine Qa.alloc ?_ _) | (refine Qa.trans ?_ (by assumption))))) HL.out HY.out HD.out).mono ?_
  rintro e wn ⟨rfl, hn⟩
  go_wp2
  go_ret2
  exact ⟨by rw [HE.out, HV.out]; rfl, (by repeat (first | exact Qa.refl _ | (refine Qa.alloc ?_ _) | (refine Qa.trans ?_ (by assumption))))⟩
theorem Dc (c : Qc) (d : Dt) (h1 : 1 ≤ d.d) (h2 : d.d ≤ 30) : 0 ≤ (c.num d).1 ∧ (c.num d).1 ≤ 390 * (c.ny : Int) + 421 ∧ 0 ≤ (c.num d).2 ∧ (c.num d).2 ≤ 13 * (c.ny : Int) := by
 have hi : ∀ x, x ∈ c.items → c.okIt x := Qbq c
 have hl := Mb c c.ny
 have h : ∀ (l : List It) (k : Int), 0 ≤ k → (∀ x, x ∈ l → c.okIt x) → 0 ≤ (Jy d l k).1 ∧ (Jy d l k).1 ≤ 390 * (c.ny : Int) + 421 ∧ 0 ≤ (Jy d l k).2 ∧ (Jy d l k).2 ≤ k + l.length := by
  intro l
  induction l with
  | nil => intro k hk _; simp [Jy]; omega
  | cons x l ih =>
   intro k hk hx
   have hx0 := hx x (List.mem_cons_self ..)
   have f1 := hx0.f1
   have f2 := hx0.f2
   have := ih (k + 1) (by omega) (fun y hy => hx y (List.mem_cons_of_mem _ hy))
   rw [Jy, List.length_cons]
   split
   ·simp only; omega
   ·omega
 have := h c.items 0 (by omega) hi
 have e : (c.items.length : Int) ≤ 13 * (c.ny : Int) := by unfold Qc.items; omega
 unfold Qc.num
 omega
set_option maxHeartbeats 2000000 in
theorem Bk (A A' : Option Addr) (ca cb : Nat) (c : Qc) (a b : Dt) (w : World) (hC : Q8 w A ca A' cb c) :
  Calls Tryd.prog 18 #[.agg #[.slice A c.nk ca, .slice A' c.ny cb], .agg #[.int .i64 a.y, .int .i64 a.m, .bool a.s, .int .i64 a.d], .agg #[.int .i64 b.y, .int .i64 b.m, .bool b.s, .int .i64 b.d]] w fun e w' => e = .returned (.tuple #[.int .i64 (c.schV a b), .int .i64 (c.in2E a b)]) ∧ Qa w w' := by
 rcases Va c a b with ⟨hv, hE⟩ | ⟨hv, hh, hE⟩ | ⟨hv, hh, hE⟩
 ·have HE := Lib.hid hE
  have HV : Hid (c.schV a b = 0) := by unfold Hid Qc.schV; rw [hE]; rfl
  clear hE hv
  go_enter Tryd.func18, Tryd.ntmps18
  go_wp2_with (go_at_call 20; refine (Xb _ _ _ _ c _ 2 2 (two a b) _ (hC.ext (by repeat (first | exact Qa.refl _ | (refine Qa.alloc ?_ _) | (refine Qa.trans ?_ (by assumption))))) (Gm (t := 27) (by repeat (first | (refine Qb.at _ _ _ _ ?_; (simp; done)) | refine Qb.alloc ?_ _))) (by omega)).mono ?_; rw [Og, HE.out]; rintro e wq ⟨rfl, hq⟩)
  go_ret2
  exact ⟨by rw [HE.out, HV.out]; rfl, (by repeat (first | exact Qa.refl _ | (refine Qa.alloc ?_ _) | (refine Qa.trans ?_ (by assumption))))⟩
 ·have HE := Lib.hid hE
  have HV : Hid (c.schV a b = 0) := by unfold Hid Qc.schV; rw [hE]; rfl
  clear hE hv
  go_enter Tryd.func18, Tryd.ntmps18
  go_wp2_with (go_at_call 20; refine (Xb _ _ _ _ c _ 2 2 (two a b) _ (hC.ext (by repeat (first | exact Qa.refl _ | (refine Qa.alloc ?_ _) | (refine Qa.trans ?_ (by assumption))))) (Gm (t := 27) (by repeat (first | (refine Qb.at _ _ _ _ ?_; (simp; done)) | refine Qb.alloc ?_ _))) (by omega)).mono ?_; rw [Og, HE.out]; rintro e wq ⟨rfl, hq⟩)
  go_ret2
  exact ⟨by rw [HE.out, HV.out]; rfl, (by repeat (first | exact Qa.refl _ | (refine Qa.alloc ?_ _) | (refine Qa.trans ?_ (by assumption))))⟩
 ·have HE := Lib.hid hE
  have HV : Hid (c.schV a b = 30 * ((c.num b).2 - (c.num a).2) + b.d - a.d) := by unfold Hid Qc.schV; rw [hE]; rfl
  have HL := Lib.hid (Ka hv)
  have hny := Lj hv
  have HY := Lib.hid hny
  rw [Bool.and_eq_true] at hh
  have hda := Lz hh.1
  have hdb := Lz hh.2
  have HDa := Lib.hid hda
  have HDb := Lib.hid hdb
  obtain ⟨hda1, hda2⟩ := hda
  obtain ⟨hdb1, hdb2⟩ := hdb
  have hna := Dc c a hda1 hda2
  have hnb := Dc c b hdb1 hdb2
  obtain ⟨hna1, hna2, hna3, hna4⟩ := hna
  obtain ⟨hnb1, hnb2, hnb3, hnb4⟩ := hnb
  clear hE hv hh
  go_enter Tryd.func18, Tryd.ntmps18
  go_wp2_with (go_at_call 20; refine (Xb _ _ _ _ c _ 2 2 (two a b) _ (hC.ext (by repeat (first | exact Qa.refl _ | (refine Qa.alloc ?_ _) | (refine Qa.trans ?_ (by assumption))))) (Gm (t := 27) (by repeat (first | (refine Qb.at _ _ _ _ ?_; (simp; done)) | refine Qb.alloc ?_ _))) (by omega)).mono ?_; rw [Og, HE.out]; rintro e wq ⟨rfl, hq⟩; have hcb := (Qb.ext (b := w.heap.size) (t := 25) (cs := #[.slice A c.nk ca, .slice A' c.ny cb]) (by repeat (first | (refine Qb.at _ _ _ _ ?_; (simp; done)) | refine Qb.alloc ?_ _)) hq); have hab := (Qb.ext (b := w.heap.size + 1) (t := 27) (cs := #[.int .i64 a.y, .int .i64 a.m, .bool a.s, .int .i64 a.d]) (by repeat (first | (refine Qb.at _ _ _ _ ?_; (simp; done)) | refine Qb.alloc ?_ _)) hq); have hbb := (Qb.ext (b := w.heap.size + 1 + 1) (t := 27) (cs := #[.int .i64 b.y, .int .i64 b.m, .bool b.s, .int .i64 b.d]) (by repeat (first | (refine Qb.at _ _ _ _ ?_; (simp; done)) | refine Qb.alloc ?_ _)) hq); obtain ⟨k0, k1⟩ := hcb.c2; obtain ⟨e0, e1, e2, e3⟩ := hab.c4)
  refine (Mr _ _ _ _ c a _ (hC.ext (by repeat (first | exact Qa.refl _ | (refine Qa.alloc ?_ _) | (refine Qa.trans ?_ (by assumption))))) HL.out HY.out HDa.out).mono ?_
  rintro e wn ⟨rfl, hn⟩
  obtain ⟨k0, k1⟩ := (hcb.ext hn).c2
  obtain ⟨g0, g1, g2, g3⟩ := (hbb.ext hn).c4
  go_wp2_with (fail)
  refine (Mr _ _ _ _ c b _ (hC.ext (by repeat (first | exact Qa.refl _ | (refine Qa.alloc ?_ _) | (refine Qa.trans ?_ (by assumption))))) HL.out HY.out HDb.out).mono ?_
  rintro e wm ⟨rfl, hm⟩
  obtain ⟨y0, y1, y2, y3⟩ := ((hab.ext hn).ext hm).c4
  obtain ⟨z0, z1, z2, z3⟩ := ((hbb.ext hn).ext hm).c4
  go_wp2
  go_ret2
  exact ⟨by rw [HE.out, HV.out]; rfl, (by repeat (first | exact Qa.refl _ | (refine Qa.alloc ?_ _) | (refine Qa.trans ?_ (by assumption))))⟩
end
section
open Go Go.RowKit
attribute [local go_sem] Zi
theorem U4 (w : World) (l : List Value) (t : TypeId) : ∀ j u, l[j]? = some u → (w.alloc (.cells l.toArray t)).cell? ((⟨w.heap.size, 0, none⟩ : Addr).add j) = some u := fun j u hj => by
 have h := (Qb.new w t l.toArray).cell j
 have e : ((⟨w.heap.size, 0, none⟩ : Addr).add j) = ⟨w.heap.size, j, none⟩ := by unfold Addr.add; split <;> simp_all
 rw [e, h]
 simpa using hj
theorem Zp {w w' : World} {base size n : Nat} {e : TypeId} {v : Value} {xs : List Value} (h : w.ownsRow base e size v n xs) (x : Qa w w') : w'.ownsRow base e size v n xs := h.kept (Ly x) (by
 rcases h.2 with ⟨rfl, _⟩ | ⟨g, cap, cur, rfl, _⟩
 ·exact .inl rfl
 ·exact .inr (fun e => by cases e))
def mrow (y : Yr) (i : Nat) : List Value := [.int .i64 (y.mos.getD i (0, false)).1, .bool (y.mos.getD i (0, false)).2, .int .i64 (y.len (y.mos.getD i (0, false)).1 (y.mos.getD i (0, false)).2)]
/-- The value v reads as the months of y. -/
def Ns (w : World) (v : Value) (y : Yr) : Prop := ∃ A cap, v = .slice A y.mos.length cap ∧ Qo w A y.mos.length 3 (mrow y)
theorem Ns.ext {w w' : World} {v : Value} {y : Yr} (h : Ns w v y) (e : Qa w w') : Ns w' v y := by
 obtain ⟨A, cap, hv, hr⟩ := h
 exact ⟨A, cap, hv, hr.ext e⟩
theorem Ai {P : Program} {w : World} (t ty e : TypeId) (i : TypeInfo) (z : Value) (ht : P.underlying t = some (.slice e)) (hi : P.info? e = some i) (hz : i.zero = some z) :
  (Builtin.append_ #[t, t] ty #[.slice none 0 0, .slice none 0 0]).run P w = .ok (.slice none 0 0) w := by
 simp [Builtin.append_, run_underlying ht, sizeOf, typeInfo, zeroValue, hi, hz, Builtin.lenOf, run_firstCells_none]
/-- 'append(nil, x...)', x nil or not. -/
theorem Cz {P : Program} {ops : Array Oper} {rest : List Oper} {o : Oper} {a : Act} {w : World} {Q : Exit → Act → World → Prop} (hgd : o.guard = none) (s x : Operand) (t : TypeId)
  (ho : o.op = .call { callee := .builtin .append, args := #[s, x], argTypes := #[t, t] })
  (base : Nat) (e : TypeId) (i : TypeInfo) (z : Value) (size bytes : Nat) (ht : P.underlying t = some (.slice e)) (hi : P.info? e = some i) (hz : i.zero = some z)
  (hsize : i.size = size) (hby : i.bytes = bytes) (hzs : z.cells.size = size) (hsz : 0 < size) (hs : a.eval s = .slice none 0 0)
  (A : Option Addr) (m c : Nat) (news : List Value) (hx : a.eval x = .slice A m c) (hnil : A = none → m = 0 ∧ c = 0) (hl : news.length = m * size) (hnews : ∀ ad, A = some ad → ∀ j u, news[j]? = some u → w.cell? (ad.add j) = some u) (h1 : ∀ u ∈ news, u.oneCell' = true)
  (h63 : m ≤ maxLen) (hbytes : m * bytes ≤ 140737488355328) (hbase : base ≤ w.heap.size)
  (h : ∀ v' w', w'.ownsRow base e size v' m news → w.grownBy w' none → wpList P ops Q rest (a.put o.dst v') w') :
  wpList P ops Q (o :: rest) a w := by
 cases A with
 | some ad =>
  refine wpList_append_own_at _ hgd s x t ho base e i z size bytes ht hi hz hsize hby hzs hsz (.slice none 0 0) 0 [] hs (World.ownsRow_nil w base e size) ad m c news hx hl (hnews ad rfl) h1 (by omega) (by rw [Nat.zero_add]; exact hbytes) hbase ?_
  intro v' w' g1 g2 _ _
  rw [Nat.zero_add, List.nil_append] at g1
  exact h v' w' g1 g2
 | none =>
  obtain ⟨rfl, rfl⟩ := hnil rfl
  have hn : news = [] := List.eq_nil_of_length_eq_zero (by simpa using hl)
  subst hn
  refine wpList_plain hgd fun K hK => ?_
  have hr := Ai (P := P) (w := w) t o.type e i z ht hi hz
  unfold Oper.wp execOp
  simp only [ho, resolve, invoke, builtin, Sem.run_bind, Sem.run_pure, Result.andThen_ok, List.map_toArray, List.map_cons, List.map_nil, hs, hx, hr]
  exact hK _ _ (h _ w (World.ownsRow_nil w base e size) (World.grownBy.refl _ _))
/-- The cells of n elements, one after the other. -/
def Qz (f : Nat → List Value) (n : Nat) : List Value := (List.range n).flatMap f
theorem X0 (f : Nat → List Value) (k : Nat) : Qz f (k + 1) = Qz f k ++ f k := by simp [Qz, List.range_succ]
theorem Yy {f : Nat → List Value} {sz : Nat} (hf : ∀ i, (f i).length = sz) : ∀ k, (Qz f k).length = k * sz
 | 0 => by simp [Qz]
 | k + 1 => by rw [X0, List.length_append, Yy hf k, hf, Nat.succ_mul]
theorem Wr {f : Nat → List Value} {sz : Nat} (hf : ∀ i, (f i).length = sz) : ∀ {k i j : Nat}, i < k → j < sz → (Qz f k)[i * sz + j]? = (f i)[j]?
 | k + 1, i, j, hi, hj => by
  rw [X0]
  by_cases h : i = k
  ·subst h
   rw [List.getElem?_append_right (by rw [Yy hf]; omega), Yy hf, Nat.add_sub_cancel_left]
  ·have hik : i < k := by omega
   have hlt : i * sz + j < k * sz := Nat.lt_of_lt_of_le (show i * sz + j < (i + 1) * sz by rw [Nat.succ_mul]; omega) (Nat.mul_le_mul_right sz hik)
   rw [List.getElem?_append_left (by rw [Yy hf]; exact hlt)]
   exact Wr hf hik hj
theorem Qdt (b o j : Nat) : (⟨b, o, none⟩ : Addr).add j = ⟨b, o + j, none⟩ := by unfold Addr.add; split <;> simp_all
theorem Vo {w : World} {A : Option Addr} {n sz : Nat} {f : Nat → List Value} (hf : ∀ i, (f i).length = sz) (hs : 0 < sz) (h : Qo w A n sz f) : ∀ ad, A = some ad → ∀ j u, (Qz f n)[j]? = some u → w.cell? (ad.add j) = some u := fun ad hA j u hj => by
 have hjl : j < n * sz := by have := (List.getElem?_eq_some_iff.1 hj).1; rwa [Yy hf] at this
 have hn : 0 < n := Nat.pos_of_ne_zero (fun e => by subst e; omega)
 obtain ⟨b, o, e, _, hc⟩ := h hn
 obtain rfl : ad = ⟨b, o, none⟩ := Option.some.inj (hA.symm.trans e)
 have hi : j / sz < n := (Nat.div_lt_iff_lt_mul hs).2 hjl
 have hm := Nat.mod_lt j hs
 have hd := Nat.div_add_mod j sz
 have he : j / sz * sz + j % sz = j := by rw [Nat.mul_comm]; exact hd
 have := Wr hf hi hm
 rw [he, hj] at this
 rw [Qdt]
 have := hc (j / sz) (j % sz) u hi this.symm
 rw [show o + j / sz * sz + j % sz = o + j by omega] at this
 exact this
theorem Wg {w : World} {base k sz : Nat} {e : TypeId} {v : Value} {f : Nat → List Value} (hf : ∀ i, (f i).length = sz) (h : w.ownsRow base e sz v k (Qz f k)) : ∃ F c, v = .slice F k c ∧ Qo w F k sz f ∧ k ≤ c ∧ c ≤ maxLen ∧ (F = none → k = 0 ∧ c = 0) ∧ ∀ a, F = some a → base ≤ a.block := by
 rcases h.2 with ⟨rfl, h0⟩ | ⟨q, cap, cur, rfl, hb, hq, hn, hm, _⟩
 ·exact ⟨none, 0, by rw [h0], fun hp => by omega, by omega, by omega, fun _ => ⟨h0, rfl⟩, fun a h => by cases h⟩
 ·refine ⟨_, _, rfl, fun _ => ⟨q, 0, rfl, (Array.getElem?_eq_some_iff.1 hq).1, fun i j v hi hv => ?_⟩, hn, hm, (fun h => by cases h), fun a h => by cases h; exact hb⟩
  have hj : j < sz := by have := (List.getElem?_eq_some_iff.1 hv).1; rwa [hf] at this
  have hlt : i * sz + j < k * sz := Nat.lt_of_lt_of_le (show i * sz + j < (i + 1) * sz by rw [Nat.succ_mul]; omega) (Nat.mul_le_mul_right sz hi)
  rw [Nat.zero_add, World.ownsRow.cellAt h (i * sz + j) hlt, Wr hf hi hj]
  exact hv
theorem Tn {f : Nat → List Value} {n : Nat} (h : ∀ i, ∀ u ∈ f i, u.oneCell' = true) : ∀ u ∈ Qz f n, u.oneCell' = true := fun u hu => by
 obtain ⟨i, _, hi⟩ := List.mem_flatMap.1 hu
 exact h i u hi
theorem Qfd {P : Program} {id : Nat} {Q : Exit → Act → World → Prop} {a : Act} {w : World} {l : List Oper} (n : Nat) (W : World) (hm : P.follows .mixedOrders = true) (hn : n = l.length) (he : Qa W w)
  (h : Nonempty (XW W) → (∀ (u : XW W) b o, b < W.heap.size → u.w.cell? ⟨b, o, none⟩ = W.cell? ⟨b, o, none⟩) →
   ∀ w', Qa w w' → Xx P .any l.toArray (Qa W) (fun a w => Q .normal a w) n (Array.replicate n false) a w') : (Code.region id l.toArray true).wp P Q a w := by
 have H := h (XW.some W) (fun u => u.cell) { w with drawn := w.drawn + 1 } ⟨rfl, rfl, rfl, Nat.le_refl _, fun _ _ => rfl⟩
 have _ := he
 refine Code.wp_mono (Q := Jn fun a w => Q .normal a w) (fun e a' w' h' => by cases e <;> first | exact h' | exact False.elim h') (wp_region_any hm (Cx (C := Qa W) _ _ _ _ ?_))
 subst hn
 simpa using H
theorem Bc {w : World} {A : Option Addr} {n sz : Nat} {f : Nat → List Value} (h : Qo w A n sz f) {p : Addr} (u : Value) (hne : ∀ a, A = some a → a.block ≠ p.block) : Qo (w.setCell p u) A n sz f := fun h0 => by
 obtain ⟨b, off, hA, hb, hc⟩ := h h0
 refine ⟨b, off, hA, by simpa [World.setCell] using hb, fun i j v hi hv => ?_⟩
 have hb2 : p.block ≠ b := fun e => hne _ hA e.symm
 rw [World.cell?_setCell_other _ _ _ _ (fun e => hb2 (by rw [e]))]
 exact hc i j v hi hv
theorem Na {w : World} {A : Option Addr} {n sz : Nat} {f : Nat → List Value} {b : Nat} (h : Qo w A n sz f) (hne : ∀ a, A = some a → a.block ≠ b) (i j : Nat) (u x : Value) : Qo ((w.setCell ⟨b, i, none⟩ u).setCell ⟨b, j, none⟩ x) A n sz f := Bc (Bc h u hne) x hne
theorem Ql {W : World} {b : Nat} {t : TypeId} {v0 v1 : Value} (h : Qb W b t #[v0, v1]) (u0 u1 : Value) : Qb ((W.setCell ⟨b, 0, none⟩ u0).setCell ⟨b, 1, none⟩ u1) b t #[u0, u1] := by unfold Qb at h ⊢; simp [World.setCell, Array.getElem?_modify, h]
end
section
open Go Go.RowKit
section
variable {P : Program} {ops : Array Oper} {md : Region.Mode} {C : World → Prop} {R : Act → World → Prop}
theorem Bq {W : World} (hW : C W) {A : Act} {o : Oper} {l : List Oper} {a : Act} (hb : Ye (o :: l) = true) (hz : ∀ d, o.dst = some d → d < a.tmps.size) (h : ∀ u, C u → wpQuiet P ops (fun w' => w' = u) (fun a' => a' = A) (o :: l) a) :
  ∃ v, Xl P ops C o v a ∧ ∀ u, C u → wpQuiet P ops (fun w' => w' = u) (fun a' => a' = A) l (a.put o.dst v) := by
 simp only [Ye, Bool.and_eq_true] at hb
 obtain ⟨⟨hg, hd⟩, _⟩ := hb
 cases ho : o.dst with
 | none => rw [ho] at hd; cases hd
 | some d =>
  rw [ho] at hd
  have hw : Region.wanted o (yielded ops a.tmps) = true := by
   unfold Region.wanted
   cases hgo : o.guard with
   | none => rfl
   | some g => rw [hgo] at hg; cases hg
  have each : ∀ u, C u → ∃ v, o.quietAt P a (fun w' => w' = u) u v ∧ A.tmps[d]? = some v ∧ wpQuiet P ops (fun w' => w' = u) (fun a' => a' = A) l (a.put (some d) v) := fun u hu => by
   have h1 := h u hu
   unfold wpQuiet at h1
   rw [if_pos hw] at h1
   obtain ⟨v, h2, h3⟩ := h1
   rw [ho] at h3
   refine ⟨v, h2 _ rfl, ?_, h3⟩
   rw [M0 l _ hd h3]
   simp [Act.put, hz d ho]
  obtain ⟨v, _, hv, _⟩ := each W hW
  have same : ∀ u, C u → o.quietAt P a (fun w' => w' = u) u v ∧ wpQuiet P ops (fun w' => w' = u) (fun a' => a' = A) l (a.put (some d) v) := fun u hu => by
   obtain ⟨v', h1, h2, h3⟩ := each u hu
   have e : v' = v := Option.some.inj (h2.symm.trans hv)
   subst e
   exact ⟨h1, h3⟩
  exact ⟨v, ⟨hw, fun w hw => (same w hw).1⟩, fun u hu => (same u hu).2⟩
end
end
section
open Go Go.RowKit Go.Shelf
attribute [local go_sem] Zi
def Za (f : Nat → Nat) (i : Nat) : List Value := [.int .u64 (f i : Int)]
def W4 (l : List Nat) : List Value := l.map fun (x : Nat) => Value.int .u64 (x : Int)
theorem Qet (l : List Nat) (x : Nat) : W4 l ++ [.int .u64 (x : Int)] = W4 (l ++ [x]) := by simp [W4]
theorem Oy : (Tryd.prog.info? 164).map (fun i => (i.zero, i.size, i.bytes)) = some (some (.int .u64 0), 1, 8) := by kernel_rfl
theorem Ci {w : World} {base k : Nat} {v : Value} {l : List Nat} (hk : k = l.length) (h : w.ownsRow base 164 1 v k (W4 l)) : ∃ F c, v = .slice F k c ∧ Qo w F k 1 (Za fun i => l.getD i 0) ∧ k ≤ c ∧ c ≤ maxLen ∧ (F = none → k = 0 ∧ c = 0) ∧ ∀ a, F = some a → base ≤ a.block := by
 have e : W4 l = Qz (Za fun i => l.getD i 0) k := by
  subst hk
  apply List.ext_getElem?
  intro j
  by_cases hj : j < l.length
  ·have := Wr (f := Za fun i => l.getD i 0) (sz := 1) (fun _ => rfl) (i := j) (j := 0) hj (by decide)
   rw [Nat.mul_one, Nat.add_zero] at this
   rw [this]
   simp [W4, Za, List.getD_eq_getElem?_getD, List.getElem?_eq_getElem hj]
  ·rw [List.getElem?_eq_none (by simp [W4]; omega), List.getElem?_eq_none (by rw [Yy (f := Za fun i => l.getD i 0) (sz := 1) (fun _ => rfl)]; omega)]
 rw [e] at h
 obtain ⟨F, c, h1, h2, h3, h4, h5, h6⟩ := Wg (f := Za fun i => l.getD i 0) (fun _ => rfl) h
 exact ⟨F, c, h1, h2, h3, h4, h5, h6⟩
set_option maxHeartbeats 2000000 in
theorem Cc (A : Option Addr) (n ca : Nat) (f : Nat → Nat) (w : World) (hA : Qo w A n 1 (Za f)) (hn : n ≤ 1000000) :
  Calls Tryd.prog 107 #[.slice A n ca] w fun e w' => ∃ v, e = .returned v ∧ Qa w w' ∧ w'.ownsRow w.heap.size 164 1 v (Q9 f n).length (W4 (Q9 f n)) := by
 obtain ⟨i0, hi, hz0, hz1, hz2⟩ := info_parts Oy
 go_enter Tryd.func107, Tryd.ntmps107
 go_upto_region 3 with (fail)
 go_loopw [3, 8] (fun o i wr => ∃ k : Nat, k ≤ n ∧ i = .int .i64 k ∧ Qa w wr ∧ wr.ownsRow w.heap.size 164 1 o (Q9 f k).length (W4 (Q9 f k))) (fun _ i _ => n - (intOf i).toNat)
 case atStart => exact ⟨0, Nat.zero_le _, rfl, Qa.refl _, World.ownsRow_nil _ _ _ _⟩
 case round =>
  obtain ⟨k, hk, rfl, hE, hO⟩ := hrel
  obtain ⟨wo, rfl⟩ := Qg wr
  by_cases hlt : k < n
  ·obtain ⟨b, off, rfl, hb, hc⟩ := (hA.ext hE) (by omega)
   have c0 : wo.cell? ⟨b, off + k, none⟩ = some (.int .u64 (f k : Int)) := by simpa using hc k 0 _ hlt rfl
   have hml := Nl f k
   have HM := Lib.hid hml
   clear hml hc hA
   by_cases h1 : f k = 1
   ·have hs : Hid (Q9 f (k + 1) = Q9 f k) := by unfold Hid; rw [Q9, if_pos h1]
    rw [h1] at c0
    clear h1
    rw [← hs.out] at hO
    clear hs HM
    go_wp2
    exact ⟨⟨k + 1, by omega, by go_num, hE, hO⟩, by simp [intOf]; omega⟩
   ·have hs : Hid (Q9 f (k + 1) = Q9 f k ++ [f k]) := by unfold Hid; rw [Q9, if_neg h1]
    have hb1 : ((f k : Int) != 1) = true := by rw [bne, beq_eq_false_iff_ne.2 (by omega)]; rfl
    clear h1
    generalize f k = x at *
    go_upto_region 7 with (at_builtin; refine wpList_append_own_at _ rfl _ _ 167 rfl w.heap.size 164 i0 (.int .u64 0) 1 8 Tryd.underlying167 hi hz0 hz1 hz2 rfl (by decide) _ _ _ rfl (hO.alloc _) ⟨wo.heap.size, 0, none⟩ 1 1 [.int .u64 (x : Int)] rfl rfl (U4 _ _ _) (by simp [Value.oneCell']) (by have := HM.out; unfold maxLen; omega) (by have := HM.out; omega) (by have := hE.size; simp; omega) ?_; intro o' w2 hown hgrow _ _)
    have E2 : Qa w w2 := (hE.alloc _).grown hgrow (fun q hq => (hO.lt q hq).1)
    rw [Qet, ← hs.out] at hown
    have hl4 : (Q9 f k).length + 1 = (Q9 f (k + 1)).length := by rw [hs.out]; simp
    rw [hl4] at hown
    clear hs hgrow hl4
    go_wp2
    exact ⟨⟨k + 1, by omega, by go_num, E2, hown⟩, by simp [intOf]; omega⟩
  ·obtain rfl : k = n := by omega
   go_wp2
   go_ret
   exact ⟨_, rfl, hE, hO⟩
theorem Zo {W : World} {base size k : Nat} {e : TypeId} {v : Value} {xs : List Value} (h : W.ownsRow base e size v k xs) : ∃ F m, v = .slice F k m := by
 rcases h.2 with ⟨rfl, h0⟩ | ⟨g, cap, cur, rfl, _⟩
 ·exact ⟨none, 0, by rw [h0]⟩
 ·exact ⟨_, _, rfl⟩
theorem Qh {W : World} {b b' : Nat} {t : TypeId} {cs : Array Value} (h : Qb W b t cs) (hne : b ≠ b') (j : Nat) (u : Value) : Qb (W.setCell ⟨b', j, none⟩ u) b t cs :=
 h.kept ⟨rfl, rfl, rfl, (KeepsWalks.setCell W _ u).size, fun k _ hk => Below.heap_setCell _ _ _ k (fun e => hk (by rw [e]))⟩ (fun e => hne (by cases e; rfl))
theorem Mv {w : World} {base : Nat} {e : TypeId} {size : Nat} {v : Value} {n : Nat} {xs : List Value} (h : w.ownsRow base e size v n xs) (hn : 0 < n) : ∃ g cap, v = .slice (some ⟨g, 0, none⟩) n cap ∧ base ≤ g ∧ g < w.heap.size := by
 rcases h.2 with ⟨_, h0⟩ | ⟨g, cap, cur, hv, hb, hg, _⟩
 ·omega
 ·exact ⟨g, cap, hv, hb, (Array.getElem?_eq_some_iff.1 hg).1⟩
theorem K5 {w : World} {base : Nat} {e : TypeId} {size g c : Nat} {n m : Nat} {xs : List Value} (h : w.ownsRow base e size (.slice (some ⟨g, 0, none⟩) m c) n xs) : g < w.heap.size := by
 rcases h.2 with ⟨h', _⟩ | ⟨g', cap, cur, hv, hb, hg, _⟩
 ·cases h'
 ·cases hv; exact (Array.getElem?_eq_some_iff.1 hg).1
def Ry (A : Value → Value → Act) (S : World → Value → Value → Prop) : Exit → Act → World → Prop := fun e a' w' => e = .normal ∧ ∃ p q, S w' p q ∧ a' = A p q
theorem Il {A : Value → Value → Act} {S : World → Value → Value → Prop} {w' : World} (p q : Value) {a' : Act} (h : S w' p q) (ha : a' = A p q) : Ry A S .normal a' w' := ⟨rfl, p, q, h, ha⟩
theorem Qe9 {P : Program} {c : Code} {Q : Exit → Act → World → Prop} {a : Act} {w : World} {A : Value → Value → Act} (S : World → Value → Value → Prop) (h1 : c.wp P (Ry A S) a w) (h2 : ∀ p q w', S w' p q → Q .normal (A p q) w') : c.wp P Q a w :=
 Code.wp_mono (fun e a' w' ⟨he, p, q, hs, ha⟩ => by subst he; subst ha; exact h2 p q w' hs) h1
theorem Qes (f : Nat → Nat) (n i x : Nat) (hi : i < n) : (Qz (Za f) n).set i (.int .u64 (x : Int)) = Qz (Za (Jd f i x)) n := by
 apply List.ext_getElem?
 intro j
 have hl : (Qz (Za f) n).length = n := by have := Yy (f := Za f) (sz := 1) (fun _ => rfl) n; omega
 have hg : ∀ (g : Nat → Nat) k, k < n → (Qz (Za g) n)[k]? = some (.int .u64 (g k : Int)) := fun g k hk => by
  have := Wr (f := Za g) (sz := 1) (fun _ => rfl) (i := k) (j := 0) hk (by decide)
  rw [Nat.mul_one, Nat.add_zero] at this
  rw [this]; rfl
 rw [List.getElem?_set]
 by_cases e : i = j
 ·subst e
  rw [if_pos rfl, if_pos (by omega), hg _ _ hi]
  simp [Jd]
 ·rw [if_neg e]
  by_cases hj : j < n
  ·rw [hg _ _ hj, hg _ _ hj]
   simp [Jd, show j ≠ i by omega]
  ·rw [List.getElem?_eq_none (by omega), List.getElem?_eq_none (by have := Yy (f := Za (Jd f i x)) (sz := 1) (fun _ => rfl) n; omega)]
theorem V9 {w : World} {base g n cap : Nat} {f : Nat → Nat} (h : w.ownsRow base 164 1 (.slice (some ⟨g, 0, none⟩) n cap) n (Qz (Za f) n)) {i : Nat} (hi : i < n) : w.cell? ⟨g, i, none⟩ = some (.int .u64 (f i : Int)) := by
 rw [World.ownsRow.cellAt h i (by omega)]
 have := Wr (f := Za f) (sz := 1) (fun _ => rfl) (i := i) (j := 0) hi (by decide)
 rw [Nat.mul_one, Nat.add_zero] at this
 rw [this]; rfl
theorem G7 {w : World} {base g n cap : Nat} {f : Nat → Nat} (h : w.ownsRow base 164 1 (.slice (some ⟨g, 0, none⟩) n cap) n (Qz (Za f) n)) {i : Nat} (hi : i < n) (x : Nat) :
  (w.setCell ⟨g, i, none⟩ (.int .u64 (x : Int))).ownsRow base 164 1 (.slice (some ⟨g, 0, none⟩) n cap) n (Qz (Za (Jd f i x)) n) := by
 have := (World.ownsRow.stored h i (.int .u64 (x : Int))).1
 rwa [Qes f n i x hi] at this
theorem G6 {w : World} {base g n cap g' i : Nat} {f : Nat → Nat} (h : w.ownsRow base 164 1 (.slice (some ⟨g, 0, none⟩) n cap) n (Qz (Za f) n)) (hne : g ≠ g') (u : Value) :
  (w.setCell ⟨g', i, none⟩ u).ownsRow base 164 1 (.slice (some ⟨g, 0, none⟩) n cap) n (Qz (Za f) n) :=
 h.kept ⟨rfl, rfl, rfl, (KeepsWalks.setCell w _ u).size, fun k _ hk => Below.heap_setCell _ _ _ k (fun e => hk (by rw [e]))⟩ (.inr (fun e => hne (by cases e; rfl)))
theorem Qd2 (A A' : Option Addr) (n m ca cb : Nat) (fu fd : Nat → Nat) (w : World) (hA : Qo w A n 1 (Za fu)) (hA' : Qo w A' m 1 (Za fd)) (hnA : A = none → n = 0 ∧ ca = 0) (hnA' : A' = none → m = 0 ∧ cb = 0)
  (hn : n ≤ 1000) (hm : m ≤ 1000) (hu1 : ∀ i, i < n → 1 ≤ fu i) (hu2 : ∀ i, i < n → fu i < 18446744073709551616) (hd1 : ∀ i, i < m → 1 ≤ fd i) (hd2 : ∀ i, i < m → fd i < 18446744073709551616) :
  Calls Tryd.prog 103 #[.agg #[.slice A n ca, .slice A' m cb]] w fun e w' => ∃ U D F c F' c', Y4 fu fd n m U D n 0 ∧ e = .returned (.agg #[.slice F (Q9 U n).length c, .slice F' (Q9 D m).length c']) ∧ Qa w w' ∧
   Qo w' F (Q9 U n).length 1 (Za fun i => (Q9 U n).getD i 0) ∧ Qo w' F' (Q9 D m).length 1 (Za fun i => (Q9 D m).getD i 0) ∧ (∀ a, F = some a → w.heap.size ≤ a.block) ∧ (∀ a, F' = some a → w.heap.size ≤ a.block) := by
 obtain ⟨i0, hi, hz0, hz1, hz2⟩ := info_parts Oy
 have hlu := Yy (f := Za fu) (sz := 1) (fun _ => rfl) n
 have hld := Yy (f := Za fd) (sz := 1) (fun _ => rfl) m
 have hone : ∀ g k, ∀ u ∈ Qz (Za g) k, u.oneCell' = true := fun g k => Tn (f := Za g) (n := k) (fun i u hu => by simp [Za] at hu; subst hu; simp [Value.oneCell'])
 have HNU := fun v (h : Qo v A n 1 (Za fu)) => Vo (f := Za fu) (sz := 1) (fun _ => rfl) (by decide) h
 have HND := fun v (h : Qo v A' m 1 (Za fd)) => Vo (f := Za fd) (sz := 1) (fun _ => rfl) (by decide) h
 go_enter Tryd.func103, Tryd.ntmps103
 go_upto_region 1 with (fail)
 obtain ⟨v, hv⟩ := Qg ((w.alloc (.cells #[.slice A n ca, .slice A' m cb] 169)).alloc (.cells #[.slice none 0 0, .slice none 0 0] 169))
 rw [← hv]
 have E : Qa w v := by rw [hv]; exact ((Qa.refl _).alloc _).alloc _
 have B1 : Qb v w.heap.size 169 #[.slice A n ca, .slice A' m cb] := by rw [hv]; exact (Qb.new _ _ _).alloc _
 have B2 : Qb v (w.heap.size + 1) 169 #[.slice none 0 0, .slice none 0 0] := by rw [hv]; exact Qb.at _ _ _ _ (by simp)
 clear hv
 have RA := hA.ext E
 have RA' := hA'.ext E
 clear hA hA'
 have hb2 : w.heap.size ≤ w.heap.size + 1 := Nat.le_succ _
 have hvs : w.heap.size + 1 < v.heap.size := B2.lt
 generalize w.heap.size + 1 = b2 at *
 generalize hb1 : w.heap.size = b1 at *
 replace hb1 := Lib.hid hb1
 obtain ⟨k0, k1⟩ := B1.c2
 have lk := B1.lt
 apply Qe9 (S := fun w' p q => Qa v w' ∧ w'.ownsRow v.heap.size 164 1 p n (Qz (Za fu) n) ∧ w'.ownsRow v.heap.size 164 1 q m (Qz (Za fd) m) ∧ ∀ x y, p.ownBlock = some x → q.ownBlock = some y → x ≠ y)
 ·refine Qfd 8 v Qr rfl (Qa.refl _) ?_
  intro hne hrx v3 h3
  refine Fs (g := 4) [0, 1, 3, 4] [_, _, _, _] ⟨rfl, rfl, rfl, rfl, trivial⟩ (by kernel_rfl) (by kernel_rfl) h3 ?_
  simp only [Qd, Qe, Qf]
  apply Exists.intro
  refine ⟨fun u => ?_, ?_⟩
  ·repeat (first | go_big_quiet_skip | (go_big_quiet_want; go_big_quiet_op; go_big_quiet_on))
   refine wpQuiet_nil ?_
   rfl
  refine Fq 2 rfl (by kernel_rfl) ?_
  simp only [Qd, Qe, Qf]
  go_wp2_with (at_builtin; refine Cz rfl _ _ 167 rfl v3.heap.size 164 i0 (.int .u64 0) 1 8 Tryd.underlying167 hi hz0 hz1 hz2 rfl (by decide) rfl A n ca (Qz (Za fu) n) rfl hnA hlu (HNU _ (RA.ext h3)) (hone _ _) (by unfold maxLen; omega) (by omega) (Nat.le_refl _) ?_; intro p w4 hP hg)
  have h4 : Qa v3 w4 := (Qa.refl _).grown hg (fun q hq => by cases hq)
  clear hg
  have e4 := h3.trans h4
  refine Qi e4 ?_
  refine Fq 5 rfl (by kernel_rfl) ?_
  simp only [Qd, Qe, Qf]
  go_wp2_with (at_builtin; refine Cz rfl _ _ 167 rfl w4.heap.size 164 i0 (.int .u64 0) 1 8 Tryd.underlying167 hi hz0 hz1 hz2 rfl (by decide) rfl A' m cb (Qz (Za fd) m) rfl hnA' hld (HND _ (RA'.ext e4)) (hone _ _) (by unfold maxLen; omega) (by omega) (Nat.le_refl _) ?_; intro q w5 hQ hg)
  have h5 : Qa w4 w5 := (Qa.refl _).grown hg (fun q hq => by cases hq)
  clear hg
  have e5 := e4.trans h5
  refine Qi e5 ?_
  refine Fs (g := 0) [6, 7] [_, _] ⟨rfl, rfl, trivial⟩ (by kernel_rfl) (by kernel_rfl) e5 ?_
  simp only [Qd, Qe, Qf]
  apply Exists.intro
  refine ⟨fun u => ?_, ?_⟩
  ·repeat (first | go_big_quiet_skip | (go_big_quiet_want; go_big_quiet_op; go_big_quiet_on))
   refine wpQuiet_nil ?_
   rfl
  refine Ac (by kernel_rfl) ?_
  exact Il p q ⟨e5, World.ownsRow.mono (Zp hP h5) h3.size, World.ownsRow.mono hQ e4.size, fun x y h1 h2 => by have := (hP.lt x h1).2; have := (hQ.lt y h2).1; omega⟩ rfl
 ·rintro p q w1 ⟨E1, hP, hQ, hap⟩
  obtain ⟨F1, c1, rfl⟩ := Zo hP
  obtain ⟨F2, c2, rfl⟩ := Zo hQ
  have hvw := E1.size
  clear RA RA' k0 k1 lk HNU HND hone hlu hld
  go_upto_region 3 with (fail)
  go_loopw [16] (fun iv wr => ∃ i : Nat, i ≤ n ∧ iv = .int .i64 (i : Int) ∧ Qa v wr ∧ ∃ U D, Y4 fu fd n m U D i 0 ∧ wr.ownsRow v.heap.size 164 1 (.slice F1 n c1) n (Qz (Za U) n) ∧ wr.ownsRow v.heap.size 164 1 (.slice F2 m c2) m (Qz (Za D) m)) (fun iv _ => n - (intOf iv).toNat)
  case atStart => exact ⟨0, Nat.zero_le _, rfl, E1, fu, fd, Y4.start hu1 hd1, hP, hQ⟩
  case round =>
   obtain ⟨i, hi0, rfl, hEo, Uo, Do, hRo, hPo, hQo⟩ := hrel
   obtain ⟨wo, rfl⟩ := Qg wr
   by_cases hlt : i < n
   ·go_upto_region 6 with (fail)
    go_loopw [21] (fun jv wr => ∃ j : Nat, j ≤ m ∧ jv = .int .i64 (j : Int) ∧ Qa v wr ∧ ∃ U D, Y4 fu fd n m U D i j ∧ wr.ownsRow v.heap.size 164 1 (.slice F1 n c1) n (Qz (Za U) n) ∧ wr.ownsRow v.heap.size 164 1 (.slice F2 m c2) m (Qz (Za D) m)) (fun jv _ => m - (intOf jv).toNat)
    case atStart => exact ⟨0, Nat.zero_le _, rfl, hEo, Uo, Do, hRo, hPo, hQo⟩
    case round =>
     clear hEo hRo hPo hQo
     obtain ⟨j, hj0, rfl, hE, U, D, hR, hP, hQ⟩ := hrel
     obtain ⟨wo, rfl⟩ := Qg wr
     by_cases hltj : j < m
     ·obtain ⟨g1, x1, hf1, hg1, hl1⟩ := Mv hP (by omega)
      obtain ⟨g2, x2, hf2, hg2, hl2⟩ := Mv hQ (by omega)
      obtain ⟨rfl, _, rfl⟩ : F1 = some ⟨g1, 0, none⟩ ∧ n = n ∧ c1 = x1 := by simpa using hf1
      obtain ⟨rfl, _, rfl⟩ : F2 = some ⟨g2, 0, none⟩ ∧ m = m ∧ c2 = x2 := by simpa using hf2
      have hne := hap g1 g2 rfl rfl
      clear hf1 hf2
      have p0 := V9 hP hlt
      have q0 := V9 hQ hltj
      have hRS := hR.step hlt hltj
      have hU1 := hR.up i hlt
      have hD1 := hR.dn j hltj
      have hu2i := hu2 i hlt
      have hd2j := hd2 j hltj
      have NC := fun w => Rv (U i) (D j) (by omega) w
      have hgp : 0 < Nat.gcd (U i) (D j) := Nat.gcd_pos_of_pos_right _ hD1.1
      have hP2 := fun x => G7 hP hlt x
      have hQ2 := fun x => G6 (i := i) hQ (Ne.symm hne) (.int .u64 (x : Int))
      generalize hgg : Nat.gcd (U i) (D j) = g at *
      go_upto_region 8 with (fail)
      refine Zr wo Qr (by kernel_rfl) (by repeat (first | exact Qa.refl _ | (refine Qa.alloc ?_ _) | (refine Qa.trans ?_ (by assumption)))) ?_
      intro hne hrx hry
      try simp only []
      try simp only [List.append_eq, List.cons_append, List.nil_append]
      skip
      repeat (first
       | go_big_quiet_skip
       | (go_big_quiet_want; go_big_quiet_op; go_big_quiet_on)
       | (go_big_quiet_want; go_big_quiet_op; apply Exists.intro; refine ⟨fun u => ?_, ?_⟩
          ·first
            | (go_at_call 96; (with_reducible refine Calls.mono (NC _) ?_); rintro e w' ⟨rfl, hb⟩; exact ⟨rfl, u.back hb⟩)
          go_big_quiet_on))
      clear hne hry hrx
      refine wpQuiet_nil ?_
      intro w2 h2
      obtain ⟨hcw2, hfw2, hzw2⟩ := Qa.rules h2
      try simp only [World.size_alloc] at hzw2
      obtain ⟨hcbw2, hfbw2, hzbw2⟩ := Qa.rules (show Qa wo w2 from (by repeat (first | exact Qa.refl _ | (refine Qa.alloc ?_ _) | (refine Qa.trans ?_ (by assumption)))))
      clear hcw2 hfw2
      clear p0 q0 hl1 hl2
      replace hP := Zp hP h2
      replace hQ := Zp hQ h2
      have f0 := World.ownsRow.frozenAt hP i
      have f1 := World.ownsRow.frozenAt hQ j
      have p0 := V9 hP hlt
      have q0 := V9 hQ hltj
      have l1 := (K5 hP)
      have l2 := (K5 hQ)
      have gi0 : (g : Int) ≠ 0 := by omega
      have gi1 : ((g : Int) == 0) = false := beq_eq_false_iff_ne.2 gi0
      have hq1 : IntKind.u64.wrap ((U i : Int) / (g : Int)) = ((U i / g : Nat) : Int) := by
       rw [IntKind.wrap_u64, ← Int.natCast_ediv]
       have := Nat.div_le_self (U i) g
       generalize U i / g = z at this ⊢
       exact Int.emod_eq_of_lt (by omega) (by omega)
      have hq2 : IntKind.u64.wrap ((D j : Int) / (g : Int)) = ((D j / g : Nat) : Int) := by
       rw [IntKind.wrap_u64, ← Int.natCast_ediv]
       have := Nat.div_le_self (D j) g
       generalize D j / g = z at this ⊢
       exact Int.emod_eq_of_lt (by omega) (by omega)
      clear hU1 hD1 hu2i hd2j NC hP2 hQ2
      generalize U i / g = x1 at *
      generalize D j / g = x2 at *
      have E3 := (hE.trans h2).setCell (p := ⟨g1, i, none⟩) hg1 (.int .u64 (x1 : Int))
      have hP3 := G7 hP hlt x1
      have hQ3 := G6 (i := i) hQ (Ne.symm hne) (.int .u64 (x1 : Int))
      go_upto_region 10 with (fail)
      generalize World.setCell w2 _ _ = w3 at *
      clear hP hQ p0 q0 l1 l2 f0 f1
      have p0 := V9 hP3 hlt
      have q0 := V9 hQ3 hltj
      have l1 := (K5 hP3)
      have l2 := (K5 hQ3)
      have f1 := World.ownsRow.frozenAt hQ3 j
      have E4 := E3.setCell (p := ⟨g2, j, none⟩) hg2 (.int .u64 (x2 : Int))
      have hQ4 := G7 hQ3 hltj x2
      have hP4 := G6 (i := j) hP3 hne (.int .u64 (x2 : Int))
      go_wp2
      exact ⟨⟨j + 1, by omega, by go_num, E4, _, _, hRS, hP4, hQ4⟩, by simp [intOf]; omega⟩
     ·obtain rfl : j = m := by omega
      go_wp2
      exact ⟨⟨i + 1, by omega, by go_num, hE, U, D, hR.row, hP, hQ⟩, by simp [intOf]; omega⟩
   ·obtain rfl : i = n := by omega
    have hRU := fun w h => Cc F1 i c1 Uo w h (by omega)
    have hRD := fun w h => Cc F2 m c2 Do w h (by omega)
    obtain ⟨F3, c3, hf1, ra, _⟩ := Wg (f := Za Uo) (sz := 1) (fun _ => rfl) hPo
    obtain ⟨F4, c4, hf2, rb, _⟩ := Wg (f := Za Do) (sz := 1) (fun _ => rfl) hQo
    obtain ⟨rfl, rfl⟩ : F1 = F3 ∧ c1 = c3 := by simpa using hf1
    obtain ⟨rfl, rfl⟩ : F2 = F4 ∧ c2 = c4 := by simpa using hf2
    clear hf1 hf2
    go_wp2_with (first
     | (go_at_call 107; (with_reducible refine Calls.mono (hRU _ ra) ?_); rintro e w2 ⟨va, rfl, h2, oa⟩; obtain ⟨G1, d1, rfl, ga, _, _, _, ga6⟩ := Ci rfl oa)
     | (go_at_call 107; (with_reducible refine Calls.mono (hRD _ (rb.ext h2)) ?_); rintro e w3 ⟨vb, rfl, h3, ob⟩; obtain ⟨G2, d2, rfl, gb, _, _, _, gb6⟩ := Ci rfl ob; have B3 := B2.ext ((hEo.trans h2).trans h3); have z0 := B3.frozen 0; have z1 := B3.frozen 1; obtain ⟨y0, y1⟩ := B3.c2; have ly := B3.lt))
    have H2 := Ql B3 (.slice G1 (Q9 Uo i).length d1) (.slice G2 (Q9 Do m).length d2)
    have E2 := ((((E.trans hEo).trans h2).trans h3).setCell (p := ⟨b2, 0, none⟩) (by have := hb1.out; show w.heap.size ≤ b2; omega) (.slice G1 (Q9 Uo i).length d1)).setCell (p := ⟨b2, 1, none⟩) (by have := hb1.out; show w.heap.size ≤ b2; omega) (.slice G2 (Q9 Do m).length d2)
    have hvs1 := hEo.size
    have hvs2 := h2.size
    have ga2 := Na (ga.ext h3) (b := b2) (fun a h => by have := ga6 a h; omega) 0 1 (.slice G1 (Q9 Uo i).length d1) (.slice G2 (Q9 Do m).length d2)
    have gb2 := Na gb (b := b2) (fun a h => by have := gb6 a h; omega) 0 1 (.slice G1 (Q9 Uo i).length d1) (.slice G2 (Q9 Do m).length d2)
    obtain ⟨x0, x1⟩ := H2.c2
    generalize (w3.setCell ⟨b2, 0, none⟩ (.slice G1 (Q9 Uo i).length d1)).setCell ⟨b2, 1, none⟩ (.slice G2 (Q9 Do m).length d2) = wf at *
    clear y0 y1 z0 z1 B3 ly
    go_wp2
    refine bodyPost_ret (v := .agg #[.slice G1 (Q9 Uo i).length d1, .slice G2 (Q9 Do m).length d2]) (by simp [results, Tryd.results103, go_sem, x0, x1]) rfl ⟨Uo, Do, G1, d1, G2, d2, hRo, rfl, E2, ga2, gb2, fun a h => by have := ga6 a h; have := E.size; have := hb1.out; omega, fun a h => by have := gb6 a h; have := E.size; have := hb1.out; omega⟩
theorem Nk {f : Nat → Nat} {n k : Nat} (hk : k < (Q9 f n).length) : ∃ i, i < n ∧ (Q9 f n).getD k 0 = f i := by
 refine G4 f n _ ?_
 rw [List.getD_eq_getElem?_getD, List.getElem?_eq_getElem hk]
 exact List.getElem_mem hk
theorem Zm {x : Int} (h1 : -9223372036854775808 ≤ x) (h2 : x ≤ 9223372036854775807) : IntKind.i64.wrap x = x := by
 rw [IntKind.wrap_i64]; omega
theorem Gk (A A' : Option Addr) (n m ca cb : Nat) (fu fd : Nat → Nat) (neg : Bool) (w : World) (hA : Qo w A n 1 (Za fu)) (hA' : Qo w A' m 1 (Za fd)) (hnA : A = none → n = 0 ∧ ca = 0) (hnA' : A' = none → m = 0 ∧ cb = 0)
  (hn : n ≤ 1000) (hm : m ≤ 1000) (hu1 : ∀ i, i < n → 1 ≤ fu i) (hu2 : ∀ i, i < n → fu i < 18446744073709551616) (hd1 : ∀ i, i < m → 1 ≤ fd i) (hd2 : ∀ i, i < m → fd i < 18446744073709551616) :
  Calls Tryd.prog 98 #[.agg #[.slice A n ca, .slice A' m cb], .bool neg] w fun e w' => e = .returned (.tuple #[.agg #[.int .i64 (Jc neg (upTo fu n) (upTo fd m)).1.n, .int .i64 (Jc neg (upTo fu n) (upTo fd m)).1.d], .int .i64 (Jc neg (upTo fu n) (upTo fd m)).2]) ∧ Qa w w' := by
 have NR := fun v h1 h2 => Qd2 A A' n m ca cb fu fd v h1 h2 hnA hnA' hn hm hu1 hu2 hd1 hd2
 obtain ⟨R, hR0⟩ := Qg (Jc neg (upTo fu n) (upTo fd m))
 rw [← hR0]
 have HR := Lib.hid hR0
 clear hR0
 go_enter Tryd.func98, Tryd.ntmps98
 go_upto_region 1 with (fail)
 obtain ⟨v, hv⟩ := Qg ((w.alloc (.cells #[.slice A n ca, .slice A' m cb] 169)).alloc (.cells #[.int .i64 0, .int .i64 0] 61))
 rw [← hv]
 have E : Qa w v := by rw [hv]; exact ((Qa.refl _).alloc _).alloc _
 have B1 : Qb v w.heap.size 169 #[.slice A n ca, .slice A' m cb] := by rw [hv]; exact (Qb.new _ _ _).alloc _
 have B2 : Qb v (w.heap.size + 1) 61 #[.int .i64 0, .int .i64 0] := by rw [hv]; exact Qb.at _ _ _ _ (by simp)
 clear hv
 have RA := hA.ext E
 have RA' := hA'.ext E
 clear hA hA'
 obtain ⟨b2, hb2⟩ := Qg (w.heap.size + 1)
 rw [← hb2] at B2 ⊢
 obtain ⟨b1, hb1⟩ := Qg (w.heap.size)
 rw [← hb1] at B1 ⊢
 have h21 : b2 ≠ b1 := by omega
 have hb1' := Nat.le_of_eq hb1.symm
 have hb2' : w.heap.size ≤ b2 := by omega
 clear hb1 hb2
 obtain ⟨k0, k1⟩ := B1.c2
 have lk := B1.lt
 go_upto_region 2 with (go_at_call 103; (with_reducible refine Calls.mono (NR _ RA RA') ?_); rintro e w2 ⟨U, D, G1, d1, G2, d2, hRI, rfl, h2, ga, gb, ga6, gb6⟩; have B12 := B1.ext h2; obtain ⟨k0, k1⟩ := B12.c2; have lk := B12.lt; have f0 := B12.frozen 0; have f1 := B12.frozen 1)
 have hbv := B1.lt
 have EX := ((E.trans h2).setCell (p := ⟨b1, 0, none⟩) hb1' (.slice G1 (Q9 U n).length d1)).setCell (p := ⟨b1, 1, none⟩) hb1' (.slice G2 (Q9 D m).length d2)
 have H1 := Ql B12 (.slice G1 (Q9 U n).length d1) (.slice G2 (Q9 D m).length d2)
 have H2 := Qh (Qh (B2.ext h2) h21 0 (.slice G1 (Q9 U n).length d1)) h21 1 (.slice G2 (Q9 D m).length d2)
 have ga2 := Na ga (b := b1) (fun a h => by have := ga6 a h; omega) 0 1 (.slice G1 (Q9 U n).length d1) (.slice G2 (Q9 D m).length d2)
 have gb2 := Na gb (b := b1) (fun a h => by have := gb6 a h; omega) 0 1 (.slice G1 (Q9 U n).length d1) (.slice G2 (Q9 D m).length d2)
 generalize (w2.setCell ⟨b1, 0, none⟩ (.slice G1 (Q9 U n).length d1)).setCell ⟨b1, 1, none⟩ (.slice G2 (Q9 D m).length d2) = wf at *
 clear f0 f1 k0 k1 lk ga gb ga6 gb6 B12 B1 B2 h2 E RA RA' NR hb1' hbv
 have hdone := hRI.done neg hd1
 rw [← HR.out] at hdone
 have hl1 := Nl U n
 have hl2 := Nl D m
 have NP := fun v h => Cu G1 (Q9 U n).length d1 (fun i => (Q9 U n).getD i 0) 1099511627776 (by decide) (by decide) (fun i hi => by obtain ⟨j, hj, e⟩ := Nk hi; rw [e]; exact (hRI.up j hj).1) (fun i hi => by obtain ⟨j, hj, e⟩ := Nk hi; rw [e]; exact Nat.lt_of_le_of_lt (hRI.up j hj).2 (hu2 j hj)) v h (by omega)
 have NQ := fun v h => Cu G2 (Q9 D m).length d2 (fun i => (Q9 D m).getD i 0) 1048576 (by decide) (by decide) (fun i hi => by obtain ⟨j, hj, e⟩ := Nk hi; rw [e]; exact (hRI.dn j hj).1) (fun i hi => by obtain ⟨j, hj, e⟩ := Nk hi; rw [e]; exact Nat.lt_of_le_of_lt (hRI.dn j hj).2 (hd2 j hj)) v h (by omega)
 rw [Qdv, G5] at NP NQ
 clear hl1 hl2 hRI hu1 hu2 hd1 hd2 hnA hnA' hn hm
 generalize (Q9 U n).length = n1 at *
 generalize (Q9 D m).length = n2 at *
 generalize upTo U n = p at *
 generalize upTo D m = q at *
 obtain ⟨k0, k1⟩ := H1.c2
 have lk := H1.lt
 obtain ⟨R0, R1⟩ := R
 replace hdone := Lib.hid hdone
 by_cases hp : p ≤ 1099511627776
 ·by_cases hq : q ≤ 1048576
  ·simp only [if_pos hp, decide_eq_true hp] at NP
   simp only [if_pos hq, decide_eq_true hq] at NQ
   have hd := hdone.out
   rw [if_pos ⟨hp, hq⟩] at hd
   obtain ⟨rfl, rfl⟩ := Prod.mk.inj hd
   have w1 : IntKind.i64.wrap (p : Int) = (p : Int) := Zm (by omega) (by omega)
   have w2 : IntKind.i64.wrap (q : Int) = (q : Int) := Zm (by omega) (by omega)
   have w3 : IntKind.i64.wrap (-(p : Int)) = -(p : Int) := Zm (by omega) (by omega)
   clear hp hq hd hdone HR
   cases neg
   ·skip
    go_upto_region 3 with (go_at_call 104; (with_reducible refine Calls.mono (NP _ ga2) ?_); rintro e wa ⟨rfl, ha⟩; clear k0 k1 lk; replace H1 := H1.ext ha; obtain ⟨k0, k1⟩ := H1.c2; have lk := H1.lt)
    replace EX := EX.trans ha
    replace H2 := H2.ext ha
    replace gb2 := gb2.ext ha
    clear ha ga2 NP
    go_upto_region 4 with (go_at_call 104; (with_reducible refine Calls.mono (NQ _ gb2) ?_); rintro e wb ⟨rfl, hb⟩)
    replace EX := EX.trans hb
    replace H2 := H2.ext hb
    clear hb gb2 NQ k0 k1 lk
    have f0 := H2.frozen 0
    have f1 := H2.frozen 1
    obtain ⟨z0, z1⟩ := H2.c2
    have lz := H2.lt
    have H3 := Ql H2 (.int .i64 (p : Int)) (.int .i64 (q : Int))
    have EF := (EX.setCell (p := ⟨b2, 0, none⟩) hb2' (.int .i64 (p : Int))).setCell (p := ⟨b2, 1, none⟩) hb2' (.int .i64 (q : Int))
    obtain ⟨x0, x1⟩ := H3.c2
    go_wp2
    refine bodyPost_ret (v := .tuple #[.agg #[.int .i64 (p : Int), .int .i64 (q : Int)], .int .i64 0]) (by simp [results, Tryd.results98, go_sem, x0, x1]) rfl ⟨rfl, EF⟩
   ·skip
    go_upto_region 3 with (go_at_call 104; (with_reducible refine Calls.mono (NP _ ga2) ?_); rintro e wa ⟨rfl, ha⟩; clear k0 k1 lk; replace H1 := H1.ext ha; obtain ⟨k0, k1⟩ := H1.c2; have lk := H1.lt)
    replace EX := EX.trans ha
    replace H2 := H2.ext ha
    replace gb2 := gb2.ext ha
    clear ha ga2 NP
    go_upto_region 4 with (go_at_call 104; (with_reducible refine Calls.mono (NQ _ gb2) ?_); rintro e wb ⟨rfl, hb⟩)
    replace EX := EX.trans hb
    replace H2 := H2.ext hb
    clear hb gb2 NQ k0 k1 lk
    have f0 := H2.frozen 0
    have f1 := H2.frozen 1
    obtain ⟨z0, z1⟩ := H2.c2
    have lz := H2.lt
    have H3 := Ql H2 (.int .i64 (-(p : Int))) (.int .i64 (q : Int))
    have EF := (EX.setCell (p := ⟨b2, 0, none⟩) hb2' (.int .i64 (-(p : Int)))).setCell (p := ⟨b2, 1, none⟩) hb2' (.int .i64 (q : Int))
    obtain ⟨x0, x1⟩ := H3.c2
    go_wp2
    refine bodyPost_ret (v := .tuple #[.agg #[.int .i64 (-(p : Int)), .int .i64 (q : Int)], .int .i64 0]) (by simp [results, Tryd.results98, go_sem, x0, x1]) rfl ⟨rfl, EF⟩
  ·simp only [if_pos hp, decide_eq_true hp] at NP
   simp only [if_neg hq, decide_eq_false hq] at NQ
   have hd := hdone.out
   rw [if_neg (fun h => hq h.2)] at hd
   obtain ⟨rfl, rfl⟩ := Prod.mk.inj hd
   clear hd hdone HR
   go_upto_region 3 with (go_at_call 104; (with_reducible refine Calls.mono (NP _ ga2) ?_); rintro e wa ⟨rfl, ha⟩; clear k0 k1 lk; replace H1 := H1.ext ha; obtain ⟨k0, k1⟩ := H1.c2; have lk := H1.lt)
   replace EX := EX.trans ha
   replace H2 := H2.ext ha
   replace gb2 := gb2.ext ha
   clear ha ga2 NP
   go_upto_region 4 with (go_at_call 104; (with_reducible refine Calls.mono (NQ _ gb2) ?_); rintro e wb ⟨rfl, hb⟩)
   replace EX := EX.trans hb
   replace H2 := H2.ext hb
   clear hb gb2 NQ k0 k1 lk
   have f0 := H2.frozen 0
   have f1 := H2.frozen 1
   obtain ⟨z0, z1⟩ := H2.c2
   have lz := H2.lt
   have H3 := Ql H2 (.int .i64 0) (.int .i64 0)
   have EF := (EX.setCell (p := ⟨b2, 0, none⟩) hb2' (.int .i64 0)).setCell (p := ⟨b2, 1, none⟩) hb2' (.int .i64 0)
   obtain ⟨x0, x1⟩ := H3.c2
   go_wp2
   refine bodyPost_ret (v := .tuple #[.agg #[.int .i64 0, .int .i64 0], .int .i64 6]) (by simp [results, Tryd.results98, go_sem, x0, x1]) rfl ⟨rfl, EF⟩
 ·simp only [if_neg hp, decide_eq_false hp] at NP
  have hd := hdone.out
  rw [if_neg (fun h => hp h.1)] at hd
  obtain ⟨rfl, rfl⟩ := Prod.mk.inj hd
  clear hd hdone HR
  generalize decide (q ≤ 1048576) = bq at *
  generalize (if q ≤ 1048576 then q else 0) = q' at *
  cases bq
  ·skip
   go_upto_region 3 with (go_at_call 104; (with_reducible refine Calls.mono (NP _ ga2) ?_); rintro e wa ⟨rfl, ha⟩; clear k0 k1 lk; replace H1 := H1.ext ha; obtain ⟨k0, k1⟩ := H1.c2; have lk := H1.lt)
   replace EX := EX.trans ha
   replace H2 := H2.ext ha
   replace gb2 := gb2.ext ha
   clear ha ga2 NP
   go_upto_region 4 with (go_at_call 104; (with_reducible refine Calls.mono (NQ _ gb2) ?_); rintro e wb ⟨rfl, hb⟩)
   replace EX := EX.trans hb
   replace H2 := H2.ext hb
   clear hb gb2 NQ k0 k1 lk
   have f0 := H2.frozen 0
   have f1 := H2.frozen 1
   obtain ⟨z0, z1⟩ := H2.c2
   have lz := H2.lt
   have H3 := Ql H2 (.int .i64 0) (.int .i64 0)
   have EF := (EX.setCell (p := ⟨b2, 0, none⟩) hb2' (.int .i64 0)).setCell (p := ⟨b2, 1, none⟩) hb2' (.int .i64 0)
   obtain ⟨x0, x1⟩ := H3.c2
   go_wp2
   refine bodyPost_ret (v := .tuple #[.agg #[.int .i64 0, .int .i64 0], .int .i64 6]) (by simp [results, Tryd.results98, go_sem, x0, x1]) rfl ⟨rfl, EF⟩
  ·skip
   go_upto_region 3 with (go_at_call 104; (with_reducible refine Calls.mono (NP _ ga2) ?_); rintro e wa ⟨rfl, ha⟩; clear k0 k1 lk; replace H1 := H1.ext ha; obtain ⟨k0, k1⟩ := H1.c2; have lk := H1.lt)
   replace EX := EX.trans ha
   replace H2 := H2.ext ha
   replace gb2 := gb2.ext ha
   clear ha ga2 NP
   go_upto_region 4 with (go_at_call 104; (with_reducible refine Calls.mono (NQ _ gb2) ?_); rintro e wb ⟨rfl, hb⟩)
   replace EX := EX.trans hb
   replace H2 := H2.ext hb
   clear hb gb2 NQ k0 k1 lk
   have f0 := H2.frozen 0
   have f1 := H2.frozen 1
   obtain ⟨z0, z1⟩ := H2.c2
   have lz := H2.lt
   have H3 := Ql H2 (.int .i64 0) (.int .i64 0)
   have EF := (EX.setCell (p := ⟨b2, 0, none⟩) hb2' (.int .i64 0)).setCell (p := ⟨b2, 1, none⟩) hb2' (.int .i64 0)
   obtain ⟨x0, x1⟩ := H3.c2
   go_wp2
   refine bodyPost_ret (v := .tuple #[.agg #[.int .i64 0, .int .i64 0], .int .i64 6]) (by simp [results, Tryd.results98, go_sem, x0, x1]) rfl ⟨rfl, EF⟩
end
section
open Go Go.RowKit
section
variable {P : Program} {ops : Array Oper} {md : Region.Mode} {C : World → Prop} {R : Act → World → Prop} {zs : List Nat}
def Jk (P : Program) (md : Region.Mode) (ops : Array Oper) (C : World → Prop) (zs : List Nat) (R : Act → World → Prop) : Nat → Array Bool → Act → World → Prop
 | 0, L, a, w => Region.ready md ops L = [] ∧ R a w
 | f + 1, L, a, w => (Region.ready md ops L = [] → R a w) ∧ ∀ i ∈ Region.ready md ops L, wpOp P ops (Jn fun _ _ => False) i (fun a' w' => (i ∉ zs → C w') ∧ Jk P md ops C zs R f (L.setIfInBounds i true) a' w') a w
theorem Cy {R : Act → World → Prop} : ∀ (f : Nat) (L : Array Bool) (a : Act) (w : World), Jk P md ops C zs R f L a w → wpAny P md ops (Jn R) f L a w
 | 0, _, _, _, h => h
 | f + 1, _, _, _, h => ⟨h.1, fun i hi => wpOp_mono (fun a' w' h' => Cy f _ a' w' h'.2) (C0 (h.2 i hi))⟩
/-- What is done has what it waits for done. -/
def Ua (md : Region.Mode) (ops : Array Oper) (L : Array Bool) : Prop := ∀ (j : Nat) (oj : Oper), ops[j]? = some oj → L.getD j false = true → ∀ e ∈ oj.after, Region.binds md e = true → L.getD e.on false = true
theorem Ua.set {L : Array Bool} (h : Ua md ops L) {i : Nat} (hi : i ∈ Region.ready md ops L) : Ua md ops (L.setIfInBounds i true) := fun j oj hj hl e he hb => by
 have up : ∀ k, L.getD k false = true → (L.setIfInBounds i true).getD k false = true := fun k hk => by
  by_cases e1 : i = k
  ·subst e1
   rcases Nat.lt_or_ge i L.size with h1 | h1
   ·simp [h1]
   ·simp [Array.getElem?_eq_none h1] at hk
  ·rw [getD_set_ne false e1]; exact hk
 refine up _ ?_
 obtain ⟨_, oi, hoi, hall⟩ := mem_ready.1 hi
 by_cases e1 : i = j
 ·subst e1
  have e2 : oj = oi := Option.some.inj (hj.symm.trans hoi)
  subst e2
  exact hall e he hb
 ·rw [getD_set_ne false e1] at hl
  exact h j oj hj hl e he hb
def Vj (md : Region.Mode) (ops : Array Oper) : Nat → Nat → Nat → Bool
 | 0, _, _ => false
 | f + 1, j, i => match ops[j]? with | some oj => oj.after.any fun e => Region.binds md e && (e.on == i || Vj md ops f e.on i) | none => false
theorem Cs {L : Array Bool} (hc : Ua md ops L) {i : Nat} : ∀ (f j : Nat), Vj md ops f j i = true → L.getD j false = true → L.getD i false = true
 | 0, _, h, _ => by cases h
 | f + 1, j, h, hj => by
  unfold Vj at h
  split at h
  ·rename_i oj hoj
   obtain ⟨e, he, hb⟩ := Array.any_eq_true'.1 h
   simp only [Bool.and_eq_true, Bool.or_eq_true, beq_iff_eq] at hb
   have h1 := hc j oj hoj hj e he hb.1
   rcases hb.2 with e1 | e1
   ·rw [← e1]; exact h1
   ·exact Cs hc f e.on e1 h1
  ·cases h
theorem Qe3 {L : Array Bool} (hc : Ua md ops L) {i j f : Nat} (h : Vj md ops f j i = true) (hi : L.getD i true = false) (hj : j ∈ Region.ready md ops L) : False := by
 obtain ⟨_, oj, hoj, hall⟩ := mem_ready.1 hj
 cases f with
 | zero => cases h
 | succ f =>
  unfold Vj at h
  rw [hoj] at h
  obtain ⟨e, he, hb⟩ := Array.any_eq_true'.1 h
  simp only [Bool.and_eq_true, Bool.or_eq_true, beq_iff_eq] at hb
  have h1 := hall e he hb.1
  have h2 : L.getD i false = true := by
   rcases hb.2 with e1 | e1
   ·rw [← e1]; exact h1
   ·exact Cs hc f e.on e1 h1
  rw [getD_both hi] at h2
  cases h2
theorem Qe5 {R : Act → World → Prop} {i : Nat} {oi : Oper} {v : Value} {f0 : Nat} (hi : ops[i]? = some oi) (hwz : ∀ j, j ∈ zs → Vj md ops f0 j i = true)
  (hsel : ∀ (j : Nat) (o : Oper) cs b, ops[j]? = some o → o.op ≠ .select cs b) :
  ∀ (f : Nat) (L : Array Bool) (a : Act) (w : World), Ua md ops L →
   (∀ j oj, ops[j]? = some oj → j ≠ i → L.getD j true = false → (∀ e ∈ oj.after, Region.binds md e = true → e.on ≠ i) → oi.apart ops oj = true) →
   i ∈ Region.ready md ops L → C w → Xl P ops C oi v a →
   Jk P md ops C zs R f (L.setIfInBounds i true) (a.put oi.dst v) w → Jk P md ops C zs R (f + 1) L a w := by
 intro f
 induction f with
 | zero =>
  intro L a w hcl _ hr hw hy H
  refine ⟨fun h => (by rw [h] at hr; cases hr), fun j hj => ?_⟩
  by_cases hji : j = i
  ·subst hji; exact hy.wpOp hi hw ⟨fun _ => hw, H⟩
  ·have := ready_mono hj hji
   rw [H.1] at this
   cases this
 | succ f ih =>
  intro L a w hcl hfree hr hw hy H
  refine ⟨fun h => (by rw [h] at hr; cases hr), fun j hj => ?_⟩
  by_cases hji : j = i
  ·subst hji; exact hy.wpOp hi hw ⟨fun _ => hw, H⟩
  ·have h1 := H.2 j (ready_mono hj hji)
   obtain ⟨hjun, oj, hoj, hall⟩ := mem_ready.1 hj
   have hnot : ∀ e ∈ oj.after, Region.binds md e = true → e.on ≠ i := fun e he hb heq => by
    have h1 := hall e he hb
    rw [heq, getD_both (mem_ready.1 hr).1] at h1
    cases h1
   have hjz : j ∉ zs := fun hz => Qe3 hcl (hwz j hz) (mem_ready.1 hr).1 hj
   have h2 := Fi (Q := Jn fun _ _ => False) hoj (hfree j oj hoj hji hjun hnot) (fun cs b => hsel i oi cs b hi) (fun cs b => hsel j oj cs b hoj) hy h1
   have hfree' : ∀ k ok, ops[k]? = some ok → k ≠ i → (L.setIfInBounds j true).getD k true = false → (∀ e ∈ ok.after, Region.binds md e = true → e.on ≠ i) → oi.apart ops ok = true := fun k ok hk hki hun hno => by
    refine hfree k ok hk hki ?_ hno
    by_cases hjk : j = k
    ·subst hjk; exact hjun
    ·rw [getD_set_ne true hjk] at hun; exact hun
   refine wpOp_mono (fun a' w' h3 => ⟨h3.2.1, ih (L.setIfInBounds j true) a' w' (hcl.set hj) hfree' (ready_mono hr (Ne.symm hji)) (h3.2.1 hjz) h3.1 ?_⟩) h2
   rw [Array.setIfInBounds_comm _ _ hji]
   exact h3.2.2
/-- An operation that looks at no memory, and after which nothing is asked. -/
theorem Qe6 {R : Act → World → Prop} {i : Nat} {oi : Oper} {v : Value} (hi : ops[i]? = some oi) (hiz : i ∈ zs)
  (hsel : ∀ (j : Nat) (o : Oper) cs b, ops[j]? = some o → o.op ≠ .select cs b) :
  ∀ (f : Nat) (L : Array Bool) (a : Act) (w : World),
   (∀ j oj, ops[j]? = some oj → j ≠ i → L.getD j true = false → (∀ e ∈ oj.after, Region.binds md e = true → e.on ≠ i) → oi.apart ops oj = true) →
   i ∈ Region.ready md ops L → Xl P ops (fun _ => True) oi v a →
   Jk P md ops C zs R f (L.setIfInBounds i true) (a.put oi.dst v) w → Jk P md ops C zs R (f + 1) L a w := by
 intro f
 induction f with
 | zero =>
  intro L a w _ hr hy H
  refine ⟨fun h => (by rw [h] at hr; cases hr), fun j hj => ?_⟩
  by_cases hji : j = i
  ·subst hji; exact hy.wpOp hi trivial ⟨fun h => absurd hiz h, H⟩
  ·have := ready_mono hj hji
   rw [H.1] at this
   cases this
 | succ f ih =>
  intro L a w hfree hr hy H
  refine ⟨fun h => (by rw [h] at hr; cases hr), fun j hj => ?_⟩
  by_cases hji : j = i
  ·subst hji; exact hy.wpOp hi trivial ⟨fun h => absurd hiz h, H⟩
  ·have h1 := H.2 j (ready_mono hj hji)
   obtain ⟨hjun, oj, hoj, hall⟩ := mem_ready.1 hj
   have hnot : ∀ e ∈ oj.after, Region.binds md e = true → e.on ≠ i := fun e he hb heq => by
    have h1 := hall e he hb
    rw [heq, getD_both (mem_ready.1 hr).1] at h1
    cases h1
   have h2 := Fi (Q := Jn fun _ _ => False) hoj (hfree j oj hoj hji hjun hnot) (fun cs b => hsel i oi cs b hi) (fun cs b => hsel j oj cs b hoj) hy h1
   have hfree' : ∀ k ok, ops[k]? = some ok → k ≠ i → (L.setIfInBounds j true).getD k true = false → (∀ e ∈ ok.after, Region.binds md e = true → e.on ≠ i) → oi.apart ops ok = true := fun k ok hk hki hun hno => by
    refine hfree k ok hk hki ?_ hno
    by_cases hjk : j = k
    ·subst hjk; exact hjun
    ·rw [getD_set_ne true hjk] at hun; exact hun
   refine wpOp_mono (fun a' w' h3 => ⟨h3.2.1, ih (L.setIfInBounds j true) a' w' hfree' (ready_mono hr (Ne.symm hji)) h3.1 ?_⟩) h2
   rw [Array.setIfInBounds_comm _ _ hji]
   exact h3.2.2
def Rs (md : Region.Mode) (ops : Array Oper) (L : Array Bool) : Bool := (List.range ops.size).all fun j => !(L.getD j false) || (match ops[j]? with | some o => o.after.all fun e => !Region.binds md e || L.getD e.on false | none => true)
theorem Ic {L : Array Bool} (h : Rs md ops L = true) : Ua md ops L := fun j oj hj hl e he hb => by
 have h1 := List.all_eq_true.1 h j (List.mem_range.2 (Array.getElem?_eq_some_iff.1 hj).1)
 rw [hl, hj] at h1
 simp only [Bool.not_true, Bool.false_or] at h1
 have h2 := Array.all_eq_true_iff_forall_mem.1 h1 e he
 rw [hb, Bool.not_true, Bool.false_or] at h2
 exact h2
def Nf (md : Region.Mode) (ops : Array Oper) (zs : List Nat) : List Nat → Array Bool → Bool
 | [], _ => true
 | k :: ks, L => (Region.ready md ops L).contains k && Region.free md ops L k && (zs.all fun z => Vj md ops ops.size z k) && Nf md ops zs ks (L.setIfInBounds k true)
theorem Fu {W : World} (hW : C W) {A : Act} {g : Nat} (hs : Region.noSelect ops = true) : ∀ (ks : List Nat) (l : List Oper) (L : Array Bool) (a : Act), l.map some = ks.map (fun k => ops[k]?) → Ye l = true → Xv a l = true → Ua md ops L →
  Nf md ops zs ks L = true → (∀ u, C u → wpQuiet P ops (fun w' => w' = u) (fun a' => a' = A) l a) → Jk P md ops C zs R g (Vh ks L) A W → Jk P md ops C zs R (l.length + g) L a W
 | [], [], L, a, _, _, _, _, _, h, H => by
  have e : a = A := h W hW
  subst e
  rw [List.length_nil, Nat.zero_add]
  exact H
 | k :: ks, o :: l, L, a, hl, hd, hz, hcl, hB, h, H => by
  simp only [List.map_cons, List.cons.injEq] at hl
  have h0 : ops[k]? = some o := hl.1.symm
  simp only [Nf, Bool.and_eq_true] at hB
  obtain ⟨⟨⟨hr, hf⟩, hwz⟩, hB'⟩ := hB
  have hzo := hz
  simp only [Xv, List.all_cons, Bool.and_eq_true] at hzo
  obtain ⟨v, hy, hn⟩ := Bq hW hd (fun d he => by have := hzo.1; rw [he] at this; simpa using this) h
  have hd' : Ye l = true := by simp only [Ye, Bool.and_eq_true] at hd; exact hd.2
  have hsz : (a.put o.dst v).tmps.size = a.tmps.size := by cases o.dst <;> simp [Act.put]
  rw [show (o :: l).length + g = (l.length + g) + 1 by simp only [List.length_cons]; omega]
  exact Qe5 h0 (fun j hj => List.all_eq_true.1 hwz j hj) (Region.noSelect_spec hs) _ L a W hcl (Region.free_spec h0 hf) (by simpa using hr) hW hy
   (Fu hW hs ks l _ _ hl.2 hd' (by unfold Xv; rw [hsz]; exact hzo.2) (hcl.set (by simpa using hr)) hB' hn H)
 | [], _ :: _, _, _, hl, _, _, _, _, _, _ => by simp at hl
 | _ :: _, [], _, _, hl, _, _, _, _, _, _ => by simp at hl
theorem Qp {g f : Nat} {L : Array Bool} {a : Act} {w : World} (ks : List Nat) (l : List Oper) (hl : Kg ops ks l) (hB : (Region.noSelect ops && Ye l && Rs md ops L && Nf md ops zs ks L && decide (f = l.length + g)) = true) (hz : Xv a l = true) (hw : C w)
  (h : ∃ A, (∀ u, C u → wpQuiet P ops (fun w' => w' = u) (fun a' => a' = A) l a) ∧ Jk P md ops C zs R g (Vh ks L) A w) : Jk P md ops C zs R f L a w := by
 obtain ⟨A, h1, h2⟩ := h
 simp only [Bool.and_eq_true, decide_eq_true_eq] at hB
 obtain ⟨⟨⟨⟨hs, hd⟩, hc⟩, hk⟩, rfl⟩ := hB
 exact Fu hw hs ks l L a (Mx hl) hd hz (Ic hc) hk h1 h2
def Mz (md : Region.Mode) (ops : Array Oper) (zs : List Nat) : List Nat → Array Bool → Bool
 | [], _ => true
 | k :: ks, L => (Region.ready md ops L).contains k && Region.free md ops L k && zs.contains k && Mz md ops zs ks (L.setIfInBounds k true)
theorem Fr {W : World} {A : Act} {g : Nat} (hs : Region.noSelect ops = true) : ∀ (ks : List Nat) (l : List Oper) (L : Array Bool) (a : Act), l.map some = ks.map (fun k => ops[k]?) → Ye l = true → Xv a l = true →
  Mz md ops zs ks L = true → (∀ u, True → wpQuiet P ops (fun w' => w' = u) (fun a' => a' = A) l a) → Jk P md ops C zs R g (Vh ks L) A W → Jk P md ops C zs R (l.length + g) L a W
 | [], [], L, a, _, _, _, _, h, H => by
  have e : a = A := h W trivial
  subst e
  rw [List.length_nil, Nat.zero_add]
  exact H
 | k :: ks, o :: l, L, a, hl, hd, hz, hB, h, H => by
  simp only [List.map_cons, List.cons.injEq] at hl
  have h0 : ops[k]? = some o := hl.1.symm
  simp only [Mz, Bool.and_eq_true] at hB
  obtain ⟨⟨⟨hr, hf⟩, hkz⟩, hB'⟩ := hB
  have hzo := hz
  simp only [Xv, List.all_cons, Bool.and_eq_true] at hzo
  obtain ⟨v, hy, hn⟩ := Bq (C := fun _ => True) (W := W) trivial hd (fun d he => by have := hzo.1; rw [he] at this; simpa using this) h
  have hd' : Ye l = true := by simp only [Ye, Bool.and_eq_true] at hd; exact hd.2
  have hsz : (a.put o.dst v).tmps.size = a.tmps.size := by cases o.dst <;> simp [Act.put]
  rw [show (o :: l).length + g = (l.length + g) + 1 by simp only [List.length_cons]; omega]
  exact Qe6 h0 (by simpa using hkz) (Region.noSelect_spec hs) _ L a W (Region.free_spec h0 hf) (by simpa using hr) hy
   (Fr hs ks l _ _ hl.2 hd' (by unfold Xv; rw [hsz]; exact hzo.2) hB' hn H)
 | [], _ :: _, _, _, hl, _, _, _, _, _ => by simp at hl
 | _ :: _, [], _, _, hl, _, _, _, _, _ => by simp at hl
theorem Jg {g f : Nat} {L : Array Bool} {a : Act} {w : World} (ks : List Nat) (l : List Oper) (hl : Kg ops ks l) (hB : (Region.noSelect ops && Ye l && Mz md ops zs ks L && decide (f = l.length + g)) = true) (hz : Xv a l = true)
  (h : ∃ A, (∀ u, True → wpQuiet P ops (fun w' => w' = u) (fun a' => a' = A) l a) ∧ Jk P md ops C zs R g (Vh ks L) A w) : Jk P md ops C zs R f L a w := by
 obtain ⟨A, h1, h2⟩ := h
 simp only [Bool.and_eq_true, decide_eq_true_eq] at hB
 obtain ⟨⟨⟨hs, hd⟩, hk⟩, rfl⟩ := hB
 exact Fr hs ks l L a (Mx hl) hd hz hk h1 h2
theorem Qj {f : Nat} {L : Array Bool} {a : Act} {w : World} {o : Oper} (k : Nat) (ho : ops[k]? = some o) (hB : decide (Region.ready md ops L = [k]) = true)
  (h : wpList P ops (Jn fun a' w' => C w' ∧ Jk P md ops C zs R f (L.setIfInBounds k true) a' w') [o] a w) : Jk P md ops C zs R (f + 1) L a w := by
 have hB := of_decide_eq_true hB
 refine ⟨fun h => (by rw [hB] at h; cases h), fun j hj => ?_⟩
 rw [hB, List.mem_singleton] at hj
 subst hj
 refine wpOp_mono (fun a' w' h' => ⟨fun _ => h'.1, h'.2⟩) (W7 (Us ho h))
theorem Zn {f : Nat} {L : Array Bool} {a : Act} {w : World} {o1 o2 : Oper} (k1 k2 : Nat) (h1 : ops[k1]? = some o1) (h2 : ops[k2]? = some o2) (hB : decide (Region.ready md ops L = [k1, k2]) = true)
  (ha : wpList P ops (Jn fun a' w' => C w' ∧ Jk P md ops C zs R f (L.setIfInBounds k1 true) a' w') [o1] a w)
  (hb : wpList P ops (Jn fun a' w' => C w' ∧ Jk P md ops C zs R f (L.setIfInBounds k2 true) a' w') [o2] a w) : Jk P md ops C zs R (f + 1) L a w := by
 have hB := of_decide_eq_true hB
 refine ⟨fun h => (by rw [hB] at h; cases h), fun j hj => ?_⟩
 rw [hB] at hj
 rcases List.mem_cons.1 hj with rfl | hj
 ·exact wpOp_mono (fun a' w' h' => ⟨fun _ => h'.1, h'.2⟩) (W7 (Us h1 ha))
 ·rw [List.mem_singleton] at hj
  subst hj
  exact wpOp_mono (fun a' w' h' => ⟨fun _ => h'.1, h'.2⟩) (W7 (Us h2 hb))
/-- Three that may come up next. -/
theorem Fj {f : Nat} {L : Array Bool} {a : Act} {w : World} {o1 o2 o3 : Oper} (k1 k2 k3 : Nat) (h1 : ops[k1]? = some o1) (h2 : ops[k2]? = some o2) (h3 : ops[k3]? = some o3) (hB : decide (Region.ready md ops L = [k1, k2, k3]) = true)
  (ha : wpList P ops (Jn fun a' w' => C w' ∧ Jk P md ops C zs R f (L.setIfInBounds k1 true) a' w') [o1] a w)
  (hb : wpList P ops (Jn fun a' w' => C w' ∧ Jk P md ops C zs R f (L.setIfInBounds k2 true) a' w') [o2] a w)
  (hc : wpList P ops (Jn fun a' w' => C w' ∧ Jk P md ops C zs R f (L.setIfInBounds k3 true) a' w') [o3] a w) : Jk P md ops C zs R (f + 1) L a w := by
 have hB := of_decide_eq_true hB
 refine ⟨fun h => (by rw [hB] at h; cases h), fun j hj => ?_⟩
 rw [hB] at hj
 rcases List.mem_cons.1 hj with rfl | hj
 ·exact wpOp_mono (fun a' w' h' => ⟨fun _ => h'.1, h'.2⟩) (W7 (Us h1 ha))
 ·rcases List.mem_cons.1 hj with rfl | hj
  ·exact wpOp_mono (fun a' w' h' => ⟨fun _ => h'.1, h'.2⟩) (W7 (Us h2 hb))
  ·rw [List.mem_singleton] at hj
   subst hj
   exact wpOp_mono (fun a' w' h' => ⟨fun _ => h'.1, h'.2⟩) (W7 (Us h3 hc))
/-- Behind one of zs nothing is asked of the world. -/
theorem Qn {f : Nat} {L : Array Bool} {a : Act} {w : World} {o : Oper} (k : Nat) (ho : ops[k]? = some o) (hB : (zs.contains k && decide (Region.ready md ops L = [k])) = true)
  (h : wpList P ops (Jn fun a' w' => Jk P md ops C zs R f (L.setIfInBounds k true) a' w') [o] a w) : Jk P md ops C zs R (f + 1) L a w := by
 simp only [Bool.and_eq_true, decide_eq_true_eq] at hB
 refine ⟨fun h => (by rw [hB.2] at h; cases h), fun j hj => ?_⟩
 rw [hB.2, List.mem_singleton] at hj
 subst hj
 exact wpOp_mono (fun a' w' h' => ⟨fun h => absurd (by simpa using hB.1) h, h'⟩) (W7 (Us ho h))
theorem Qt {L : Array Bool} {a : Act} {w : World} (hB : decide (Region.ready md ops L = []) = true) (h : R a w) : Jk P md ops C zs R 0 L a w := ⟨of_decide_eq_true hB, h⟩
end
theorem Q5 {P : Program} {id : Nat} {Q : Exit → Act → World → Prop} {a : Act} {w : World} {l : List Oper} (n : Nat) (zs : List Nat) (C : World → Prop) (hm : P.follows .mixedOrders = true) (hn : n = l.length)
  (h : ∀ w', Qa w w' → Jk P .any l.toArray C zs (fun a w => Q .normal a w) n (Array.replicate n false) a w') : (Code.region id l.toArray true).wp P Q a w := by
 have H := h { w with drawn := w.drawn + 1 } ⟨rfl, rfl, rfl, Nat.le_refl _, fun _ _ => rfl⟩
 refine Code.wp_mono (Q := Jn fun a w => Q .normal a w) (fun e a' w' h' => by cases e <;> first | exact h' | exact False.elim h') (wp_region_any hm (Cy (C := C) (zs := zs) _ _ _ _ ?_))
 subst hn
 simpa using H
theorem Qm {S : Act → World → Prop} {a : Act} {w : World} (h : S a w) : Jn (fun a' w' => S a' w') .normal a w := h
end
section
open Go Go.RowKit Go.Shelf
attribute [local go_sem] Zi
/-- The global 'zero' holds 0/1. -/
def Zl (w : World) : Prop := w.cell? ⟨0, 0, none⟩ = some (.int .i64 0) ∧ w.cell? ⟨0, 1, none⟩ = some (.int .i64 1) ∧ 0 < w.heap.size
theorem Zl.ext {w w' : World} (h : Zl w) (e : Qa w w') : Zl w' := ⟨(e.cell (p := ⟨0, 0, none⟩) h.2.2).trans h.1, (e.cell (p := ⟨0, 1, none⟩) h.2.2).trans h.2.1, Nat.lt_of_lt_of_le h.2.2 e.size⟩
def Yk (f : Nat → Rt) (i : Nat) : List Value := [.int .i64 (f i).n, .int .i64 (f i).d]
theorem Ch (g : Nat → Nat) (k : Nat) : Qz (Za g) k ++ [.int .u64 (g k : Int)] = Qz (Za g) (k + 1) := by rw [X0]; rfl
theorem Qa9 {W : World} {b : Nat} {t : TypeId} {v0 v1 : Value} (h : Qb W b t #[v0, v1]) (u : Value) : Qb (W.setCell ⟨b, 0, none⟩ u) b t #[u, v1] := by unfold Qb at h ⊢; simp [World.setCell, Array.getElem?_modify, h]
theorem Qba {W : World} {b : Nat} {t : TypeId} {v0 v1 : Value} (h : Qb W b t #[v0, v1]) (u : Value) : Qb (W.setCell ⟨b, 1, none⟩ u) b t #[v0, u] := by unfold Qb at h ⊢; simp [World.setCell, Array.getElem?_modify, h]
def Uv (p q : Value) : Prop := ∀ x y, p.ownBlock = some x → q.ownBlock = some y → x ≠ y
theorem Ag {p q : Value} (h : Uv p q) : q.ownBlock = none ∨ q.ownBlock ≠ p.ownBlock := by
 cases e : q.ownBlock with
 | none => exact .inl rfl
 | some y => exact .inr (fun h' => h y y h'.symm e rfl)
theorem Ah {p q : Value} (h : Uv p q) : p.ownBlock = none ∨ p.ownBlock ≠ q.ownBlock := by
 cases e : p.ownBlock with
 | none => exact .inl rfl
 | some y => exact .inr (fun h' => h y y e h'.symm rfl)
theorem Ae {p q p' : Value} {w : World} {base size n : Nat} {e : TypeId} {xs : List Value} (h : Uv p q) (hloc : p'.ownBlock = p.ownBlock ∨ p'.ownBlock = some w.heap.size) (hq : w.ownsRow base e size q n xs) : Uv p' q := fun x y hx hy => by
 rcases hloc with e | e
 ·exact h x y (e.symm.trans hx) hy
 ·rw [e] at hx; cases hx
  have := (hq.lt y hy).2; omega
theorem Af {p q p' : Value} {w : World} {base size n : Nat} {e : TypeId} {xs : List Value} (h : Uv q p) (hloc : p'.ownBlock = p.ownBlock ∨ p'.ownBlock = some w.heap.size) (hq : w.ownsRow base e size q n xs) : Uv q p' := fun x y hx hy => by
 rcases hloc with e | e
 ·exact h x y hx (e.symm.trans hy)
 ·rw [e] at hy; cases hy
  have := (hq.lt x hx).2; omega
set_option maxHeartbeats 8000000 in
theorem Qcl (A : Option Addr) (n ca : Nat) (f : Nat → Rt) (w : World) (hA : Qo w A n 2 (Yk f)) (hn : n ≤ 1000) (hok : ∀ i, i < n → (f i).ok = true) (hZ : Zl w) :
  Calls Tryd.prog 72 #[.slice A n ca] w fun e w' => e = .returned (.tuple #[.agg #[.int .i64 (Xe f n).1.n, .int .i64 (Xe f n).1.d], .int .i64 (Xe f n).2]) ∧ Qa w w' := by
 obtain ⟨i0, hi, hz0, hz1, hz2⟩ := info_parts Oy
 obtain ⟨R, hR0⟩ := Qg (Xe f n)
 rw [← hR0]
 have HR := Lib.hid hR0
 clear hR0
 go_enter Tryd.func72, Tryd.ntmps72
 go_upto_region 1 with (fail)
 obtain ⟨v0, hv⟩ := Qg (w.alloc (.cells #[.int .i64 0, .int .i64 0] 61))
 rw [← hv]
 have E : Qa w v0 := by rw [hv]; exact (Qa.refl _).alloc _
 have B1 : Qb v0 w.heap.size 61 #[.int .i64 0, .int .i64 0] := by rw [hv]; exact Qb.new _ _ _
 clear hv
 have RA := hA.ext E
 have Z0 := hZ.ext E
 clear hA hZ
 obtain ⟨b1, hb1⟩ := Qg (w.heap.size)
 rw [← hb1] at B1 ⊢
 have hb1' := Nat.le_of_eq hb1.symm
 clear hb1
 go_upto_region 4 with (fail)
 obtain ⟨v, hv⟩ := Qg (v0.alloc (.cells #[.slice none 0 0, .slice none 0 0] 169))
 rw [← hv]
 have E0 : Qa v0 v := by rw [hv]; exact (Qa.refl _).alloc _
 have B2 : Qb v v0.heap.size 169 #[.slice none 0 0, .slice none 0 0] := by rw [hv]; exact Qb.new _ _ _
 clear hv
 obtain ⟨b2, hb2⟩ := Qg (v0.heap.size)
 rw [← hb2] at B2 ⊢
 have hb2' := Nat.le_of_eq hb2.symm
 have l12 : b1 < b2 := by have := B1.lt; omega
 clear hb2
 go_loopw [5, 10] (fun ng iv wr => ∃ k : Nat, k ≤ n ∧ iv = .int .i64 k ∧ ng = .bool (Vd f k) ∧ Hid (∀ i, i < k → (f i).n ≠ 0) ∧ ∃ vu vd, Qa v0 wr ∧ Qb wr b2 169 #[vu, vd] ∧ wr.ownsRow (b2 + 1) 164 1 vu k (Qz (Za fun i => (f i).n.natAbs) k) ∧ wr.ownsRow (b2 + 1) 164 1 vd k (Qz (Za fun i => (f i).d.natAbs) k) ∧ Uv vu vd) (fun _ iv _ => n - (intOf iv).toNat)
 case atStart => exact ⟨0, Nat.zero_le _, rfl, rfl, (fun i h => absurd h (by omega)), _, _, E0, B2, World.ownsRow_nil _ _ _ _, World.ownsRow_nil _ _ _ _, fun x y h _ => by cases h⟩
 case round =>
  obtain ⟨k, hk, rfl, rfl, hnz, vu, vd, hE, HB, hU, hD, hap⟩ := hrel
  obtain ⟨wo, rfl⟩ := Qg wr
  clear E0 B2
  by_cases hlt : k < n
  ·have hokk := hok k hlt
   obtain ⟨d1, d2, n1, n2, _⟩ := Zk hokk
   have Nn := fun w => Wm (f k).n (by omega) (by omega) w
   have Nd := fun w => Wm (f k).d (by omega) (by omega) w
   obtain ⟨b, off, rfl, hb, hc⟩ := (RA.ext hE) (by omega)
   have c0 : wo.cell? ⟨b, off + k * 2, none⟩ = some (.int .i64 (f k).n) := by simpa [Yk] using hc k 0 _ hlt rfl
   have c1 : wo.cell? ⟨b, off + k * 2 + 1, none⟩ = some (.int .i64 (f k).d) := by simpa [Yk] using hc k 1 _ hlt rfl
   clear hc
   go_upto_region 6 with (fail)
   obtain ⟨v3, hv⟩ := Qg (wo.alloc (.cells #[.int .i64 (f k).n, .int .i64 (f k).d] 61))
   rw [← hv]
   have E3 : Qa wo v3 := by rw [hv]; exact (Qa.refl _).alloc _
   have H3 : Qb v3 wo.heap.size 61 #[.int .i64 (f k).n, .int .i64 (f k).d] := by rw [hv]; exact Qb.new _ _ _
   clear hv c0 c1
   obtain ⟨b3, hb3⟩ := Qg (wo.heap.size)
   rw [← hb3] at H3 ⊢
   have hb32 : b3 ≠ b2 := by have := HB.lt; omega
   clear hb3
   replace hE := hE.trans E3
   replace HB := HB.ext E3
   replace hU := Zp hU E3
   replace hD := Zp hD E3
   clear E3
   obtain ⟨q0, q1⟩ := H3.c2
   have lq := H3.lt
   by_cases h0 : (f k).n = 0
   ·have hz : Hid (R = (⟨0, 1⟩, 0)) := by
     unfold Hid
     rw [HR.out]
     unfold Xe
     rw [(Fc (f := fun i => (f i).n.natAbs) n).2 ⟨k, hlt, by simp only [h0]; rfl⟩]
     exact M3 (Vi n fun i hi => by have := (Zk (hok i hi)).1; omega)
    have B1v := B1.ext hE
    obtain ⟨z0, z1, lz⟩ := Z0.ext hE
    have f0 := B1v.frozen 0
    have f1 := B1v.frozen 1
    obtain ⟨x0, x1⟩ := B1v.c2
    have lx := B1v.lt
    have EF := ((E.trans hE).setCell (p := ⟨b1, 0, none⟩) hb1' (.int .i64 0)).setCell (p := ⟨b1, 1, none⟩) hb1' (.int .i64 1)
    have H4 := Ql B1v (.int .i64 0) (.int .i64 1)
    obtain ⟨y0, y1⟩ := H4.c2
    rw [h0] at q0
    have hzo := hz.out
    clear h0 hz HR hU hD HB hap hnz Nn Nd
    subst hzo
    go_wp2
    refine bodyPost_ret (v := .tuple #[.agg #[.int .i64 0, .int .i64 1], .int .i64 0]) (by simp [results, Tryd.results72, go_sem, y0, y1]) rfl ⟨rfl, EF⟩
   ·have h0b : ((f k).n == 0) = false := beq_eq_false_iff_ne.2 h0
    go_upto_region 8 with (fail)
    clear q0 q1 lq
    refine Q5 9 [8] (fun x => Qa v0 x ∧ Qb x b2 169 #[vu, vd] ∧ Qb x b3 61 #[.int .i64 (f k).n, .int .i64 (f k).d]) Qr rfl ?_
    intro vz hvz
    replace hE := hE.trans hvz
    replace HB := HB.ext hvz
    replace H3 := H3.ext hvz
    replace hU := Zp hU hvz
    replace hD := Zp hD hvz
    clear hvz
    refine Qp (g := 5) [0, 1, 2, 3] [_, _, _, _] ⟨rfl, rfl, rfl, rfl, trivial⟩ (by kernel_rfl) (by kernel_rfl) ⟨hE, HB, H3⟩ ?_
    simp only [Qd, Qe, Qf]
    apply Exists.intro
    refine ⟨fun u hu => ?_, ?_⟩
    ·obtain ⟨k0, k1⟩ := hu.2.1.c2
     obtain ⟨q0, q1⟩ := hu.2.2.c2
     have lk := hu.2.1.lt
     have lq := hu.2.2.lt
     repeat (first | go_big_quiet_skip | (go_big_quiet_want; go_big_quiet_op; go_big_quiet_on))
     refine wpQuiet_nil ?_
     rfl
    refine Qj 4 rfl (by kernel_rfl) ?_
    simp only [Qd, Qe, Qf]
    go_wp2_with (go_at_call 97; (with_reducible refine Calls.mono (Nn _) ?_); rintro e va ⟨rfl, h4⟩)
    replace hE := hE.trans h4
    replace HB := HB.ext h4
    replace H3 := H3.ext h4
    replace hU := Zp hU h4
    replace hD := Zp hD h4
    clear h4
    refine Qi ⟨hE, HB, H3⟩ ?_
    refine Qj 5 rfl (by kernel_rfl) ?_
    simp only [Qd, Qe, Qf]
    go_wp2
    refine Qi ⟨hE.alloc _, HB.alloc _, H3.alloc _⟩ ?_
    refine Qj 6 rfl (by kernel_rfl) ?_
    simp only [Qd, Qe, Qf]
    go_wp2_with (at_builtin; refine wpList_append_own_at _ rfl _ _ 167 rfl (b2 + 1) 164 i0 (.int .u64 0) 1 8 Tryd.underlying167 hi hz0 hz1 hz2 rfl (by decide) _ _ _ rfl (hU.alloc _) ⟨va.heap.size, 0, none⟩ 1 1 [.int .u64 ((f k).n.natAbs : Int)] rfl rfl (U4 _ _ _) (by simp [Value.oneCell']) (by unfold maxLen; omega) (by omega) (by have := HB.lt; simp; omega) ?_; intro vu' vb hown hgrow hnl hloc; clear hnl)
    have hEb : Qa v0 vb := (hE.alloc _).grown hgrow (fun q hq => by have := (hU.lt q hq).1; omega)
    have HBb := Qb.kept (HB.alloc _) hgrow (HB.not_row (by decide) hU)
    have H3b := Qb.kept (H3.alloc _) hgrow (H3.not_row (by decide) hU)
    have hOb := World.ownsRow.kept (hD.alloc _) hgrow (Ag hap)
    rw [Ch (fun i => (f i).n.natAbs) k] at hown
    have hap2 := Ae hap hloc (hD.alloc _)
    clear hgrow hloc hap hU hD hE HB H3 
    obtain ⟨fa, ma, rfl⟩ := Zo hown
    refine Qi ⟨hEb, HBb, H3b⟩ ?_
    refine Qp (g := 1) [7] [_] ⟨rfl, trivial⟩ (by kernel_rfl) (by kernel_rfl) ⟨hEb, HBb, H3b⟩ ?_
    simp only [Qd, Qe, Qf]
    apply Exists.intro
    refine ⟨fun u hu => ?_, ?_⟩
    ·have lk := hu.2.1.lt
     repeat (first | go_big_quiet_skip | (go_big_quiet_want; go_big_quiet_op; go_big_quiet_on))
     refine wpQuiet_nil ?_
     rfl
    refine Qn 8 rfl (by kernel_rfl) ?_
    simp only [Qd, Qe, Qf]
    have f0 := HBb.frozen 0
    obtain ⟨z0, z1⟩ := HBb.c2
    have lz := HBb.lt
    have HB := Qa9 HBb (.slice fa (k + 1) ma)
    have H3 := Qh H3b hb32 0 (.slice fa (k + 1) ma)
    have hU := ownsRow_setCell_below hown (a := ⟨b2, 0, none⟩) (Nat.lt_succ_self b2) (.slice fa (k + 1) ma)
    have hD := ownsRow_setCell_below hOb (a := ⟨b2, 0, none⟩) (Nat.lt_succ_self b2) (.slice fa (k + 1) ma)
    have hE := hEb.setCell (p := ⟨b2, 0, none⟩) hb2' (.slice fa (k + 1) ma)
    have hap := hap2
    go_wp2
    refine Qm ?_
    refine Qt (by kernel_rfl) ?_
    generalize World.setCell vb _ _ = vc at *
    generalize va.heap.size = szv0 at *
    clear f0 z0 z1 lz HBb H3b hown hOb hEb hap2 va
    go_upto_region 9 with (fail)
    refine Q5 9 [8] (fun x => Qa v0 x ∧ Qb x b2 169 #[.slice fa (k + 1) ma, vd] ∧ Qb x b3 61 #[.int .i64 (f k).n, .int .i64 (f k).d]) Qr rfl ?_
    intro vz hvz
    replace hE := hE.trans hvz
    replace HB := HB.ext hvz
    replace H3 := H3.ext hvz
    replace hU := Zp hU hvz
    replace hD := Zp hD hvz
    clear hvz
    refine Qp (g := 5) [0, 1, 2, 3] [_, _, _, _] ⟨rfl, rfl, rfl, rfl, trivial⟩ (by kernel_rfl) (by kernel_rfl) ⟨hE, HB, H3⟩ ?_
    simp only [Qd, Qe, Qf]
    apply Exists.intro
    refine ⟨fun u hu => ?_, ?_⟩
    ·obtain ⟨k0, k1⟩ := hu.2.1.c2
     obtain ⟨q0, q1⟩ := hu.2.2.c2
     have lk := hu.2.1.lt
     have lq := hu.2.2.lt
     repeat (first | go_big_quiet_skip | (go_big_quiet_want; go_big_quiet_op; go_big_quiet_on))
     refine wpQuiet_nil ?_
     rfl
    refine Qj 4 rfl (by kernel_rfl) ?_
    simp only [Qd, Qe, Qf]
    go_wp2_with (go_at_call 97; (with_reducible refine Calls.mono (Nd _) ?_); rintro e va ⟨rfl, h4⟩)
    replace hE := hE.trans h4
    replace HB := HB.ext h4
    replace H3 := H3.ext h4
    replace hU := Zp hU h4
    replace hD := Zp hD h4
    clear h4
    refine Qi ⟨hE, HB, H3⟩ ?_
    refine Qj 5 rfl (by kernel_rfl) ?_
    simp only [Qd, Qe, Qf]
    go_wp2
    refine Qi ⟨hE.alloc _, HB.alloc _, H3.alloc _⟩ ?_
    refine Qj 6 rfl (by kernel_rfl) ?_
    simp only [Qd, Qe, Qf]
    go_wp2_with (at_builtin; refine wpList_append_own_at _ rfl _ _ 167 rfl (b2 + 1) 164 i0 (.int .u64 0) 1 8 Tryd.underlying167 hi hz0 hz1 hz2 rfl (by decide) _ _ _ rfl (hD.alloc _) ⟨va.heap.size, 0, none⟩ 1 1 [.int .u64 ((f k).d.natAbs : Int)] rfl rfl (U4 _ _ _) (by simp [Value.oneCell']) (by unfold maxLen; omega) (by omega) (by have := HB.lt; simp; omega) ?_; intro vd' vb hown hgrow hnl hloc; clear hnl)
    have hEb : Qa v0 vb := (hE.alloc _).grown hgrow (fun q hq => by have := (hD.lt q hq).1; omega)
    have HBb := Qb.kept (HB.alloc _) hgrow (HB.not_row (by decide) hD)
    have H3b := Qb.kept (H3.alloc _) hgrow (H3.not_row (by decide) hD)
    have hOb := World.ownsRow.kept (hU.alloc _) hgrow (Ah hap)
    rw [Ch (fun i => (f i).d.natAbs) k] at hown
    have hap2 := Af hap hloc (hU.alloc _)
    clear hgrow hloc hap hU hD hE HB H3 
    obtain ⟨fb, mb, rfl⟩ := Zo hown
    refine Qi ⟨hEb, HBb, H3b⟩ ?_
    refine Qp (g := 1) [7] [_] ⟨rfl, trivial⟩ (by kernel_rfl) (by kernel_rfl) ⟨hEb, HBb, H3b⟩ ?_
    simp only [Qd, Qe, Qf]
    apply Exists.intro
    refine ⟨fun u hu => ?_, ?_⟩
    ·have lk := hu.2.1.lt
     repeat (first | go_big_quiet_skip | (go_big_quiet_want; go_big_quiet_op; go_big_quiet_on))
     refine wpQuiet_nil ?_
     rfl
    refine Qn 8 rfl (by kernel_rfl) ?_
    simp only [Qd, Qe, Qf]
    have f0 := HBb.frozen 1
    obtain ⟨z0, z1⟩ := HBb.c2
    have lz := HBb.lt
    have HB := Qba HBb (.slice fb (k + 1) mb)
    have H3 := Qh H3b hb32 1 (.slice fb (k + 1) mb)
    have hD := ownsRow_setCell_below hown (a := ⟨b2, 1, none⟩) (Nat.lt_succ_self b2) (.slice fb (k + 1) mb)
    have hU := ownsRow_setCell_below hOb (a := ⟨b2, 1, none⟩) (Nat.lt_succ_self b2) (.slice fb (k + 1) mb)
    have hE := hEb.setCell (p := ⟨b2, 1, none⟩) hb2' (.slice fb (k + 1) mb)
    have hap := hap2
    go_wp2
    refine Qm ?_
    refine Qt (by kernel_rfl) ?_
    generalize World.setCell vb _ _ = vc at *
    generalize va.heap.size = szv1 at *
    clear f0 z0 z1 lz HBb H3b hown hOb hEb hap2 va
    obtain ⟨q0, q1⟩ := H3.c2
    have lq := H3.lt
    have hnz' : Hid (∀ i, i < k + 1 → (f i).n ≠ 0) := fun i hi => by
     by_cases e : i = k
     ·subst e; exact h0
     ·exact hnz.out i (by omega)
    clear hnz h0 h0b HR RA Z0 hok
    go_wp2
    exact ⟨⟨k + 1, by omega, by go_num, rfl, hnz', _, _, hE, HB, hU, hD, hap⟩, by simp [intOf]; omega⟩
  ·obtain rfl : k = n := by omega
   obtain ⟨F1, c1, rfl⟩ := Zo hU
   obtain ⟨F2, c2, rfl⟩ := Zo hD
   obtain ⟨F3, c3, hf1, ra, hc1, hc1', hn1, _⟩ := Wg (f := Za fun i => (f i).n.natAbs) (sz := 1) (fun _ => rfl) hU
   obtain ⟨F4, c4, hf2, rb, hc2, hc2', hn2, _⟩ := Wg (f := Za fun i => (f i).d.natAbs) (sz := 1) (fun _ => rfl) hD
   obtain ⟨rfl, rfl⟩ : F1 = F3 ∧ c1 = c3 := by simpa using hf1
   obtain ⟨rfl, rfl⟩ : F2 = F4 ∧ c2 = c4 := by simpa using hf2
   have NR := fun w h1 h2 => Gk F1 F2 k k c1 c2 (fun i => (f i).n.natAbs) (fun i => (f i).d.natAbs) (Vd f k) w h1 h2 hn1 hn2 hn hn (fun i hi => by have := hnz.out i hi; omega) (fun i hi => by have := Zk (hok i hi); omega) (fun i hi => by have := Zk (hok i hi); omega) (fun i hi => by have := Zk (hok i hi); omega)
   rw [show Jc (Vd f k) (upTo (fun i => (f i).n.natAbs) k) (upTo (fun i => (f i).d.natAbs) k) = R from HR.out.symm] at NR
   obtain ⟨k0, k1⟩ := HB.c2
   have lk := HB.lt
   clear hf1 hf2 hc1 hc2 hc1' hc2' hn1 hn2 hnz hok HR hU hD hap RA Z0
   obtain ⟨⟨Rn, Rd⟩, Re⟩ := R
   go_wp2_with (go_at_call 98; (with_reducible refine Calls.mono (NR _ ra rb) ?_); rintro e w2 ⟨rfl, h2⟩; have B3 := B1.ext (hE.trans h2); have f0 := B3.frozen 0; have f1 := B3.frozen 1; obtain ⟨x0, x1⟩ := B3.c2; have lx := B3.lt)
   have H4 := Ql B3 (.int .i64 Rn) (.int .i64 Rd)
   have EF := (((E.trans hE).trans h2).setCell (p := ⟨b1, 0, none⟩) hb1' (.int .i64 Rn)).setCell (p := ⟨b1, 1, none⟩) hb1' (.int .i64 Rd)
   obtain ⟨y0, y1⟩ := H4.c2
   go_wp2
   refine bodyPost_ret (v := .tuple #[.agg #[.int .i64 Rn, .int .i64 Rd], .int .i64 Re]) (by simp [results, Tryd.results72, go_sem, y0, y1]) rfl ⟨rfl, EF⟩
end
end Go.Proofs.YtneiofnlmblglaaDoor
