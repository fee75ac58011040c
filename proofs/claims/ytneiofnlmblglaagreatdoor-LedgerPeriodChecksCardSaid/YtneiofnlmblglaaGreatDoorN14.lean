/- Walks of the program's functions and plain facts, packed; proved: the lemmas below; no conditions but those that each states. -/
import Derived.Test.YtneiofnlmblglaaGreatDoorN13
import Derived.Test.YtneiofnlmblglaaGreatDoorN8
import Derived.Test.YtneiofnlmblglaaGreatDoorN11
import Derived.Test.YtneiofnlmblglaaGreatDoorN12
import Derived.Test.YtneiofnlmblglaaGreatDoorN10
import Derived.Test.YtneiofnlmblglaaGreatDoorN9
set_option maxRecDepth 100000
set_option maxHeartbeats 4000000
namespace Go.Proofs.YtneiofnlmblglaaGreatDoor
open Go Go.RowKit Go.Shelf
attribute [local go_sem] gv_yes
theorem flatL_congr {f f' : Nat → List Value} : ∀ k, (∀ i, i < k → f i = f' i) → flatL f k = flatL f' k
 | 0, _ => rfl
 | k + 1, h => by rw [flatL_succ, flatL_succ, flatL_congr k (fun i hi => h i (by omega)), h k (by omega)]
theorem own_apart {W : World} {b b' s1 s2 k1 k2 : Nat} {e1 e2 : TypeId} {v1 v2 : Value} {x1 x2 : List Value} (h1 : W.ownsRow b e1 s1 v1 k1 x1) (h2 : W.ownsRow b' e2 s2 v2 k2 x2) (hne : e1 ≠ e2) : v1.ownBlock = none ∨ v1.ownBlock ≠ v2.ownBlock := by
 cases hb : v1.ownBlock with
 | none => exact .inl rfl
 | some r =>
  refine .inr fun e => ?_
  obtain ⟨_, c1, g1⟩ := row_type h1 r hb
  obtain ⟨_, c2, g2⟩ := row_type h2 r e.symm
  rw [g1] at g2
  simp at g2
  exact hne g2.2
def LotsOwn (W : World) (b : Nat) (v : Value) (l : List Lt) : Prop := W.ownsRow b 68 2 v l.length (l.flatMap lcells)
/-- Deals in an own row, each with lots in an own row. -/
def DealsOwn (W : World) (b : Nat) (v : Value) (n : Nat) (g : Nat → Dl) : Prop := ∃ vs : Nat → Value, W.ownsRow b 70 7 v n (flatL (fun i => dealr (g i) (vs i)) n) ∧ ∀ i, i < n → LotsOwn W b (vs i) (g i).l
theorem deals_nil (W : World) (b : Nat) (g : Nat → Dl) : DealsOwn W b (.slice none 0 0) 0 g := ⟨fun _ => .slice none 0 0, World.ownsRow_nil _ _ _ _, fun i h => absurd h (by omega)⟩
theorem DealsOwn.ext {W W' : World} {b n : Nat} {v : Value} {g : Nat → Dl} (h : DealsOwn W b v n g) (x : Ext W W') : DealsOwn W' b v n g := by
 obtain ⟨vs, h1, h2⟩ := h
 exact ⟨vs, owns_ext h1 x, fun i hi => owns_ext (h2 i hi) x⟩
theorem DealsOwn.le {W : World} {b b' n : Nat} {v : Value} {g : Nat → Dl} (h : DealsOwn W b v n g) (hb : b' ≤ b) : DealsOwn W b' v n g := by
 obtain ⟨vs, h1, h2⟩ := h
 exact ⟨vs, h1.mono hb, fun i hi => World.ownsRow.mono (h2 i hi) hb⟩
theorem dealsAt_own {W : World} {b : Nat} {v : Value} {l : List Dl} (h : DealsOwn W b v l.length (fun i => l.getD i zDl)) : DealsAt W v l := by
 obtain ⟨vs, h1, h2⟩ := h
 obtain ⟨F, c, g1, g2, g3, g4, g5, _⟩ := flat_rows (f := fun i => dealr (l.getD i zDl) (vs i)) (fun _ => rfl) h1
 exact ⟨F, c, vs, g1, g2, g3, g4, g5, fun i hi => lotsAt_own (h2 i hi)⟩
theorem deals_push {W w1 : World} {b k : Nat} {v v' vl : Value} {g : Nat → Dl} {vs : Nat → Value} {ob : Obj} (hO : W.ownsRow b 70 7 v k (flatL (fun i => dealr (g i) (vs i)) k)) (hL : ∀ i, i < k → LotsOwn W b (vs i) (g i).l) (hl : LotsOwn W b vl (g k).l)
  (hown : w1.ownsRow b 70 7 v' (k + 1) (flatL (fun i => dealr (g i) (vs i)) k ++ dealr (g k) vl)) (hgrow : (W.alloc ob).grownBy w1 v.ownBlock) : DealsOwn w1 b v' (k + 1) g := by
 have keep : ∀ {u : Value} {l : List Lt}, LotsOwn W b u l → LotsOwn w1 b u l := fun h => (World.ownsRow.alloc h ob).kept hgrow (own_apart h hO (by decide))
 refine ⟨fun i => if i = k then vl else vs i, ?_, fun i hi => ?_⟩
 ·rw [flatL_succ, flatL_congr (f' := fun i => dealr (g i) (vs i)) k (fun i hi => by simp [show i ≠ k by omega])]
  simpa using hown
 ·by_cases e : i = k
  ·subst e; simpa using keep hl
  ·simpa [e] using keep (hL i (by omega))
theorem held_6Q {W : World} {b : Nat} {t : TypeId} {v0 v1 v2 v3 v4 v5 v6 : Value} (h : Held W b t #[v0, v1, v2, v3, v4, v5, v6]) (u : Value) : Held (W.setCell ⟨b, 6, none⟩ u) b t #[v0, v1, v2, v3, v4, v5, u] := by unfold Held at h ⊢; simp [World.setCell, Array.getElem?_modify, h]
theorem info_dealQ : (Tryz.prog.info? 70).map (fun i => (i.zero, i.size, i.bytes)) = some (some (.agg #[.int .i64 0, .int .i64 0, .bool false, .int .i64 0, .bool false, .string ⟨#[]⟩, .slice none 0 0]), 7, 80) := by kernel_rfl
theorem cells_dealQ (d : Dl) (F : Option Addr) (n m : Nat) : ∀ u ∈ dealr d (.slice F n m), u.oneCell' = true := by simp [dealr, Value.oneCell']
theorem chkPerR_any (A A' : Option Addr) (ca cb : Nat) (c : Cal) (p : Pd) (vo vd vc : Value) (w : World) (hC : CalAt w A ca A' cb c) (hP : PerAt w p vo vd vc) :
  Calls Tryz.prog 12 #[.agg #[.slice A c.nk ca, .slice A' c.ny cb], .agg #[.string p.h, .int .i64 p.a.y, .int .i64 p.a.m, .bool p.a.s, .int .i64 p.a.d, .int .i64 p.b.y, .int .i64 p.b.m, .bool p.b.s, .int .i64 p.b.d, vo, vd, vc]] w fun e w' => e = .returned (.int .i64 (c.perE p)) ∧ Ext w w' := by
 obtain ⟨t1, s1, e1, _⟩ := id hP.o
 subst e1
 obtain ⟨t2, s2, _, e2, _⟩ := id hP.d
 subst e2
 obtain ⟨t3, s3, e3, _⟩ := id hP.c
 subst e3
 have NV := fun v (h : CalAt v A ca A' cb c) => validR_any A A' ca cb c v h
 obtain ⟨R, hR0⟩ := zgE (c.perE p)
 rw [← hR0]
 unfold Cal.perE at hR0
 have HR := Lib.hid hR0
 clear hR0
 go_enter Tryz.func12, Tryz.ntmps12
 go_upto_region 1 with (fail)
 obtain ⟨v, hv⟩ := zgE ((w.alloc (.cells #[.slice A c.nk ca, .slice A' c.ny cb] 25)).alloc (.cells #[.string p.h, .int .i64 p.a.y, .int .i64 p.a.m, .bool p.a.s, .int .i64 p.a.d, .int .i64 p.b.y, .int .i64 p.b.m, .bool p.b.s, .int .i64 p.b.d, .slice t1 p.o.length s1, .slice t2 p.d.length s2, .slice t3 p.c.length s3] 31))
 rw [← hv]
 have E : Ext w v := by rw [hv]; exact ((Ext.refl _).alloc _).alloc _
 have B1 : Held v w.heap.size 25 #[.slice A c.nk ca, .slice A' c.ny cb] := by rw [hv]; exact (Held.new _ _ _).alloc _
 have B2 : Held v (w.heap.size + 1) 31 #[.string p.h, .int .i64 p.a.y, .int .i64 p.a.m, .bool p.a.s, .int .i64 p.a.d, .int .i64 p.b.y, .int .i64 p.b.m, .bool p.b.s, .int .i64 p.b.d, .slice t1 p.o.length s1, .slice t2 p.d.length s2, .slice t3 p.c.length s3] := by rw [hv]; exact Held.at _ _ _ _ (by simp)
 clear hv
 obtain ⟨b2, hb2⟩ := zgE (w.heap.size + 1)
 rw [← hb2] at B2 ⊢
 obtain ⟨b1, hb1⟩ := zgE (w.heap.size)
 rw [← hb1] at B1 ⊢
 have hbr : w.heap.size ≤ b2 := by omega
 have hbr1 : w.heap.size ≤ b1 := by omega
 have hn21 : b2 ≠ b1 := by omega
 clear hb1 hb2
 have C := hC.ext E
 have P := hP.ext E
 clear hP hC
 obtain ⟨j0, j1⟩ := B1.c2
 have jl := B1.lt
 obtain ⟨k0, k1, k2, k3, k4, k5, k6, k7, k8, k9, k10, k11⟩ := B2.c12
 have kl := B2.lt
 cases hv : c.valid
 ·have hr := HR.out
  rw [hv] at hr
  simp only [Bool.false_eq_true, if_false] at hr
  subst hr
  simp only [hv] at NV
  clear HR hv
  go_wp2_with (go_at_call 31; (with_reducible refine Calls.mono (NV _ C) ?_); rintro e w1 ⟨rfl, hx⟩; replace E := E.trans hx; replace C := C.ext hx; replace P := P.ext hx; replace B1 := B1.ext hx; replace B2 := B2.ext hx; clear hx; clear j0 j1 jl k0 k1 k2 k3 k4 k5 k6 k7 k8 k9 k10 k11 kl; obtain ⟨j0, j1⟩ := B1.c2; have jl := B1.lt; obtain ⟨k0, k1, k2, k3, k4, k5, k6, k7, k8, k9, k10, k11⟩ := B2.c12; have kl := B2.lt)
  go_ret
  exact ⟨rfl, E⟩
 have NP := fun v (h : CalAt v A ca A' cb c) (h2 : PerAt v p (.slice t1 p.o.length s1) (.slice t2 p.d.length s2) (.slice t3 p.c.length s3)) => perValidR_any A A' ca cb c p _ _ _ v h hv h2
 rw [hv] at NV HR
 simp only [if_true] at HR
 clear hv
 cases hp : c.perOk p
 ·have hr := HR.out
  rw [hp] at hr
  simp only [Bool.false_eq_true, if_false] at hr
  subst hr
  simp only [hp] at NP
  clear HR hp
  go_wp2_with (first | (go_at_call 31; (with_reducible refine Calls.mono (NV _ C) ?_); rintro e w1 ⟨rfl, hx⟩; replace E := E.trans hx; replace C := C.ext hx; replace P := P.ext hx; replace B1 := B1.ext hx; replace B2 := B2.ext hx; clear hx; clear j0 j1 jl k0 k1 k2 k3 k4 k5 k6 k7 k8 k9 k10 k11 kl; obtain ⟨j0, j1⟩ := B1.c2; have jl := B1.lt; obtain ⟨k0, k1, k2, k3, k4, k5, k6, k7, k8, k9, k10, k11⟩ := B2.c12; have kl := B2.lt) | (go_at_call 32; (with_reducible refine Calls.mono (NP _ C P) ?_); rintro e w2 ⟨rfl, hx⟩; replace E := E.trans hx; replace C := C.ext hx; replace P := P.ext hx; replace B1 := B1.ext hx; replace B2 := B2.ext hx; clear hx; clear j0 j1 jl k0 k1 k2 k3 k4 k5 k6 k7 k8 k9 k10 k11 kl; obtain ⟨j0, j1⟩ := B1.c2; have jl := B1.lt; obtain ⟨k0, k1, k2, k3, k4, k5, k6, k7, k8, k9, k10, k11⟩ := B2.c12; have kl := B2.lt))
  go_ret
  exact ⟨rfl, E⟩
 ·have hr := HR.out
  rw [hp] at hr
  simp only [if_true] at hr
  subst hr
  simp only [hp] at NP
  clear HR hp
  go_wp2_with (first | (go_at_call 31; (with_reducible refine Calls.mono (NV _ C) ?_); rintro e w1 ⟨rfl, hx⟩; replace E := E.trans hx; replace C := C.ext hx; replace P := P.ext hx; replace B1 := B1.ext hx; replace B2 := B2.ext hx; clear hx; clear j0 j1 jl k0 k1 k2 k3 k4 k5 k6 k7 k8 k9 k10 k11 kl; obtain ⟨j0, j1⟩ := B1.c2; have jl := B1.lt; obtain ⟨k0, k1, k2, k3, k4, k5, k6, k7, k8, k9, k10, k11⟩ := B2.c12; have kl := B2.lt) | (go_at_call 32; (with_reducible refine Calls.mono (NP _ C P) ?_); rintro e w2 ⟨rfl, hx⟩; replace E := E.trans hx; replace C := C.ext hx; replace P := P.ext hx; replace B1 := B1.ext hx; replace B2 := B2.ext hx; clear hx; clear j0 j1 jl k0 k1 k2 k3 k4 k5 k6 k7 k8 k9 k10 k11 kl; obtain ⟨j0, j1⟩ := B1.c2; have jl := B1.lt; obtain ⟨k0, k1, k2, k3, k4, k5, k6, k7, k8, k9, k10, k11⟩ := B2.c12; have kl := B2.lt))
  go_ret
  exact ⟨rfl, E⟩
theorem closeR_any (A A' : Option Addr) (ca cb : Nat) (c : Cal) (p : Pd) (vo vd vc : Value) (w : World) (hC : CalAt w A ca A' cb c) (hP : PerAt w p vo vd vc) (hsz : p.o.length * 24 ≤ 140737488351232) :
  Calls Tryz.prog 10 #[.agg #[.slice A c.nk ca, .slice A' c.ny cb], .agg #[.string p.h, .int .i64 p.a.y, .int .i64 p.a.m, .bool p.a.s, .int .i64 p.a.d, .int .i64 p.b.y, .int .i64 p.b.m, .bool p.b.s, .int .i64 p.b.d, vo, vd, vc]] w fun e w' => ∃ v', e = .returned (.tuple #[v', .int .i64 (c.closeV p).2]) ∧ Ext w w' ∧ LotsAt w' v' (c.closeV p).1 := by
 obtain ⟨t1, s1, e1, _⟩ := id hP.o
 subst e1
 obtain ⟨t2, s2, _, e2, _⟩ := id hP.d
 subst e2
 obtain ⟨t3, s3, e3, _⟩ := id hP.c
 subst e3
 have NK := fun v (h : CalAt v A ca A' cb c) (h2 : PerAt v p (.slice t1 p.o.length s1) (.slice t2 p.d.length s2) (.slice t3 p.c.length s3)) => chkPerR_any A A' ca cb c p _ _ _ v h h2
 have NB := fun v (h : PerAt v p (.slice t1 p.o.length s1) (.slice t2 p.d.length s2) (.slice t3 p.c.length s3)) => balR_any p _ _ _ v h hsz
 obtain ⟨R, hR0⟩ := zgE (c.closeV p)
 rw [← hR0]
 unfold Cal.closeV at hR0
 have HR := Lib.hid hR0
 clear hR0
 generalize c.perE p = pe at *
 go_enter Tryz.func10, Tryz.ntmps10
 go_upto_region 1 with (fail)
 obtain ⟨v, hv⟩ := zgE ((w.alloc (.cells #[.slice A c.nk ca, .slice A' c.ny cb] 25)).alloc (.cells #[.string p.h, .int .i64 p.a.y, .int .i64 p.a.m, .bool p.a.s, .int .i64 p.a.d, .int .i64 p.b.y, .int .i64 p.b.m, .bool p.b.s, .int .i64 p.b.d, .slice t1 p.o.length s1, .slice t2 p.d.length s2, .slice t3 p.c.length s3] 31))
 rw [← hv]
 have E : Ext w v := by rw [hv]; exact ((Ext.refl _).alloc _).alloc _
 have B1 : Held v w.heap.size 25 #[.slice A c.nk ca, .slice A' c.ny cb] := by rw [hv]; exact (Held.new _ _ _).alloc _
 have B2 : Held v (w.heap.size + 1) 31 #[.string p.h, .int .i64 p.a.y, .int .i64 p.a.m, .bool p.a.s, .int .i64 p.a.d, .int .i64 p.b.y, .int .i64 p.b.m, .bool p.b.s, .int .i64 p.b.d, .slice t1 p.o.length s1, .slice t2 p.d.length s2, .slice t3 p.c.length s3] := by rw [hv]; exact Held.at _ _ _ _ (by simp)
 clear hv
 obtain ⟨b2, hb2⟩ := zgE (w.heap.size + 1)
 rw [← hb2] at B2 ⊢
 obtain ⟨b1, hb1⟩ := zgE (w.heap.size)
 rw [← hb1] at B1 ⊢
 have hbr : w.heap.size ≤ b2 := by omega
 have hbr1 : w.heap.size ≤ b1 := by omega
 have hn21 : b2 ≠ b1 := by omega
 clear hb1 hb2
 have C := hC.ext E
 have P := hP.ext E
 clear hP hC
 obtain ⟨j0, j1⟩ := B1.c2
 have jl := B1.lt
 obtain ⟨k0, k1, k2, k3, k4, k5, k6, k7, k8, k9, k10, k11⟩ := B2.c12
 have kl := B2.lt
 by_cases e0 : pe = 0
 rotate_left
 ·have g0 : (pe == 0) = false := beq_eq_false_iff_ne.2 e0
  have g0n : (pe != 0) = true := by rw [bne, g0]; rfl
  have hr : Hid (R = ([], pe)) := HR.out.trans (if_pos e0)
  clear HR e0
  go_wp2_with (go_at_call 12; (with_reducible refine Calls.mono (NK _ C P) ?_); rintro e w1 ⟨rfl, hx⟩; replace E := E.trans hx; replace C := C.ext hx; replace P := P.ext hx; replace B1 := B1.ext hx; replace B2 := B2.ext hx; clear hx; clear j0 j1 jl k0 k1 k2 k3 k4 k5 k6 k7 k8 k9 k10 k11 kl; obtain ⟨j0, j1⟩ := B1.c2; have jl := B1.lt; obtain ⟨k0, k1, k2, k3, k4, k5, k6, k7, k8, k9, k10, k11⟩ := B2.c12; have kl := B2.lt)
  go_ret2
  exact ⟨_, by rw [hr.out]; rfl, E, by rw [hr.out]; exact lotsAt_nil _⟩
 subst e0
 have hr : Hid (R = sumD p.o p.d) := HR.out.trans (if_neg (by simp))
 rw [← hr.out] at NB
 clear hr HR
 go_wp2_with (first | (go_at_call 12; (with_reducible refine Calls.mono (NK _ C P) ?_); rintro e w1 ⟨rfl, hx⟩; replace E := E.trans hx; replace C := C.ext hx; replace P := P.ext hx; replace B1 := B1.ext hx; replace B2 := B2.ext hx; clear hx; clear j0 j1 jl k0 k1 k2 k3 k4 k5 k6 k7 k8 k9 k10 k11 kl; obtain ⟨j0, j1⟩ := B1.c2; have jl := B1.lt; obtain ⟨k0, k1, k2, k3, k4, k5, k6, k7, k8, k9, k10, k11⟩ := B2.c12; have kl := B2.lt) | (go_at_call 30; (with_reducible refine Calls.mono (NB _ P) ?_); rintro e w5 ⟨v5, rfl, h5, L5⟩))
 go_ret2
 exact ⟨v5, rfl, E.trans h5, L5⟩
theorem copyDealsR_any (v : Value) (l : List Dl) (w : World) (hDD : DealsAt w v l) (hsz : ∀ i, i < l.length → (l.getD i zDl).l.length * 24 ≤ 140737488351232) (hsd : l.length * 80 ≤ 140737488351232) :
  Calls Tryz.prog 27 #[v] w fun e w' => ∃ v', e = .returned v' ∧ Ext w w' ∧ DealsOwn w' w.heap.size v' l.length (fun i => l.getD i zDl) := by
 obtain ⟨i0, hi, hz0, hz1, hz2⟩ := info_parts info_dealQ
 obtain ⟨D, cap, vs, rfl, hD, hcap, hmax, _, hat⟩ := hDD
 have hn : l.length ≤ 9223372036854775807 := Nat.le_trans hcap (Nat.le_trans hmax (by decide))
 generalize l.length = n at *
 obtain ⟨g, hg⟩ := zgE (fun i => l.getD i zDl)
 have hg' : ∀ i, l.getD i zDl = g i := fun i => by rw [hg]
 simp only [hg'] at hD hat hsz ⊢
 clear hg hg'
 clear hmax
 go_enter Tryz.func27, Tryz.ntmps27
 go_upto_region 3 with (fail)
 go_loopw [3, 4] (fun ov iv wr => ∃ k : Nat, k ≤ n ∧ iv = .int .i64 k ∧ DealsOwn wr w.heap.size ov k g ∧ Ext w wr) (fun _ i _ => n - (intOf i).toNat)
 case atStart => exact ⟨0, Nat.zero_le _, rfl, deals_nil _ _ _, Ext.refl _⟩
 case round =>
  obtain ⟨k, hk, rfl, ⟨vs', hO, hLo⟩, hE⟩ := hrel
  obtain ⟨wo, rfl⟩ := zgE wr
  obtain ⟨FO, mO, rfl⟩ := own_sl hO
  by_cases hlt : k < n
  ·obtain ⟨b, off, rfl, hb, hc⟩ := (hD.ext hE) (by omega)
   have c0 : wo.cell? ⟨b, off + k * 7, none⟩ = some (.int .i64 (g k).on.y) := by simpa [dealr] using hc k 0 _ hlt rfl
   have c1 : wo.cell? ⟨b, off + k * 7 + 1, none⟩ = some (.int .i64 (g k).on.m) := by simpa [dealr] using hc k 1 _ hlt rfl
   have c2 : wo.cell? ⟨b, off + k * 7 + 2, none⟩ = some (.bool (g k).on.s) := by simpa [dealr] using hc k 2 _ hlt rfl
   have c3 : wo.cell? ⟨b, off + k * 7 + 3, none⟩ = some (.int .i64 (g k).on.d) := by simpa [dealr] using hc k 3 _ hlt rfl
   have c4 : wo.cell? ⟨b, off + k * 7 + 4, none⟩ = some (.bool (g k).i) := by simpa [dealr] using hc k 4 _ hlt rfl
   have c5 : wo.cell? ⟨b, off + k * 7 + 5, none⟩ = some (.string (g k).w) := by simpa [dealr] using hc k 5 _ hlt rfl
   have c6 : wo.cell? ⟨b, off + k * 7 + 6, none⟩ = some (vs k) := by simpa [dealr] using hc k 6 _ hlt rfl
   have HL := (hat k hlt).ext hE
   obtain ⟨VL, hvl⟩ := zgE (vs k)
   rw [← hvl] at c6 HL
   clear hvl hc
   obtain ⟨TL, cl, hVL, _⟩ := id HL
   subst hVL
   have NC := fun w h => copyLotsO_any (.slice TL (g k).l.length cl) (g k).l w h (hsz k hlt)
   go_upto_region 6 with (fail)
   obtain ⟨wb, hv⟩ := zgE (wo.alloc (.cells #[.int .i64 (g k).on.y, .int .i64 (g k).on.m, .bool (g k).on.s, .int .i64 (g k).on.d, .bool (g k).i, .string (g k).w, .slice TL (g k).l.length cl] 70))
   rw [← hv]
   have hx : Ext wo wb := by rw [hv]; exact (Ext.refl _).alloc _
   have BD : Held wb wo.heap.size 70 #[.int .i64 (g k).on.y, .int .i64 (g k).on.m, .bool (g k).on.s, .int .i64 (g k).on.d, .bool (g k).i, .string (g k).w, .slice TL (g k).l.length cl] := by rw [hv]; exact Held.new _ _ _
   obtain ⟨bd, hbd⟩ := zgE (wo.heap.size)
   rw [← hbd] at BD ⊢
   have hlo : wo.heap.size ≤ bd := by omega
   clear hv c0 c1 c2 c3 c4 c5 c6 hb hbd
   obtain ⟨q0, q1, q2, q3, q4, q5, q6⟩ := held_c7Q BD
   have ql := BD.lt
   go_upto_region 7 with (go_at_call 20; (with_reducible refine Calls.mono (NC _ (HL.ext hx)) ?_); rintro e w2 ⟨vl, rfl, h2, hS⟩; obtain ⟨F0, m0, rfl⟩ := own_sl hS; clear q0 q1 q2 q3 q4 q5 q6 ql; obtain ⟨q0, q1, q2, q3, q4, q5, q6⟩ := held_c7Q (Held.ext BD h2); have ql := Held.lt (Held.ext BD h2); have f6 := Held.frozen (Held.ext BD h2) 6)
   have BD3 := held_6Q (Held.ext BD h2) (.slice F0 (g k).l.length m0)
   have hx3 : Ext wo (w2.setCell ⟨bd, 6, none⟩ (.slice F0 (g k).l.length m0)) := (hx.trans h2).setCell (p := ⟨bd, 6, none⟩) hlo _
   have hS3 : LotsOwn (w2.setCell ⟨bd, 6, none⟩ (.slice F0 (g k).l.length m0)) w.heap.size (.slice F0 (g k).l.length m0) (g k).l := own_le (own_setT (Held.ext BD h2) (by decide) hS 6 _) (Nat.le_trans hE.size hx.size)
   generalize w2.setCell ⟨bd, 6, none⟩ (.slice F0 (g k).l.length m0) = w3 at *
   clear q0 q1 q2 q3 q4 q5 q6 ql f6 hS h2 BD hx NC HL
   obtain ⟨q0, q1, q2, q3, q4, q5, q6⟩ := held_c7Q BD3
   have ql := Held.lt BD3
   replace hO := owns_ext hO hx3
   have hLs : ∀ i, i < k → LotsOwn w3 w.heap.size (vs' i) (g i).l := fun i hi => owns_ext (hLo i hi) hx3
   replace hE := hE.trans hx3
   have hlen := flatL_len (f := fun i => dealr (g i) (vs' i)) (sz := 7) (fun _ => rfl) k
   go_wp2_with (at_builtin; refine wpList_append_own_at _ rfl _ _ 29 rfl w.heap.size 70 i0 (.agg #[.int .i64 0, .int .i64 0, .bool false, .int .i64 0, .bool false, .string ⟨#[]⟩, .slice none 0 0]) 7 80 Tryz.underlying29 hi hz0 hz1 hz2 rfl (by decide) _ _ _ rfl (hO.alloc _) ⟨w3.heap.size, 0, none⟩ 1 1 (dealr (g k) (.slice F0 (g k).l.length m0)) rfl rfl (cells_newL _ _ _) (cells_dealQ _ _ _ _) (by unfold maxLen; omega) (by omega) (by have := hE.size; simp; omega) ?_; intro o' w5 hown hgrow _ _)
   have E5 : Ext w w5 := (hE.alloc _).grown hgrow (fun q hq => (hO.lt q hq).1)
   have D5 := deals_push hO hLs hS3 hown hgrow
   exact ⟨⟨k + 1, by omega, by go_num, D5, E5⟩, by simp [intOf]; omega⟩
  ·obtain rfl : k = n := by omega
   go_wp2
   go_ret
   exact ⟨_, rfl, hE, vs', hO, hLo⟩
theorem held_setQ {W : World} {b : Nat} {t : TypeId} {cs : Array Value} (h : Held W b t cs) (i : Nat) (u : Value) : Held (W.setCell ⟨b, i, none⟩ u) b t (cs.setIfInBounds i u) := by unfold Held at h ⊢; simp [World.setCell, Array.getElem?_modify, h]
theorem deals_sl {W : World} {b n : Nat} {v : Value} {g : Nat → Dl} (h : DealsOwn W b v n g) : ∃ F m, v = .slice F n m := by
 obtain ⟨_, h1, _⟩ := h
 exact own_sl h1
structure PerOwn (W : World) (b : Nat) (p : Pd) (vo vd vc : Value) : Prop where
 o : LotsOwn W b vo p.o
 d : DealsOwn W b vd p.d.length (fun i => p.d.getD i zDl)
 c : LotsOwn W b vc p.c
theorem perAt_own {W : World} {b : Nat} {p : Pd} {vo vd vc : Value} (h : PerOwn W b p vo vd vc) : PerAt W p vo vd vc := ⟨lotsAt_own h.o, dealsAt_own h.d, lotsAt_own h.c⟩
theorem PerOwn.ext {W W' : World} {b : Nat} {p : Pd} {vo vd vc : Value} (h : PerOwn W b p vo vd vc) (x : Ext W W') : PerOwn W' b p vo vd vc := ⟨owns_ext h.o x, h.d.ext x, owns_ext h.c x⟩
theorem PerOwn.le {W : World} {b b' : Nat} {p : Pd} {vo vd vc : Value} (h : PerOwn W b p vo vd vc) (hb : b' ≤ b) : PerOwn W b' p vo vd vc := ⟨own_le h.o hb, h.d.le hb, own_le h.c hb⟩
theorem DealsOwn.set {W : World} {bb : Nat} {t : TypeId} {cs : Array Value} (hB : Held W bb t cs) (h1 : t ≠ 68) (h2 : t ≠ 70) {b n : Nat} {v : Value} {g : Nat → Dl} (h : DealsOwn W b v n g) (j : Nat) (u : Value) : DealsOwn (W.setCell ⟨bb, j, none⟩ u) b v n g := by
 obtain ⟨vs, g1, g2⟩ := h
 exact ⟨vs, own_setT hB h2 g1 j u, fun i hi => own_setT hB h1 (g2 i hi) j u⟩
theorem copyPerR_any (p : Pd) (vo vd vc : Value) (w : World) (hP : PerAt w p vo vd vc) (hso : p.o.length * 24 ≤ 140737488351232) (hsc : p.c.length * 24 ≤ 140737488351232) (hsl : ∀ i, i < p.d.length → (p.d.getD i zDl).l.length * 24 ≤ 140737488351232) (hsd : p.d.length * 80 ≤ 140737488351232) :
  Calls Tryz.prog 8 #[.agg #[.string p.h, .int .i64 p.a.y, .int .i64 p.a.m, .bool p.a.s, .int .i64 p.a.d, .int .i64 p.b.y, .int .i64 p.b.m, .bool p.b.s, .int .i64 p.b.d, vo, vd, vc]] w fun e w' => ∃ vo' vd' vc', e = .returned (.agg #[.string p.h, .int .i64 p.a.y, .int .i64 p.a.m, .bool p.a.s, .int .i64 p.a.d, .int .i64 p.b.y, .int .i64 p.b.m, .bool p.b.s, .int .i64 p.b.d, vo', vd', vc']) ∧ Ext w w' ∧ PerOwn w' w.heap.size p vo' vd' vc' := by
 obtain ⟨t1, s1, e1, _⟩ := id hP.o
 subst e1
 obtain ⟨t2, s2, _, e2, _⟩ := id hP.d
 subst e2
 obtain ⟨t3, s3, e3, _⟩ := id hP.c
 subst e3
 have NO := fun w h => copyLotsO_any (.slice t1 p.o.length s1) p.o w h hso
 have NC := fun w h => copyLotsO_any (.slice t3 p.c.length s3) p.c w h hsc
 have ND := fun w h => copyDealsR_any (.slice t2 p.d.length s2) p.d w h hsl hsd
 go_enter Tryz.func8, Tryz.ntmps8
 go_upto_region 1 with (fail)
 obtain ⟨v, hv⟩ := zgE ((w.alloc (.cells #[.string p.h, .int .i64 p.a.y, .int .i64 p.a.m, .bool p.a.s, .int .i64 p.a.d, .int .i64 p.b.y, .int .i64 p.b.m, .bool p.b.s, .int .i64 p.b.d, .slice t1 p.o.length s1, .slice t2 p.d.length s2, .slice t3 p.c.length s3] 31)).alloc (.cells #[.string ⟨#[]⟩, .int .i64 0, .int .i64 0, .bool false, .int .i64 0, .int .i64 0, .int .i64 0, .bool false, .int .i64 0, .slice none 0 0, .slice none 0 0, .slice none 0 0] 31))
 rw [← hv]
 have E : Ext w v := by rw [hv]; exact ((Ext.refl _).alloc _).alloc _
 have B1 : Held v w.heap.size 31 #[.string p.h, .int .i64 p.a.y, .int .i64 p.a.m, .bool p.a.s, .int .i64 p.a.d, .int .i64 p.b.y, .int .i64 p.b.m, .bool p.b.s, .int .i64 p.b.d, .slice t1 p.o.length s1, .slice t2 p.d.length s2, .slice t3 p.c.length s3] := by rw [hv]; exact (Held.new _ _ _).alloc _
 have B2 : Held v (w.heap.size + 1) 31 #[.string ⟨#[]⟩, .int .i64 0, .int .i64 0, .bool false, .int .i64 0, .int .i64 0, .int .i64 0, .bool false, .int .i64 0, .slice none 0 0, .slice none 0 0, .slice none 0 0] := by rw [hv]; exact Held.at _ _ _ _ (by simp)
 clear hv
 obtain ⟨b2, hb2⟩ := zgE (w.heap.size + 1)
 rw [← hb2] at B2 ⊢
 obtain ⟨b1, hb1⟩ := zgE (w.heap.size)
 rw [← hb1] at B1 ⊢
 have hbr : w.heap.size ≤ b2 := by omega
 have hbr1 : w.heap.size ≤ b1 := by omega
 have hn21 : b2 ≠ b1 := by omega
 clear hb1 hb2
 obtain ⟨k0, k1, k2, k3, k4, k5, k6, k7, k8, k9, k10, k11⟩ := Held.c12 B1
 have kl := Held.lt B1
 go_upto_region 2 with (go_at_call 20; (with_reducible refine Calls.mono (NO _ (hP.ext E).o) ?_); rintro e w2 ⟨vl, rfl, h2, hS⟩; obtain ⟨F1, m1, rfl⟩ := own_sl hS; clear k0 k1 k2 k3 k4 k5 k6 k7 k8 k9 k10 k11 kl; obtain ⟨k0, k1, k2, k3, k4, k5, k6, k7, k8, k9, k10, k11⟩ := Held.c12 (Held.ext B1 h2); have kl := Held.lt (Held.ext B1 h2); have ff := Held.frozen (Held.ext B1 h2) 9)
 have hEs := E.size
 replace E := (E.trans h2).setCell (p := ⟨b1, 9, none⟩) hbr1 (.slice F1 p.o.length m1)
 have BX : Held _ _ _ #[.string p.h, .int .i64 p.a.y, .int .i64 p.a.m, .bool p.a.s, .int .i64 p.a.d, .int .i64 p.b.y, .int .i64 p.b.m, .bool p.b.s, .int .i64 p.b.d, .slice F1 p.o.length m1, .slice t2 p.d.length s2, .slice t3 p.c.length s3] := held_setQ (Held.ext B1 h2) 9 (.slice F1 p.o.length m1)
 have B2X := held_oth (Held.ext B2 h2) hn21 9 (.slice F1 p.o.length m1)
 have S1 : LotsOwn (w2.setCell ⟨b1, 9, none⟩ (.slice F1 p.o.length m1)) w.heap.size (.slice F1 p.o.length m1) p.o := own_le (own_setT (Held.ext B1 h2) (by decide) hS 9 (.slice F1 p.o.length m1)) hEs
 generalize w2.setCell ⟨b1, 9, none⟩ (.slice F1 p.o.length m1) = wz at *
 clear k0 k1 k2 k3 k4 k5 k6 k7 k8 k9 k10 k11 kl
 clear B1 B2 h2 ff hS hEs
 have B1 := BX
 have B2 := B2X
 clear BX B2X
 obtain ⟨k0, k1, k2, k3, k4, k5, k6, k7, k8, k9, k10, k11⟩ := Held.c12 B1
 have kl := Held.lt B1
 go_upto_region 3 with (go_at_call 20; (with_reducible refine Calls.mono (NC _ (hP.ext E).c) ?_); rintro e w2 ⟨vl, rfl, h2, hS⟩; obtain ⟨F3, m3, rfl⟩ := own_sl hS; clear k0 k1 k2 k3 k4 k5 k6 k7 k8 k9 k10 k11 kl; obtain ⟨k0, k1, k2, k3, k4, k5, k6, k7, k8, k9, k10, k11⟩ := Held.c12 (Held.ext B1 h2); have kl := Held.lt (Held.ext B1 h2); have ff := Held.frozen (Held.ext B1 h2) 11)
 have hEs := E.size
 replace E := (E.trans h2).setCell (p := ⟨b1, 11, none⟩) hbr1 (.slice F3 p.c.length m3)
 have BX : Held _ _ _ #[.string p.h, .int .i64 p.a.y, .int .i64 p.a.m, .bool p.a.s, .int .i64 p.a.d, .int .i64 p.b.y, .int .i64 p.b.m, .bool p.b.s, .int .i64 p.b.d, .slice F1 p.o.length m1, .slice t2 p.d.length s2, .slice F3 p.c.length m3] := held_setQ (Held.ext B1 h2) 11 (.slice F3 p.c.length m3)
 have B2X := held_oth (Held.ext B2 h2) hn21 11 (.slice F3 p.c.length m3)
 have S3 : LotsOwn (w2.setCell ⟨b1, 11, none⟩ (.slice F3 p.c.length m3)) w.heap.size (.slice F3 p.c.length m3) p.c := own_le (own_setT (Held.ext B1 h2) (by decide) hS 11 (.slice F3 p.c.length m3)) hEs
 replace S1 := own_setT (Held.ext B1 h2) (by decide) (owns_ext S1 h2) 11 (.slice F3 p.c.length m3)
 generalize w2.setCell ⟨b1, 11, none⟩ (.slice F3 p.c.length m3) = wz at *
 clear k0 k1 k2 k3 k4 k5 k6 k7 k8 k9 k10 k11 kl
 clear B1 B2 h2 ff hS hEs
 have B1 := BX
 have B2 := B2X
 clear BX B2X
 obtain ⟨k0, k1, k2, k3, k4, k5, k6, k7, k8, k9, k10, k11⟩ := Held.c12 B1
 have kl := Held.lt B1
 go_upto_region 4 with (go_at_call 27; (with_reducible refine Calls.mono (ND _ (hP.ext E).d) ?_); rintro e w2 ⟨vl, rfl, h2, hS⟩; obtain ⟨F2, m2, rfl⟩ := deals_sl hS; clear k0 k1 k2 k3 k4 k5 k6 k7 k8 k9 k10 k11 kl; obtain ⟨k0, k1, k2, k3, k4, k5, k6, k7, k8, k9, k10, k11⟩ := Held.c12 (Held.ext B1 h2); have kl := Held.lt (Held.ext B1 h2); have ff := Held.frozen (Held.ext B1 h2) 10)
 have hEs := E.size
 replace E := (E.trans h2).setCell (p := ⟨b1, 10, none⟩) hbr1 (.slice F2 p.d.length m2)
 have BX : Held _ _ _ #[.string p.h, .int .i64 p.a.y, .int .i64 p.a.m, .bool p.a.s, .int .i64 p.a.d, .int .i64 p.b.y, .int .i64 p.b.m, .bool p.b.s, .int .i64 p.b.d, .slice F1 p.o.length m1, .slice F2 p.d.length m2, .slice F3 p.c.length m3] := held_setQ (Held.ext B1 h2) 10 (.slice F2 p.d.length m2)
 have B2X := held_oth (Held.ext B2 h2) hn21 10 (.slice F2 p.d.length m2)
 have S2 : DealsOwn (w2.setCell ⟨b1, 10, none⟩ (.slice F2 p.d.length m2)) w.heap.size (.slice F2 p.d.length m2) p.d.length (fun i => p.d.getD i zDl) := (DealsOwn.set (Held.ext B1 h2) (by decide) (by decide) hS 10 (.slice F2 p.d.length m2)).le hEs
 replace S1 := own_setT (Held.ext B1 h2) (by decide) (owns_ext S1 h2) 10 (.slice F2 p.d.length m2)
 replace S3 := own_setT (Held.ext B1 h2) (by decide) (owns_ext S3 h2) 10 (.slice F2 p.d.length m2)
 generalize w2.setCell ⟨b1, 10, none⟩ (.slice F2 p.d.length m2) = wz at *
 clear k0 k1 k2 k3 k4 k5 k6 k7 k8 k9 k10 k11 kl
 clear B1 B2 h2 ff hS hEs
 have B1 := BX
 have B2 := B2X
 clear BX B2X
 obtain ⟨k0, k1, k2, k3, k4, k5, k6, k7, k8, k9, k10, k11⟩ := Held.c12 B1
 have kl := Held.lt B1
 have f0 := Held.frozen B2 0
 have f1 := Held.frozen B2 1
 have f2 := Held.frozen B2 2
 have f3 := Held.frozen B2 3
 have f4 := Held.frozen B2 4
 have f5 := Held.frozen B2 5
 have f6 := Held.frozen B2 6
 have f7 := Held.frozen B2 7
 have f8 := Held.frozen B2 8
 have f9 := Held.frozen B2 9
 have f10 := Held.frozen B2 10
 have f11 := Held.frozen B2 11
 obtain ⟨z0, z1, z2, z3, z4, z5, z6, z7, z8, z9, z10, z11⟩ := Held.c12 B2
 have zl := Held.lt B2
 have A0 := own_setT B2 (by decide) S1 0 (.string p.h)
 have C0 := own_setT B2 (by decide) S3 0 (.string p.h)
 have D0 := DealsOwn.set B2 (by decide) (by decide) S2 0 (.string p.h)
 have E0 := E.setCell (p := ⟨b2, 0, none⟩) hbr (.string p.h)
 have T1 : Held _ _ _ #[.string p.h, .int .i64 0, .int .i64 0, .bool false, .int .i64 0, .int .i64 0, .int .i64 0, .bool false, .int .i64 0, .slice none 0 0, .slice none 0 0, .slice none 0 0] := held_setQ B2 0 (.string p.h)
 clear S1 S2 S3
 have A1 := own_setT T1 (by decide) A0 1 (.int .i64 p.a.y)
 have C1 := own_setT T1 (by decide) C0 1 (.int .i64 p.a.y)
 have D1 := DealsOwn.set T1 (by decide) (by decide) D0 1 (.int .i64 p.a.y)
 have E1 := E0.setCell (p := ⟨b2, 1, none⟩) hbr (.int .i64 p.a.y)
 have T2 : Held _ _ _ #[.string p.h, .int .i64 p.a.y, .int .i64 0, .bool false, .int .i64 0, .int .i64 0, .int .i64 0, .bool false, .int .i64 0, .slice none 0 0, .slice none 0 0, .slice none 0 0] := held_setQ T1 1 (.int .i64 p.a.y)
 clear A0 C0 D0 E0 T1
 have A2 := own_setT T2 (by decide) A1 2 (.int .i64 p.a.m)
 have C2 := own_setT T2 (by decide) C1 2 (.int .i64 p.a.m)
 have D2 := DealsOwn.set T2 (by decide) (by decide) D1 2 (.int .i64 p.a.m)
 have E2 := E1.setCell (p := ⟨b2, 2, none⟩) hbr (.int .i64 p.a.m)
 have T3 : Held _ _ _ #[.string p.h, .int .i64 p.a.y, .int .i64 p.a.m, .bool false, .int .i64 0, .int .i64 0, .int .i64 0, .bool false, .int .i64 0, .slice none 0 0, .slice none 0 0, .slice none 0 0] := held_setQ T2 2 (.int .i64 p.a.m)
 clear A1 C1 D1 E1 T2
 have A3 := own_setT T3 (by decide) A2 3 (.bool p.a.s)
 have C3 := own_setT T3 (by decide) C2 3 (.bool p.a.s)
 have D3 := DealsOwn.set T3 (by decide) (by decide) D2 3 (.bool p.a.s)
 have E3 := E2.setCell (p := ⟨b2, 3, none⟩) hbr (.bool p.a.s)
 have T4 : Held _ _ _ #[.string p.h, .int .i64 p.a.y, .int .i64 p.a.m, .bool p.a.s, .int .i64 0, .int .i64 0, .int .i64 0, .bool false, .int .i64 0, .slice none 0 0, .slice none 0 0, .slice none 0 0] := held_setQ T3 3 (.bool p.a.s)
 clear A2 C2 D2 E2 T3
 have A4 := own_setT T4 (by decide) A3 4 (.int .i64 p.a.d)
 have C4 := own_setT T4 (by decide) C3 4 (.int .i64 p.a.d)
 have D4 := DealsOwn.set T4 (by decide) (by decide) D3 4 (.int .i64 p.a.d)
 have E4 := E3.setCell (p := ⟨b2, 4, none⟩) hbr (.int .i64 p.a.d)
 have T5 : Held _ _ _ #[.string p.h, .int .i64 p.a.y, .int .i64 p.a.m, .bool p.a.s, .int .i64 p.a.d, .int .i64 0, .int .i64 0, .bool false, .int .i64 0, .slice none 0 0, .slice none 0 0, .slice none 0 0] := held_setQ T4 4 (.int .i64 p.a.d)
 clear A3 C3 D3 E3 T4
 have A5 := own_setT T5 (by decide) A4 5 (.int .i64 p.b.y)
 have C5 := own_setT T5 (by decide) C4 5 (.int .i64 p.b.y)
 have D5 := DealsOwn.set T5 (by decide) (by decide) D4 5 (.int .i64 p.b.y)
 have E5 := E4.setCell (p := ⟨b2, 5, none⟩) hbr (.int .i64 p.b.y)
 have T6 : Held _ _ _ #[.string p.h, .int .i64 p.a.y, .int .i64 p.a.m, .bool p.a.s, .int .i64 p.a.d, .int .i64 p.b.y, .int .i64 0, .bool false, .int .i64 0, .slice none 0 0, .slice none 0 0, .slice none 0 0] := held_setQ T5 5 (.int .i64 p.b.y)
 clear A4 C4 D4 E4 T5
 have A6 := own_setT T6 (by decide) A5 6 (.int .i64 p.b.m)
 have C6 := own_setT T6 (by decide) C5 6 (.int .i64 p.b.m)
 have D6 := DealsOwn.set T6 (by decide) (by decide) D5 6 (.int .i64 p.b.m)
 have E6 := E5.setCell (p := ⟨b2, 6, none⟩) hbr (.int .i64 p.b.m)
 have T7 : Held _ _ _ #[.string p.h, .int .i64 p.a.y, .int .i64 p.a.m, .bool p.a.s, .int .i64 p.a.d, .int .i64 p.b.y, .int .i64 p.b.m, .bool false, .int .i64 0, .slice none 0 0, .slice none 0 0, .slice none 0 0] := held_setQ T6 6 (.int .i64 p.b.m)
 clear A5 C5 D5 E5 T6
 have A7 := own_setT T7 (by decide) A6 7 (.bool p.b.s)
 have C7 := own_setT T7 (by decide) C6 7 (.bool p.b.s)
 have D7 := DealsOwn.set T7 (by decide) (by decide) D6 7 (.bool p.b.s)
 have E7 := E6.setCell (p := ⟨b2, 7, none⟩) hbr (.bool p.b.s)
 have T8 : Held _ _ _ #[.string p.h, .int .i64 p.a.y, .int .i64 p.a.m, .bool p.a.s, .int .i64 p.a.d, .int .i64 p.b.y, .int .i64 p.b.m, .bool p.b.s, .int .i64 0, .slice none 0 0, .slice none 0 0, .slice none 0 0] := held_setQ T7 7 (.bool p.b.s)
 clear A6 C6 D6 E6 T7
 have A8 := own_setT T8 (by decide) A7 8 (.int .i64 p.b.d)
 have C8 := own_setT T8 (by decide) C7 8 (.int .i64 p.b.d)
 have D8 := DealsOwn.set T8 (by decide) (by decide) D7 8 (.int .i64 p.b.d)
 have E8 := E7.setCell (p := ⟨b2, 8, none⟩) hbr (.int .i64 p.b.d)
 have T9 : Held _ _ _ #[.string p.h, .int .i64 p.a.y, .int .i64 p.a.m, .bool p.a.s, .int .i64 p.a.d, .int .i64 p.b.y, .int .i64 p.b.m, .bool p.b.s, .int .i64 p.b.d, .slice none 0 0, .slice none 0 0, .slice none 0 0] := held_setQ T8 8 (.int .i64 p.b.d)
 clear A7 C7 D7 E7 T8
 have A9 := own_setT T9 (by decide) A8 9 (.slice F1 p.o.length m1)
 have C9 := own_setT T9 (by decide) C8 9 (.slice F1 p.o.length m1)
 have D9 := DealsOwn.set T9 (by decide) (by decide) D8 9 (.slice F1 p.o.length m1)
 have E9 := E8.setCell (p := ⟨b2, 9, none⟩) hbr (.slice F1 p.o.length m1)
 have T10 : Held _ _ _ #[.string p.h, .int .i64 p.a.y, .int .i64 p.a.m, .bool p.a.s, .int .i64 p.a.d, .int .i64 p.b.y, .int .i64 p.b.m, .bool p.b.s, .int .i64 p.b.d, .slice F1 p.o.length m1, .slice none 0 0, .slice none 0 0] := held_setQ T9 9 (.slice F1 p.o.length m1)
 clear A8 C8 D8 E8 T9
 have A10 := own_setT T10 (by decide) A9 10 (.slice F2 p.d.length m2)
 have C10 := own_setT T10 (by decide) C9 10 (.slice F2 p.d.length m2)
 have D10 := DealsOwn.set T10 (by decide) (by decide) D9 10 (.slice F2 p.d.length m2)
 have E10 := E9.setCell (p := ⟨b2, 10, none⟩) hbr (.slice F2 p.d.length m2)
 have T11 : Held _ _ _ #[.string p.h, .int .i64 p.a.y, .int .i64 p.a.m, .bool p.a.s, .int .i64 p.a.d, .int .i64 p.b.y, .int .i64 p.b.m, .bool p.b.s, .int .i64 p.b.d, .slice F1 p.o.length m1, .slice F2 p.d.length m2, .slice none 0 0] := held_setQ T10 10 (.slice F2 p.d.length m2)
 clear A9 C9 D9 E9 T10
 have A11 := own_setT T11 (by decide) A10 11 (.slice F3 p.c.length m3)
 have C11 := own_setT T11 (by decide) C10 11 (.slice F3 p.c.length m3)
 have D11 := DealsOwn.set T11 (by decide) (by decide) D10 11 (.slice F3 p.c.length m3)
 have E11 := E10.setCell (p := ⟨b2, 11, none⟩) hbr (.slice F3 p.c.length m3)
 have T12 : Held _ _ _ #[.string p.h, .int .i64 p.a.y, .int .i64 p.a.m, .bool p.a.s, .int .i64 p.a.d, .int .i64 p.b.y, .int .i64 p.b.m, .bool p.b.s, .int .i64 p.b.d, .slice F1 p.o.length m1, .slice F2 p.d.length m2, .slice F3 p.c.length m3] := held_setQ T11 11 (.slice F3 p.c.length m3)
 clear A10 C10 D10 E10 T11
 have wq' : ∃ wq, wq = ((((((((((((wz.setCell ⟨b2, 0, none⟩ (.string p.h)).setCell ⟨b2, 1, none⟩ (.int .i64 p.a.y)).setCell ⟨b2, 2, none⟩ (.int .i64 p.a.m)).setCell ⟨b2, 3, none⟩ (.bool p.a.s)).setCell ⟨b2, 4, none⟩ (.int .i64 p.a.d)).setCell ⟨b2, 5, none⟩ (.int .i64 p.b.y)).setCell ⟨b2, 6, none⟩ (.int .i64 p.b.m)).setCell ⟨b2, 7, none⟩ (.bool p.b.s)).setCell ⟨b2, 8, none⟩ (.int .i64 p.b.d)).setCell ⟨b2, 9, none⟩ (.slice F1 p.o.length m1)).setCell ⟨b2, 10, none⟩ (.slice F2 p.d.length m2)).setCell ⟨b2, 11, none⟩ (.slice F3 p.c.length m3)) := ⟨_, rfl⟩
 obtain ⟨wq, hwq⟩ := wq'
 go_wp2
 rw [← hwq] at A11 C11 D11 E11 T12 ⊢
 clear hwq
 obtain ⟨y0, y1, y2, y3, y4, y5, y6, y7, y8, y9, y10, y11⟩ := Held.c12 T12
 refine bodyPost_ret (v := .agg #[.string p.h, .int .i64 p.a.y, .int .i64 p.a.m, .bool p.a.s, .int .i64 p.a.d, .int .i64 p.b.y, .int .i64 p.b.m, .bool p.b.s, .int .i64 p.b.d, .slice F1 p.o.length m1, .slice F2 p.d.length m2, .slice F3 p.c.length m3]) (by simp [results, Tryz.results8, go_sem, y0, y1, y2, y3, y4, y5, y6, y7, y8, y9, y10, y11]) rfl ⟨_, _, _, rfl, E11, A11, D11, C11⟩
end Go.Proofs.YtneiofnlmblglaaGreatDoor
namespace Go.Proofs.YtneiofnlmblglaaGreatDoor
open Go Go.RowKit Go.Shelf
attribute [local go_sem] gv_yes
attribute [local go_sem high] neq_date
theorem held7_allQ {W : World} {b : Nat} {t : TypeId} {v0 v1 v2 v3 v4 v5 v6 : Value} (h : Held W b t #[v0, v1, v2, v3, v4, v5, v6]) (u0 u1 u2 u3 u4 u5 u6 : Value) : Held (((((((W.setCell ⟨b, 0, none⟩ u0).setCell ⟨b, 1, none⟩ u1).setCell ⟨b, 2, none⟩ u2).setCell ⟨b, 3, none⟩ u3).setCell ⟨b, 4, none⟩ u4).setCell ⟨b, 5, none⟩ u5).setCell ⟨b, 6, none⟩ u6) b t #[u0, u1, u2, u3, u4, u5, u6] := by unfold Held at h ⊢; simp [World.setCell, Array.getElem?_modify, h]
theorem ext7Q {w W : World} {b : Nat} (h : Ext w W) (hb : w.heap.size ≤ b) (u0 u1 u2 u3 u4 u5 u6 : Value) : Ext w (((((((W.setCell ⟨b, 0, none⟩ u0).setCell ⟨b, 1, none⟩ u1).setCell ⟨b, 2, none⟩ u2).setCell ⟨b, 3, none⟩ u3).setCell ⟨b, 4, none⟩ u4).setCell ⟨b, 5, none⟩ u5).setCell ⟨b, 6, none⟩ u6) := (((((((h.setCell (p := ⟨b, 0, none⟩) hb u0).setCell (p := ⟨b, 1, none⟩) hb u1).setCell (p := ⟨b, 2, none⟩) hb u2).setCell (p := ⟨b, 3, none⟩) hb u3).setCell (p := ⟨b, 4, none⟩) hb u4).setCell (p := ⟨b, 5, none⟩) hb u5).setCell (p := ⟨b, 6, none⟩) hb u6)
theorem oth7Q {W : World} {b b' : Nat} {t : TypeId} {cs : Array Value} (h : Held W b' t cs) (hne : b' ≠ b) (u0 u1 u2 u3 u4 u5 u6 : Value) : Held (((((((W.setCell ⟨b, 0, none⟩ u0).setCell ⟨b, 1, none⟩ u1).setCell ⟨b, 2, none⟩ u2).setCell ⟨b, 3, none⟩ u3).setCell ⟨b, 4, none⟩ u4).setCell ⟨b, 5, none⟩ u5).setCell ⟨b, 6, none⟩ u6) b' t cs := (held_oth (held_oth (held_oth (held_oth (held_oth (held_oth (held_oth h hne 0 u0) hne 1 u1) hne 2 u2) hne 3 u3) hne 4 u4) hne 5 u5) hne 6 u6)
theorem samePerR_any (p : Pd) (vo1 vd1 vc1 vo2 vd2 vc2 : Value) (w : World) (hP1 : PerAt w p vo1 vd1 vc1) (hP2 : PerAt w p vo2 vd2 vc2) :
  Calls Tryz.prog 14 #[.agg #[.string p.h, .int .i64 p.a.y, .int .i64 p.a.m, .bool p.a.s, .int .i64 p.a.d, .int .i64 p.b.y, .int .i64 p.b.m, .bool p.b.s, .int .i64 p.b.d, vo1, vd1, vc1], .agg #[.string p.h, .int .i64 p.a.y, .int .i64 p.a.m, .bool p.a.s, .int .i64 p.a.d, .int .i64 p.b.y, .int .i64 p.b.m, .bool p.b.s, .int .i64 p.b.d, vo2, vd2, vc2]] w fun e w' => e = .returned (.bool true) ∧ Ext w w' := by
 obtain ⟨T1, c1, rfl, _⟩ := id hP1.o
 obtain ⟨S1, f1, rfl, _⟩ := id hP1.c
 obtain ⟨D1, e1, vs1, rfl, hD1, hcap1, hmax1, _, hat1⟩ := id hP1.d
 obtain ⟨T2, c2, rfl, _⟩ := id hP2.o
 obtain ⟨S2, f2, rfl, _⟩ := id hP2.c
 obtain ⟨D2, e2, vs2, rfl, hD2, hcap2, hmax2, _, hat2⟩ := id hP2.d
 have hn : p.d.length ≤ 9223372036854775807 := Nat.le_trans hcap1 (Nat.le_trans hmax1 (by decide))
 clear hcap1 hmax1 hcap2 hmax2
 have NSO := fun w h1 h2 => sameLotsR_any (.slice T1 p.o.length c1) (.slice T2 p.o.length c2) p.o w h1 h2
 have NSC := fun w h1 h2 => sameLotsR_any (.slice S1 p.c.length f1) (.slice S2 p.c.length f2) p.c w h1 h2
 go_enter Tryz.func14, Tryz.ntmps14
 go_upto_region 1 with (fail)
 obtain ⟨v, hv⟩ := zgE ((w.alloc (.cells #[.string p.h, .int .i64 p.a.y, .int .i64 p.a.m, .bool p.a.s, .int .i64 p.a.d, .int .i64 p.b.y, .int .i64 p.b.m, .bool p.b.s, .int .i64 p.b.d, .slice T1 p.o.length c1, .slice D1 p.d.length e1, .slice S1 p.c.length f1] 31)).alloc (.cells #[.string p.h, .int .i64 p.a.y, .int .i64 p.a.m, .bool p.a.s, .int .i64 p.a.d, .int .i64 p.b.y, .int .i64 p.b.m, .bool p.b.s, .int .i64 p.b.d, .slice T2 p.o.length c2, .slice D2 p.d.length e2, .slice S2 p.c.length f2] 31))
 rw [← hv]
 have E : Ext w v := by rw [hv]; exact ((Ext.refl _).alloc _).alloc _
 have B1 : Held v w.heap.size 31 #[.string p.h, .int .i64 p.a.y, .int .i64 p.a.m, .bool p.a.s, .int .i64 p.a.d, .int .i64 p.b.y, .int .i64 p.b.m, .bool p.b.s, .int .i64 p.b.d, .slice T1 p.o.length c1, .slice D1 p.d.length e1, .slice S1 p.c.length f1] := by rw [hv]; exact (Held.new _ _ _).alloc _
 have B2 : Held v (w.heap.size + 1) 31 #[.string p.h, .int .i64 p.a.y, .int .i64 p.a.m, .bool p.a.s, .int .i64 p.a.d, .int .i64 p.b.y, .int .i64 p.b.m, .bool p.b.s, .int .i64 p.b.d, .slice T2 p.o.length c2, .slice D2 p.d.length e2, .slice S2 p.c.length f2] := by rw [hv]; exact Held.at _ _ _ _ (by simp)
 clear hv
 obtain ⟨b2, hb2⟩ := zgE (w.heap.size + 1)
 rw [← hb2] at B2 ⊢
 obtain ⟨b1, hb1⟩ := zgE (w.heap.size)
 rw [← hb1] at B1 ⊢
 have hbr : w.heap.size ≤ b2 := by omega
 have hbr1 : w.heap.size ≤ b1 := by omega
 have hn21 : b2 ≠ b1 := by omega
 clear hb1 hb2
 have Q1 := hP1.ext E
 have Q2 := hP2.ext E
 clear hP1 hP2
 obtain ⟨j0, j1, j2, j3, j4, j5, j6, j7, j8, j9, j10, j11⟩ := B1.c12
 have jl := B1.lt
 obtain ⟨k0, k1, k2, k3, k4, k5, k6, k7, k8, k9, k10, k11⟩ := B2.c12
 have kl := B2.lt
 go_upto_region 3 with (first | (go_at_call 13; (with_reducible refine Calls.mono (NSO _ Q1.o Q2.o) ?_); rintro e w1 ⟨rfl, hx⟩; replace E := E.trans hx; replace Q1 := Q1.ext hx; replace Q2 := Q2.ext hx; replace B1 := B1.ext hx; replace B2 := B2.ext hx; clear hx; clear j0 j1 j2 j3 j4 j5 j6 j7 j8 j9 j10 j11 jl k0 k1 k2 k3 k4 k5 k6 k7 k8 k9 k10 k11 kl; obtain ⟨j0, j1, j2, j3, j4, j5, j6, j7, j8, j9, j10, j11⟩ := B1.c12; have jl := B1.lt; obtain ⟨k0, k1, k2, k3, k4, k5, k6, k7, k8, k9, k10, k11⟩ := B2.c12; have kl := B2.lt) | (go_at_call 13; (with_reducible refine Calls.mono (NSC _ Q1.c Q2.c) ?_); rintro e w2 ⟨rfl, hx⟩; replace E := E.trans hx; replace Q1 := Q1.ext hx; replace Q2 := Q2.ext hx; replace B1 := B1.ext hx; replace B2 := B2.ext hx; clear hx; clear j0 j1 j2 j3 j4 j5 j6 j7 j8 j9 j10 j11 jl k0 k1 k2 k3 k4 k5 k6 k7 k8 k9 k10 k11 kl; obtain ⟨j0, j1, j2, j3, j4, j5, j6, j7, j8, j9, j10, j11⟩ := B1.c12; have jl := B1.lt; obtain ⟨k0, k1, k2, k3, k4, k5, k6, k7, k8, k9, k10, k11⟩ := B2.c12; have kl := B2.lt))
 clear NSO NSC
 obtain ⟨g, hg⟩ := zgE (fun i => p.d.getD i zDl)
 have hg' : ∀ i, p.d.getD i zDl = g i := fun i => by rw [hg]
 simp only [hg'] at hD1 hat1 hD2 hat2
 clear hg hg' Q1 Q2
 replace hD1 := hD1.ext E
 replace hD2 := hD2.ext E
 generalize p.d.length = n at *
 replace hat1 := Lib.hid (fun i hi => (hat1 i hi).ext E)
 replace hat2 := Lib.hid (fun i hi => (hat2 i hi).ext E)
 go_upto_region 4 with (fail)
 go_loopw [5] (fun iv wr => ∃ k : Nat, k ≤ n ∧ iv = .int .i64 k ∧ Ext w2 wr) (fun iv _ => n - (intOf iv).toNat)
 case atStart => exact ⟨0, Nat.zero_le _, rfl, Ext.refl _⟩
 case round =>
  obtain ⟨k, hk, rfl, hE⟩ := hrel
  obtain ⟨wo, rfl⟩ := zgE wr
  clear j0 j1 j2 j3 j4 j5 j6 j7 j8 j9 j10 j11 jl k0 k1 k2 k3 k4 k5 k6 k7 k8 k9 k10 k11 kl
  have B1o := B1.ext hE
  have B2o := B2.ext hE
  obtain ⟨j0, j1, j2, j3, j4, j5, j6, j7, j8, j9, j10, j11⟩ := Held.c12 B1o
  have jl := Held.lt B1o
  obtain ⟨k0, k1, k2, k3, k4, k5, k6, k7, k8, k9, k10, k11⟩ := Held.c12 B2o
  have kl := Held.lt B2o
  by_cases hlt : k < n
  ·obtain ⟨b, off, rfl, hb, hc⟩ := (hD1.ext hE) (by omega)
   have c0 : wo.cell? ⟨b, off + k * 7, none⟩ = some (.int .i64 (g k).on.y) := by simpa [dealr] using hc k 0 _ hlt rfl
   have c1 : wo.cell? ⟨b, off + k * 7 + 1, none⟩ = some (.int .i64 (g k).on.m) := by simpa [dealr] using hc k 1 _ hlt rfl
   have c2 : wo.cell? ⟨b, off + k * 7 + 2, none⟩ = some (.bool (g k).on.s) := by simpa [dealr] using hc k 2 _ hlt rfl
   have c3 : wo.cell? ⟨b, off + k * 7 + 3, none⟩ = some (.int .i64 (g k).on.d) := by simpa [dealr] using hc k 3 _ hlt rfl
   have c4 : wo.cell? ⟨b, off + k * 7 + 4, none⟩ = some (.bool (g k).i) := by simpa [dealr] using hc k 4 _ hlt rfl
   have c5 : wo.cell? ⟨b, off + k * 7 + 5, none⟩ = some (.string (g k).w) := by simpa [dealr] using hc k 5 _ hlt rfl
   have c6 : wo.cell? ⟨b, off + k * 7 + 6, none⟩ = some (vs1 k) := by simpa [dealr] using hc k 6 _ hlt rfl
   clear hc
   obtain ⟨b', off', rfl, hb', hc⟩ := (hD2.ext hE) (by omega)
   have d0 : wo.cell? ⟨b', off' + k * 7, none⟩ = some (.int .i64 (g k).on.y) := by simpa [dealr] using hc k 0 _ hlt rfl
   have d1 : wo.cell? ⟨b', off' + k * 7 + 1, none⟩ = some (.int .i64 (g k).on.m) := by simpa [dealr] using hc k 1 _ hlt rfl
   have d2 : wo.cell? ⟨b', off' + k * 7 + 2, none⟩ = some (.bool (g k).on.s) := by simpa [dealr] using hc k 2 _ hlt rfl
   have d3 : wo.cell? ⟨b', off' + k * 7 + 3, none⟩ = some (.int .i64 (g k).on.d) := by simpa [dealr] using hc k 3 _ hlt rfl
   have d4 : wo.cell? ⟨b', off' + k * 7 + 4, none⟩ = some (.bool (g k).i) := by simpa [dealr] using hc k 4 _ hlt rfl
   have d5 : wo.cell? ⟨b', off' + k * 7 + 5, none⟩ = some (.string (g k).w) := by simpa [dealr] using hc k 5 _ hlt rfl
   have d6 : wo.cell? ⟨b', off' + k * 7 + 6, none⟩ = some (vs2 k) := by simpa [dealr] using hc k 6 _ hlt rfl
   clear hc
   have L1 := (hat1.out k hlt).ext hE
   have L2 := (hat2.out k hlt).ext hE
   obtain ⟨VL1, hv1⟩ := zgE (vs1 k)
   obtain ⟨VL2, hv2⟩ := zgE (vs2 k)
   rw [← hv1] at c6 L1
   rw [← hv2] at d6 L2
   clear hv1 hv2 hat1 hat2 hD1 hD2
   generalize g k = G at *
   obtain ⟨TL1, cl1, hVL, _⟩ := id L1
   subst hVL
   obtain ⟨TL2, cl2, hVL, _⟩ := id L2
   subst hVL
   have NSL := fun w h1 h2 => sameLotsR_any (.slice TL1 G.l.length cl1) (.slice TL2 G.l.length cl2) G.l w h1 h2
   go_upto_region 6 with (fail)
   clear j0 j1 j2 j3 j4 j5 j6 j7 j8 j9 j10 j11 jl k0 k1 k2 k3 k4 k5 k6 k7 k8 k9 k10 k11 kl
   apply wp_cut2b (S := fun w' p1 p2 => Ext wo w' ∧ p1 ≠ p2 ∧ Held w' p1 70 #[.int .i64 G.on.y, .int .i64 G.on.m, .bool G.on.s, .int .i64 G.on.d, .bool G.i, .string G.w, .slice TL1 G.l.length cl1] ∧ Held w' p2 70 #[.int .i64 G.on.y, .int .i64 G.on.m, .bool G.on.s, .int .i64 G.on.d, .bool G.i, .string G.w, .slice TL2 G.l.length cl2])
   ·refine wp_region_z 14 [13] (fun x => Ext wo x) mixed rfl ?_
    intro vz hvz
    have HC := hvz
    refine z_stills (g := 4) [0, 1, 2, 3, 4, 5, 6, 7, 8, 9] [_, _, _, _, _, _, _, _, _, _] ⟨rfl, rfl, rfl, rfl, rfl, rfl, rfl, rfl, rfl, rfl, trivial⟩ (by kernel_rfl) (by kernel_rfl) HC ?_
    simp only [zgA, zgB, zgC]
    apply Exists.intro
    refine ⟨fun u hu => ?_, ?_⟩
    ·obtain ⟨j0, j1, j2, j3, j4, j5, j6, j7, j8, j9, j10, j11⟩ := Held.c12 (Held.ext B1o hu)
     have jl := Held.lt (Held.ext B1o hu)
     obtain ⟨k0, k1, k2, k3, k4, k5, k6, k7, k8, k9, k10, k11⟩ := Held.c12 (Held.ext B2o hu)
     have kl := Held.lt (Held.ext B2o hu)
     have r0 := (hu.cell (p := ⟨b, off + k * 7, none⟩) hb).trans c0
     have r1 := (hu.cell (p := ⟨b, off + k * 7 + 1, none⟩) hb).trans c1
     have r2 := (hu.cell (p := ⟨b, off + k * 7 + 2, none⟩) hb).trans c2
     have r3 := (hu.cell (p := ⟨b, off + k * 7 + 3, none⟩) hb).trans c3
     have r4 := (hu.cell (p := ⟨b, off + k * 7 + 4, none⟩) hb).trans c4
     have r5 := (hu.cell (p := ⟨b, off + k * 7 + 5, none⟩) hb).trans c5
     have r6 := (hu.cell (p := ⟨b, off + k * 7 + 6, none⟩) hb).trans c6
     have s0 := (hu.cell (p := ⟨b', off' + k * 7, none⟩) hb').trans d0
     have s1 := (hu.cell (p := ⟨b', off' + k * 7 + 1, none⟩) hb').trans d1
     have s2 := (hu.cell (p := ⟨b', off' + k * 7 + 2, none⟩) hb').trans d2
     have s3 := (hu.cell (p := ⟨b', off' + k * 7 + 3, none⟩) hb').trans d3
     have s4 := (hu.cell (p := ⟨b', off' + k * 7 + 4, none⟩) hb').trans d4
     have s5 := (hu.cell (p := ⟨b', off' + k * 7 + 5, none⟩) hb').trans d5
     have s6 := (hu.cell (p := ⟨b', off' + k * 7 + 6, none⟩) hb').trans d6
     have hbu := Nat.lt_of_lt_of_le hb hu.size
     have hbu' := Nat.lt_of_lt_of_le hb' hu.size
     repeat (first | go_big_quiet_skip | (go_big_quiet_want; go_big_quiet_op; go_big_quiet_on))
     refine wpQuiet_nil ?_
     rfl
    refine z_two 10 11 rfl rfl (by kernel_rfl) ?_ ?_
    ·simp only [zgA, zgB, zgC]
     go_wp2
     obtain ⟨p1, wb, hbq, hwb, H10, HC', hx, gp1⟩ := ex_new2 HC 70 #[.int .i64 0, .int .i64 0, .bool false, .int .i64 0, .bool false, .string ⟨#[]⟩, .slice none 0 0]
     rw [← hbq, ← hwb]
     try have ne : p2 < p1 := by have := H11.lt; omega
     replace HC := HC'
     try replace H11 := H11.ext hx
     clear hbq hwb hx HC'
     refine onQ_in HC ?_
     refine z_one 11 rfl (by kernel_rfl) ?_
     simp only [zgA, zgB, zgC]
     go_wp2
     obtain ⟨p2, wb, hbq, hwb, H11, HC', hx, gp2⟩ := ex_new2 HC 70 #[.int .i64 0, .int .i64 0, .bool false, .int .i64 0, .bool false, .string ⟨#[]⟩, .slice none 0 0]
     rw [← hbq, ← hwb]
     try have ne : p1 < p2 := by have := H10.lt; omega
     replace HC := HC'
     try replace H10 := H10.ext hx
     clear hbq hwb hx HC'
     refine onQ_in HC ?_
     refine z_one 12 rfl (by kernel_rfl) ?_
     simp only [zgA, zgB, zgC]
     have z0 := Held.frozen H10 0
     have z1 := Held.frozen H10 1
     have z2 := Held.frozen H10 2
     have z3 := Held.frozen H10 3
     have z4 := Held.frozen H10 4
     have z5 := Held.frozen H10 5
     have z6 := Held.frozen H10 6
     obtain ⟨x0, x1, x2, x3, x4, x5, x6⟩ := held_c7Q H10
     have lx := Held.lt H10
     go_wp2
     have Hn := held7_allQ H10 (.int .i64 G.on.y) (.int .i64 G.on.m) (.bool G.on.s) (.int .i64 G.on.d) (.bool G.i) (.string G.w) (.slice TL1 G.l.length cl1)
     try have On := oth7Q H11 (show p2 ≠ p1 by omega) (.int .i64 G.on.y) (.int .i64 G.on.m) (.bool G.on.s) (.int .i64 G.on.d) (.bool G.i) (.string G.w) (.slice TL1 G.l.length cl1)
     replace HC := ext7Q HC gp1 (.int .i64 G.on.y) (.int .i64 G.on.m) (.bool G.on.s) (.int .i64 G.on.d) (.bool G.i) (.string G.w) (.slice TL1 G.l.length cl1)
     clear H10 z0 z1 z2 z3 z4 z5 z6 x0 x1 x2 x3 x4 x5 x6 lx
     have H10 := Hn
     try (replace H11 := On; clear On)
     clear Hn
     generalize World.setCell _ _ _ = wq at *
     refine onQ_in HC ?_
     refine z_end 13 rfl (by kernel_rfl) ?_
     simp only [zgA, zgB, zgC]
     have z0 := Held.frozen H11 0
     have z1 := Held.frozen H11 1
     have z2 := Held.frozen H11 2
     have z3 := Held.frozen H11 3
     have z4 := Held.frozen H11 4
     have z5 := Held.frozen H11 5
     have z6 := Held.frozen H11 6
     obtain ⟨x0, x1, x2, x3, x4, x5, x6⟩ := held_c7Q H11
     have lx := Held.lt H11
     go_wp2
     have Hn := held7_allQ H11 (.int .i64 G.on.y) (.int .i64 G.on.m) (.bool G.on.s) (.int .i64 G.on.d) (.bool G.i) (.string G.w) (.slice TL2 G.l.length cl2)
     try have On := oth7Q H10 (show p1 ≠ p2 by omega) (.int .i64 G.on.y) (.int .i64 G.on.m) (.bool G.on.s) (.int .i64 G.on.d) (.bool G.i) (.string G.w) (.slice TL2 G.l.length cl2)
     replace HC := ext7Q HC gp2 (.int .i64 G.on.y) (.int .i64 G.on.m) (.bool G.on.s) (.int .i64 G.on.d) (.bool G.i) (.string G.w) (.slice TL2 G.l.length cl2)
     clear H11 z0 z1 z2 z3 z4 z5 z6 x0 x1 x2 x3 x4 x5 x6 lx
     have H11 := Hn
     try (replace H10 := On; clear On)
     clear Hn
     generalize World.setCell _ _ _ = wq at *
     refine onQ_last ?_
     refine z_done (by kernel_rfl) ?_
     exact cut2b_is p1 p2 ⟨HC, by omega, H10, H11⟩ rfl
    ·simp only [zgA, zgB, zgC]
     go_wp2
     obtain ⟨p2, wb, hbq, hwb, H11, HC', hx, gp2⟩ := ex_new2 HC 70 #[.int .i64 0, .int .i64 0, .bool false, .int .i64 0, .bool false, .string ⟨#[]⟩, .slice none 0 0]
     rw [← hbq, ← hwb]
     try have ne : p1 < p2 := by have := H10.lt; omega
     replace HC := HC'
     try replace H10 := H10.ext hx
     clear hbq hwb hx HC'
     refine onQ_in HC ?_
     refine z_one 10 rfl (by kernel_rfl) ?_
     simp only [zgA, zgB, zgC]
     go_wp2
     obtain ⟨p1, wb, hbq, hwb, H10, HC', hx, gp1⟩ := ex_new2 HC 70 #[.int .i64 0, .int .i64 0, .bool false, .int .i64 0, .bool false, .string ⟨#[]⟩, .slice none 0 0]
     rw [← hbq, ← hwb]
     try have ne : p2 < p1 := by have := H11.lt; omega
     replace HC := HC'
     try replace H11 := H11.ext hx
     clear hbq hwb hx HC'
     refine onQ_in HC ?_
     refine z_one 12 rfl (by kernel_rfl) ?_
     simp only [zgA, zgB, zgC]
     have z0 := Held.frozen H10 0
     have z1 := Held.frozen H10 1
     have z2 := Held.frozen H10 2
     have z3 := Held.frozen H10 3
     have z4 := Held.frozen H10 4
     have z5 := Held.frozen H10 5
     have z6 := Held.frozen H10 6
     obtain ⟨x0, x1, x2, x3, x4, x5, x6⟩ := held_c7Q H10
     have lx := Held.lt H10
     go_wp2
     have Hn := held7_allQ H10 (.int .i64 G.on.y) (.int .i64 G.on.m) (.bool G.on.s) (.int .i64 G.on.d) (.bool G.i) (.string G.w) (.slice TL1 G.l.length cl1)
     try have On := oth7Q H11 (show p2 ≠ p1 by omega) (.int .i64 G.on.y) (.int .i64 G.on.m) (.bool G.on.s) (.int .i64 G.on.d) (.bool G.i) (.string G.w) (.slice TL1 G.l.length cl1)
     replace HC := ext7Q HC gp1 (.int .i64 G.on.y) (.int .i64 G.on.m) (.bool G.on.s) (.int .i64 G.on.d) (.bool G.i) (.string G.w) (.slice TL1 G.l.length cl1)
     clear H10 z0 z1 z2 z3 z4 z5 z6 x0 x1 x2 x3 x4 x5 x6 lx
     have H10 := Hn
     try (replace H11 := On; clear On)
     clear Hn
     generalize World.setCell _ _ _ = wq at *
     refine onQ_in HC ?_
     refine z_end 13 rfl (by kernel_rfl) ?_
     simp only [zgA, zgB, zgC]
     have z0 := Held.frozen H11 0
     have z1 := Held.frozen H11 1
     have z2 := Held.frozen H11 2
     have z3 := Held.frozen H11 3
     have z4 := Held.frozen H11 4
     have z5 := Held.frozen H11 5
     have z6 := Held.frozen H11 6
     obtain ⟨x0, x1, x2, x3, x4, x5, x6⟩ := held_c7Q H11
     have lx := Held.lt H11
     go_wp2
     have Hn := held7_allQ H11 (.int .i64 G.on.y) (.int .i64 G.on.m) (.bool G.on.s) (.int .i64 G.on.d) (.bool G.i) (.string G.w) (.slice TL2 G.l.length cl2)
     try have On := oth7Q H10 (show p1 ≠ p2 by omega) (.int .i64 G.on.y) (.int .i64 G.on.m) (.bool G.on.s) (.int .i64 G.on.d) (.bool G.i) (.string G.w) (.slice TL2 G.l.length cl2)
     replace HC := ext7Q HC gp2 (.int .i64 G.on.y) (.int .i64 G.on.m) (.bool G.on.s) (.int .i64 G.on.d) (.bool G.i) (.string G.w) (.slice TL2 G.l.length cl2)
     clear H11 z0 z1 z2 z3 z4 z5 z6 x0 x1 x2 x3 x4 x5 x6 lx
     have H11 := Hn
     try (replace H10 := On; clear On)
     clear Hn
     generalize World.setCell _ _ _ = wq at *
     refine onQ_last ?_
     refine z_done (by kernel_rfl) ?_
     exact cut2b_is p1 p2 ⟨HC, by omega, H10, H11⟩ rfl
   rintro p1 p2 w3 ⟨h3, ne, H10, H11⟩
   replace L1 := L1.ext h3
   replace L2 := L2.ext h3
   clear c0 c1 c2 c3 c4 c5 c6 d0 d1 d2 d3 d4 d5 d6 hb hb'
   obtain ⟨x0, x1, x2, x3, x4, x5, x6⟩ := held_c7Q H10
   have xl := Held.lt H10
   obtain ⟨y0, y1, y2, y3, y4, y5, y6⟩ := held_c7Q H11
   have yl := Held.lt H11
   go_wp2_with (go_at_call 13; (with_reducible refine Calls.mono (NSL _ L1 L2) ?_); rintro e w4 ⟨rfl, h4⟩)
   exact ⟨⟨k + 1, by omega, by go_num, (hE.trans h3).trans h4⟩, by simp [intOf]; omega⟩
  ·obtain rfl : k = n := by omega
   go_wp2
   go_ret
   exact ⟨rfl, E.trans hE⟩
end Go.Proofs.YtneiofnlmblglaaGreatDoor
namespace Go.Proofs.YtneiofnlmblglaaGreatDoor
end Go.Proofs.YtneiofnlmblglaaGreatDoor
namespace Go.Proofs.YtneiofnlmblglaaGreatDoor
def sA : ByteArray := ⟨#[97]⟩
def sB : ByteArray := ⟨#[98]⟩
def sC : ByteArray := ⟨#[99]⟩
def sU8 : ByteArray := ⟨#[117, 114]⟩
def sBar : ByteArray := ⟨#[98, 97, 114, 108, 101, 121]⟩
def yr8 : Nat → Yr
 | 0 => ⟨0, sA, 4095, 0⟩
 | 1 => ⟨0, sB, 4095, 0⟩
 | _ => ⟨0, sC, 4095, 0⟩
def cal8 : Cal := ⟨1, fun _ => sU8, 3, yr8⟩
def l8 : Ln := ⟨⟨60, 1⟩, ⟨1, 5⟩, ⟨0, 1, false, 1⟩⟩
def p8 : Nat → Pay := fun _ => ⟨⟨0, 7, false, 1⟩, ⟨10, 1⟩⟩
def d8 : Dt := ⟨1, 7, false, 1⟩
def t8 : Nat → Tk
 | 0 => ⟨⟨10, 1⟩, ⟨1, 3⟩⟩
 | _ => ⟨⟨5, 1⟩, ⟨1, 1⟩⟩
def f8 : Dt := ⟨0, 1, false, 1⟩
def u8' : Dt := ⟨0, 1, false, 30⟩
def w8 : Nat → Cw := fun _ => ⟨2, ⟨1, 2⟩, f8, u8'⟩
def h8 : Hrd := ⟨10, 2, 5⟩
def pd8 : Pd := ⟨sA, f8, u8', [⟨sBar, 10⟩], [⟨⟨0, 1, false, 2⟩, true, sB, [⟨sBar, 5⟩]⟩, ⟨⟨0, 1, false, 2⟩, false, sB, [⟨sBar, 20⟩]⟩], []⟩
theorem e8_int : intV ⟨60, 1⟩ ⟨1, 5⟩ 180 = (⟨6, 1⟩, 0) := by kernel_rfl
theorem e8_dbl : dblV ⟨1, 3⟩ = (1080, 0) := by kernel_rfl
theorem e8_owed : cal8.owedV l8 p8 1 d8 = (⟨⟨56, 1⟩, ⟨56, 5⟩, ⟨0, 1⟩⟩, 0) := by kernel_rfl
theorem e8_settle : cal8.settleV l8 p8 1 d8 = (⟨336, 5⟩, 0) := by kernel_rfl
theorem e8_bal : cal8.balV t8 2 w8 1 = (⟨-5, 1⟩, 0) := by kernel_rfl
theorem e8_few : cal8.fewV t8 2 ⟨1, 2⟩ f8 u8' = (3, 0) := by kernel_rfl
theorem e8_grow : growV h8 ⟨4, 5⟩ ⟨1, 10⟩ 1 = (⟨12, 4, 7⟩, 0) := by kernel_rfl
theorem e8_close : cal8.closeV pd8 = ([⟨sBar, -5⟩], 0) := by kernel_rfl
end Go.Proofs.YtneiofnlmblglaaGreatDoor
namespace Go.Proofs.YtneiofnlmblglaaGreatDoor
open Go Go.RowKit Go.Shelf
attribute [local go_sem] gv_yes
attribute [local go_sem high] neq_lot
theorem rows_heldV {w : World} {b : Nat} {t : TypeId} {cs : Array Value} {n sz : Nat} {f : Nat → List Value} (h : Held w b t cs) (hf : ∀ i j v, i < n → (f i)[j]? = some v → cs[i * sz + j]? = some v) : RowsAt w (some ⟨b, 0, none⟩) n sz f :=
 fun _ => ⟨b, 0, rfl, h.lt, fun i j v hi hv => by rw [Nat.zero_add, h.cell]; exact hf i j v hi hv⟩
theorem q_any (n d : Int) (w : World) :
  Calls Tryz.prog 35 #[.int .i64 n, .int .i64 d] w fun e w' => e = .returned (.agg #[.int .i64 n, .int .i64 d]) ∧ Ext w w' := by
 go_enter Tryz.func35, Tryz.ntmps35
 go_wp2
 refine bodyPost_ret (v := .agg #[.int .i64 n, .int .i64 d]) (by simp [results, Tryz.results35, go_sem]) rfl ⟨rfl, (by repeat (first | exact Ext.refl _ | (refine Ext.alloc ?_ _) | (refine Ext.trans ?_ (by assumption))))⟩
theorem on_any (y m d : Int) (w : World) :
  Calls Tryz.prog 39 #[.int .i64 y, .int .i64 m, .int .i64 d] w fun e w' => e = .returned (.agg #[.int .i64 y, .int .i64 m, .bool false, .int .i64 d]) ∧ Ext w w' := by
 go_enter Tryz.func39, Tryz.ntmps39
 go_wp2
 refine bodyPost_ret (v := .agg #[.int .i64 y, .int .i64 m, .bool false, .int .i64 d]) (by simp [results, Tryz.results39, go_sem]) rfl ⟨rfl, (by repeat (first | exact Ext.refl _ | (refine Ext.alloc ?_ _) | (refine Ext.trans ?_ (by assumption))))⟩
theorem lot_any (s : ByteArray) (n : Int) (w : World) :
  Calls Tryz.prog 44 #[.string s, .int .i64 n] w fun e w' => ∃ b, e = .returned (.slice (some ⟨b, 0, none⟩) 1 1) ∧ Ext w w' ∧ LotsAt w' (.slice (some ⟨b, 0, none⟩) 1 1) [⟨s, n⟩] := by
 go_enter Tryz.func44, Tryz.ntmps44
 go_wp2
 go_ret
 refine ⟨w.heap.size, rfl, (by repeat (first | exact Ext.refl _ | (refine Ext.alloc ?_ _) | (refine Ext.trans ?_ (by assumption)))), some ⟨w.heap.size, 0, none⟩, 1, rfl, ?_, Nat.le_refl _, by decide, fun h => (by cases h)⟩
 refine rows_heldV (t := 68) (cs := #[.string s, .int .i64 n]) (by repeat (first | (refine Held.at _ _ _ _ ?_; (simp; done)) | refine Held.alloc ?_ _)) ?_
 intro i j v hi hv
 obtain rfl : i = 0 := by simp at hi; omega
 have hj : j < 2 := (List.getElem?_eq_some_iff.1 hv).1
 rw [← hv]
 have : j = 0 ∨ j = 1 := by omega
 rcases this with rfl | rfl <;> rfl
theorem calendar8_any (w : World) :
  Calls Tryz.prog 33 #[] w fun e w' => ∃ A A' ca cb, e = .returned (.agg #[.slice A 1 ca, .slice A' 3 cb]) ∧ Ext w w' ∧ CalAt w' A ca A' cb cal8 := by
 go_enter Tryz.func33, Tryz.ntmps33
 go_wp2
 refine bodyPost_ret (v := .agg #[.slice (some ⟨w.heap.size + 1, 0, none⟩) 1 1, .slice (some ⟨w.heap.size + 1 + 1, 0, none⟩) 3 3]) (by simp [results, Tryz.results33, go_sem]) rfl ⟨_, _, _, _, rfl, (by repeat (first | exact Ext.refl _ | (refine Ext.alloc ?_ _) | (refine Ext.trans ?_ (by assumption)))), ⟨?_, ?_, by decide, by decide, by decide, by decide⟩⟩
 ·refine rows_heldV (t := 9) (cs := #[.string sU8]) (by repeat (first | (refine Held.at _ _ _ _ ?_; (simp; done)) | refine Held.alloc ?_ _)) ?_
  intro i j v hi hv
  have hi : i < 1 := hi
  have hj : j < 1 := (List.getElem?_eq_some_iff.1 hv).1
  rw [← hv]
  obtain rfl : i = 0 := by omega
  obtain rfl : j = 0 := by omega
  rfl
 ·refine rows_heldV (t := 119) (cs := #[.int .i64 0, .string sA, .int .i64 4095, .int .i64 0, .int .i64 0, .string sB, .int .i64 4095, .int .i64 0, .int .i64 0, .string sC, .int .i64 4095, .int .i64 0]) (by repeat (first | (refine Held.at _ _ _ _ ?_; (simp; done)) | refine Held.alloc ?_ _)) ?_
  intro i j v hi hv
  have hi : i < 3 := hi
  have hj : j < 4 := (List.getElem?_eq_some_iff.1 hv).1
  rw [← hv]
  have h1 : i = 0 ∨ i = 1 ∨ i = 2 := by omega
  have h2 : j = 0 ∨ j = 1 ∨ j = 2 ∨ j = 3 := by omega
  rcases h1 with rfl | rfl | rfl <;> rcases h2 with rfl | rfl | rfl | rfl <;> rfl
theorem held8_all {W : World} {b : Nat} {t : TypeId} {v0 v1 v2 v3 v4 v5 v6 v7 : Value} (h : Held W b t #[v0, v1, v2, v3, v4, v5, v6, v7]) (u0 u1 u2 u3 u4 u5 u6 u7 : Value) : Held ((((((((W.setCell ⟨b, 0, none⟩ u0).setCell ⟨b, 1, none⟩ u1).setCell ⟨b, 2, none⟩ u2).setCell ⟨b, 3, none⟩ u3).setCell ⟨b, 4, none⟩ u4).setCell ⟨b, 5, none⟩ u5).setCell ⟨b, 6, none⟩ u6).setCell ⟨b, 7, none⟩ u7) b t #[u0, u1, u2, u3, u4, u5, u6, u7] := by unfold Held at h ⊢; simp [World.setCell, Array.getElem?_modify, h]
theorem ext8 {W0 W : World} {b : Nat} (h : Ext W0 W) (hb : W0.heap.size ≤ b) (u0 u1 u2 u3 u4 u5 u6 u7 : Value) : Ext W0 ((((((((W.setCell ⟨b, 0, none⟩ u0).setCell ⟨b, 1, none⟩ u1).setCell ⟨b, 2, none⟩ u2).setCell ⟨b, 3, none⟩ u3).setCell ⟨b, 4, none⟩ u4).setCell ⟨b, 5, none⟩ u5).setCell ⟨b, 6, none⟩ u6).setCell ⟨b, 7, none⟩ u7) :=
 (((((((h.setCell (p := ⟨b, 0, none⟩) hb u0).setCell (p := ⟨b, 1, none⟩) hb u1).setCell (p := ⟨b, 2, none⟩) hb u2).setCell (p := ⟨b, 3, none⟩) hb u3).setCell (p := ⟨b, 4, none⟩) hb u4).setCell (p := ⟨b, 5, none⟩) hb u5).setCell (p := ⟨b, 6, none⟩) hb u6).setCell (p := ⟨b, 7, none⟩) hb u7
theorem held8_oth {W : World} {b b' : Nat} {t : TypeId} {cs : Array Value} (h : Held W b t cs) (hne : b ≠ b') (u0 u1 u2 u3 u4 u5 u6 u7 : Value) : Held ((((((((W.setCell ⟨b', 0, none⟩ u0).setCell ⟨b', 1, none⟩ u1).setCell ⟨b', 2, none⟩ u2).setCell ⟨b', 3, none⟩ u3).setCell ⟨b', 4, none⟩ u4).setCell ⟨b', 5, none⟩ u5).setCell ⟨b', 6, none⟩ u6).setCell ⟨b', 7, none⟩ u7) b t cs :=
 held_oth (held_oth (held_oth (held_oth (held_oth (held_oth (held_oth (held_oth h hne 0 u0) hne 1 u1) hne 2 u2) hne 3 u3) hne 4 u4) hne 5 u5) hne 6 u6) hne 7 u7
theorem loan8_any (w : World) :
  Calls Tryz.prog 37 #[] w fun e w' => ∃ b, e = .returned (.tuple #[.agg #[.int .i64 60, .int .i64 1, .int .i64 1, .int .i64 5, .int .i64 0, .int .i64 1, .bool false, .int .i64 1], .slice (some ⟨b, 0, none⟩) 1 1]) ∧ Ext w w' ∧ RowsAt w' (some ⟨b, 0, none⟩) 1 6 (payr p8) := by
 go_enter Tryz.func37, Tryz.ntmps37
 go_upto_region 1 with (fail)
 obtain ⟨v, hv⟩ := zgE (w.alloc (.cells #[.int .i64 0, .int .i64 0, .int .i64 0, .int .i64 0, .int .i64 0, .int .i64 0, .bool false, .int .i64 0] 80))
 rw [← hv]
 have E : Ext w v := by rw [hv]; exact (Ext.refl _).alloc _
 have B1 : Held v w.heap.size 80 #[.int .i64 0, .int .i64 0, .int .i64 0, .int .i64 0, .int .i64 0, .int .i64 0, .bool false, .int .i64 0] := by rw [hv]; exact Held.new _ _ _
 clear hv
 obtain ⟨b1, hb1⟩ := zgE (w.heap.size)
 rw [← hb1] at B1 ⊢
 have hbr : w.heap.size ≤ b1 := by omega
 clear hb1
 go_wp2_with (first | (go_at_call 35; (with_reducible refine Calls.mono (q_any 10 1 _) ?_); rintro e wa ⟨rfl, hx⟩; replace E := E.trans hx; replace B1 := B1.ext hx; clear hx; have BA := B1.alloc (.cells #[.int .i64 0, .int .i64 7, .bool false, .int .i64 1, .int .i64 10, .int .i64 1] 127); have z0 := BA.frozen 0; have z1 := BA.frozen 1; have z2 := BA.frozen 2; have z3 := BA.frozen 3; have z4 := BA.frozen 4; have z5 := BA.frozen 5; have z6 := BA.frozen 6; have z7 := BA.frozen 7; obtain ⟨x0, x1, x2, x3, x4, x5, x6, x7⟩ := BA.c8; have lx := BA.lt) | (go_at_call 35; (with_reducible refine Calls.mono (q_any _ _ _) ?_); rintro e wa ⟨rfl, hx⟩; replace E := E.trans hx; replace B1 := B1.ext hx; clear hx) | (go_at_call 39; (with_reducible refine Calls.mono (on_any _ _ _ _) ?_); rintro e wa ⟨rfl, hx⟩; replace E := E.trans hx; replace B1 := B1.ext hx; clear hx))
 have H8 := held8_all (B1.alloc (.cells #[.int .i64 0, .int .i64 7, .bool false, .int .i64 1, .int .i64 10, .int .i64 1] 127)) (.int .i64 60) (.int .i64 1) (.int .i64 1) (.int .i64 5) (.int .i64 0) (.int .i64 1) (.bool false) (.int .i64 1)
 have E8 := ext8 (E.alloc (.cells #[.int .i64 0, .int .i64 7, .bool false, .int .i64 1, .int .i64 10, .int .i64 1] 127)) hbr (.int .i64 60) (.int .i64 1) (.int .i64 1) (.int .i64 5) (.int .i64 0) (.int .i64 1) (.bool false) (.int .i64 1)
 have P8 := held8_oth (Held.new wa 127 #[.int .i64 0, .int .i64 7, .bool false, .int .i64 1, .int .i64 10, .int .i64 1]) (show wa.heap.size ≠ b1 by have := B1.lt; omega) (.int .i64 60) (.int .i64 1) (.int .i64 1) (.int .i64 5) (.int .i64 0) (.int .i64 1) (.bool false) (.int .i64 1)
 obtain ⟨y0, y1, y2, y3, y4, y5, y6, y7⟩ := H8.c8
 refine bodyPost_ret (v := .tuple #[.agg #[.int .i64 60, .int .i64 1, .int .i64 1, .int .i64 5, .int .i64 0, .int .i64 1, .bool false, .int .i64 1], .slice (some ⟨wa.heap.size, 0, none⟩) 1 1]) (by simp [results, Tryz.results37, go_sem, y0, y1, y2, y3, y4, y5, y6, y7]) rfl ⟨_, rfl, E8, ?_⟩
 refine rows_heldV P8 ?_
 intro i j v hi hv
 obtain rfl : i = 0 := by omega
 have hj : j < 6 := (List.getElem?_eq_some_iff.1 hv).1
 rw [← hv]
 have : j = 0 ∨ j = 1 ∨ j = 2 ∨ j = 3 ∨ j = 4 ∨ j = 5 := by omega
 rcases this with rfl | rfl | rfl | rfl | rfl | rfl <;> rfl
theorem sameL_any (v1 v2 : Value) (a b : List Lt) (w : World) (h1 : LotsAt w v1 a) (h2 : LotsAt w v2 b) :
  Calls Tryz.prog 45 #[v1, v2] w fun e w' => e = .returned (.bool (decide (a = b))) ∧ Ext w w' := by
 obtain ⟨A, ca, rfl, hA, hca, hca', _⟩ := h1
 obtain ⟨B, cb, rfl, hB, hcb, hcb', _⟩ := h2
 obtain ⟨R, hR0⟩ := zgE (decide (a = b))
 rw [← hR0]
 have HR := Lib.hid hR0
 clear hR0
 by_cases hn : a.length = b.length
 ·have HL := Lib.hid hn
  obtain ⟨n, hnl⟩ := zgE (a.length)
  rw [← hn] at hcb hB ⊢
  rw [← hnl] at hca hcb hA hB ⊢
  have h63 : n ≤ 9223372036854775807 := Nat.le_trans hca (Nat.le_trans hca' (by decide))
  replace hnl := Lib.hid hnl
  have hno : Hid (∀ k, k < n → ofL a k ≠ ofL b k → R = false) := fun k hk h => by
   rw [HR.out]; exact decide_eq_false fun e => h (by rw [e])
  have hyes : Hid ((∀ k, k < n → ofL a k = ofL b k) → R = true) := fun h => by
   rw [HR.out]
   refine decide_eq_true (List.ext_getElem HL.out fun i h1 h2 => ?_)
   have := h i (by rw [hnl.out]; exact h1)
   rwa [ofL_get h1, ofL_get h2] at this
  clear HR HL hn hnl hca' hcb' hca hcb
  generalize ofL a = f at *
  generalize ofL b = g at *
  go_enter Tryz.func45, Tryz.ntmps45
  go_wp2
  go_loopw [5] (fun i wr => ∃ k : Nat, k ≤ n ∧ i = .int .i64 k ∧ Hid (∀ j, j < k → f j = g j) ∧ Ext w wr) (fun i _ => n - (intOf i).toNat)
  case atStart => exact ⟨0, Nat.zero_le _, rfl, (fun i hi => absurd hi (by omega)), Ext.refl _⟩
  case round =>
   obtain ⟨k, hk, rfl, hp, hE⟩ := hrel
   obtain ⟨wo, rfl⟩ := zgE wr
   by_cases hlt : k < n
   ·obtain ⟨b1, o1, rfl, hb, hc⟩ := (hA.ext hE) (by omega)
    obtain ⟨b2, o2, rfl, hb', hd⟩ := (hB.ext hE) (by omega)
    have c0 : wo.cell? ⟨b1, o1 + k * 2, none⟩ = some (.string (f k).g) := by simpa [lotr] using hc k 0 _ hlt rfl
    have c1 : wo.cell? ⟨b1, o1 + k * 2 + 1, none⟩ = some (.int .i64 (f k).n) := by simpa [lotr] using hc k 1 _ hlt rfl
    have d0 : wo.cell? ⟨b2, o2 + k * 2, none⟩ = some (.string (g k).g) := by simpa [lotr] using hd k 0 _ hlt rfl
    have d1 : wo.cell? ⟨b2, o2 + k * 2 + 1, none⟩ = some (.int .i64 (g k).n) := by simpa [lotr] using hd k 1 _ hlt rfl
    have hq : Hid ((((f k).g.toList == (g k).g.toList) && ((f k).n == (g k).n)) = decide (f k = g k)) := by
     unfold Hid
     rw [← same_eq, Bool.eq_iff_iff]
     simp only [Bool.and_eq_true, decide_eq_true_eq, beq_iff_eq]
     constructor
     ·rintro ⟨e1, e2⟩
      cases hf : f k; cases hg : g k
      rw [hf, hg] at e1 e2
      simp_all
     ·intro e; rw [e]; exact ⟨rfl, rfl⟩
    have hs : Hid (f k = g k → ∀ j, j < k + 1 → f j = g j) := fun e j hj => by
     by_cases h : j = k
     ·subst h; exact e
     ·exact hp.out j (by omega)
    have hnk := Lib.hid (hno.out k hlt)
    clear hc hd hA hB hp
    generalize f k = x at *
    generalize g k = y at *
    go_upto_region 6 with (fail)
    clear hno hyes
    generalize hg1 : (x.g.toList == y.g.toList) = e1 at *
    generalize hg2 : (x.n == y.n) = e2 at *
    by_cases hxy : x = y
    ·obtain ⟨rfl, rfl⟩ : e1 = true ∧ e2 = true := by
      have h := hq.out
      rw [decide_eq_true hxy] at h
      simpa using h
     have hp' := Lib.hid (hs.out hxy)
     clear hs hq hnk hxy
     refine wp_region_xw wo mixed (by kernel_rfl) (by repeat (first | exact Ext.refl _ | (refine Ext.alloc ?_ _) | (refine Ext.trans ?_ (by assumption)))) ?_
     intro hne hrx hry
     try simp only []
     try simp only [List.append_eq, List.cons_append, List.nil_append]
     skip
     repeat (first
      | go_big_quiet_skip
      | (go_big_quiet_want; go_big_quiet_op; go_big_quiet_on))
     clear hne hry hrx
     refine wpQuiet_nil ?_
     intro wn hwn
     obtain ⟨hcwn, hfwn, hzwn⟩ := Ext.rules hwn
     try simp only [World.size_alloc] at hzwn
     obtain ⟨hcbwn, hfbwn, hzbwn⟩ := Ext.rules (show Ext wo wn from (by repeat (first | exact Ext.refl _ | (refine Ext.alloc ?_ _) | (refine Ext.trans ?_ (by assumption)))))
     clear hcwn hfwn
     go_wp2
     exact ⟨⟨k + 1, by omega, by go_num, hp', hE.trans hwn⟩, by simp [intOf]; omega⟩
    ·have hr := hnk.out hxy
     have h : e1 = false ∨ (e1 = true ∧ e2 = false) := by
      have h := hq.out
      rw [decide_eq_false hxy] at h
      cases e1 <;> simp_all
     clear hs hq hnk hxy
     rcases h with rfl | ⟨rfl, rfl⟩
     ·skip
      refine wp_region_xw wo mixed (by kernel_rfl) (by repeat (first | exact Ext.refl _ | (refine Ext.alloc ?_ _) | (refine Ext.trans ?_ (by assumption)))) ?_
      intro hne hrx hry
      try simp only []
      try simp only [List.append_eq, List.cons_append, List.nil_append]
      skip
      repeat (first
       | go_big_quiet_skip
       | (go_big_quiet_want; go_big_quiet_op; go_big_quiet_on))
      clear hne hry hrx
      refine wpQuiet_nil ?_
      intro wn hwn
      obtain ⟨hcwn, hfwn, hzwn⟩ := Ext.rules hwn
      try simp only [World.size_alloc] at hzwn
      obtain ⟨hcbwn, hfbwn, hzbwn⟩ := Ext.rules (show Ext wo wn from (by repeat (first | exact Ext.refl _ | (refine Ext.alloc ?_ _) | (refine Ext.trans ?_ (by assumption)))))
      clear hcwn hfwn
      go_wp2
      go_ret
      exact ⟨by rw [hr]; rfl, hE.trans hwn⟩
     ·skip
      refine wp_region_xw wo mixed (by kernel_rfl) (by repeat (first | exact Ext.refl _ | (refine Ext.alloc ?_ _) | (refine Ext.trans ?_ (by assumption)))) ?_
      intro hne hrx hry
      try simp only []
      try simp only [List.append_eq, List.cons_append, List.nil_append]
      skip
      repeat (first
       | go_big_quiet_skip
       | (go_big_quiet_want; go_big_quiet_op; go_big_quiet_on))
      clear hne hry hrx
      refine wpQuiet_nil ?_
      intro wn hwn
      obtain ⟨hcwn, hfwn, hzwn⟩ := Ext.rules hwn
      try simp only [World.size_alloc] at hzwn
      obtain ⟨hcbwn, hfbwn, hzbwn⟩ := Ext.rules (show Ext wo wn from (by repeat (first | exact Ext.refl _ | (refine Ext.alloc ?_ _) | (refine Ext.trans ?_ (by assumption)))))
      clear hcwn hfwn
      go_wp2
      go_ret
      exact ⟨by rw [hr]; rfl, hE.trans hwn⟩
   ·obtain rfl : k = n := by omega
    have hr := hyes.out hp.out
    clear hyes hno
    go_wp2
    go_ret
    exact ⟨by rw [hr]; rfl, hE⟩
 ·have hne : ((a.length : Int) == (b.length : Int)) = false := beq_eq_false_iff_ne.2 (by omega)
  have hnn : ((a.length : Int) != (b.length : Int)) = true := by rw [bne, hne]; rfl
  have hr : R = false := by rw [HR.out]; exact decide_eq_false fun e => hn (by rw [e])
  clear hn HR
  go_enter Tryz.func45, Tryz.ntmps45
  go_wp2
  go_ret
  exact ⟨by rw [hr]; rfl, Ext.refl _⟩
end Go.Proofs.YtneiofnlmblglaaGreatDoor
