/- Walks of the program's functions and plain facts, packed; proved: the lemmas below; no conditions but those that each states. -/
import Derived.Test.YtneiofnlmblglaaGreatDoorQ12
import Derived.Test.YtneiofnlmblglaaGreatDoorQ10
import Derived.Test.YtneiofnlmblglaaGreatDoorQ11
import Derived.Test.YtneiofnlmblglaaGreatDoorQ7
set_option maxRecDepth 100000
set_option maxHeartbeats 4000000
namespace Go.Proofs.YtneiofnlmblglaaGreatDoor
section
open Go Go.RowKit Go.Shelf
attribute [local go_sem] Zt
theorem Vv {f f' : Nat → List Value} : ∀ k, (∀ i, i < k → f i = f' i) → Q0 f k = Q0 f' k
 | 0, _ => rfl
 | k + 1, h => by rw [W4, W4, Vv k (fun i hi => h i (by omega)), h k (by omega)]
theorem Mt {W : World} {b b' s1 s2 k1 k2 : Nat} {e1 e2 : TypeId} {v1 v2 : Value} {x1 x2 : List Value} (h1 : W.ownsRow b e1 s1 v1 k1 x1) (h2 : W.ownsRow b' e2 s2 v2 k2 x2) (hne : e1 ≠ e2) : v1.ownBlock = none ∨ v1.ownBlock ≠ v2.ownBlock := by
 cases hb : v1.ownBlock with
 | none => exact .inl rfl
 | some r =>
  refine .inr fun e => ?_
  obtain ⟨_, c1, g1⟩ := Lz h1 r hb
  obtain ⟨_, c2, g2⟩ := Lz h2 r e.symm
  rw [g1] at g2
  simp at g2
  exact hne g2.2
def Zn (W : World) (b : Nat) (v : Value) (l : List Lt) : Prop := W.ownsRow b 68 2 v l.length (l.flatMap Jd)
/-- Deals in an own row, each with lots in an own row. -/
def Zc (W : World) (b : Nat) (v : Value) (n : Nat) (g : Nat → Dl) : Prop := ∃ vs : Nat → Value, W.ownsRow b 70 7 v n (Q0 (fun i => Qq (g i) (vs i)) n) ∧ ∀ i, i < n → Zn W b (vs i) (g i).l
theorem Od (W : World) (b : Nat) (g : Nat → Dl) : Zc W b (.slice none 0 0) 0 g := ⟨fun _ => .slice none 0 0, World.ownsRow_nil _ _ _ _, fun i h => absurd h (by omega)⟩
theorem Zc.ext {W W' : World} {b n : Nat} {v : Value} {g : Nat → Dl} (h : Zc W b v n g) (x : Qa W W') : Zc W' b v n g := by
 obtain ⟨vs, h1, h2⟩ := h
 exact ⟨vs, Q5 h1 x, fun i hi => Q5 (h2 i hi) x⟩
theorem Zc.le {W : World} {b b' n : Nat} {v : Value} {g : Nat → Dl} (h : Zc W b v n g) (hb : b' ≤ b) : Zc W b' v n g := by
 obtain ⟨vs, h1, h2⟩ := h
 exact ⟨vs, h1.mono hb, fun i hi => World.ownsRow.mono (h2 i hi) hb⟩
theorem Kf {W : World} {b : Nat} {v : Value} {l : List Dl} (h : Zc W b v l.length (fun i => l.getD i Qx)) : Ys W v l := by
 obtain ⟨vs, h1, h2⟩ := h
 obtain ⟨F, c, g1, g2, g3, g4, g5, _⟩ := Ul (f := fun i => Qq (l.getD i Qx) (vs i)) (fun _ => rfl) h1
 exact ⟨F, c, vs, g1, g2, g3, g4, g5, fun i hi => Yf (h2 i hi)⟩
theorem Al {W w1 : World} {b k : Nat} {v v' vl : Value} {g : Nat → Dl} {vs : Nat → Value} {ob : Obj} (hO : W.ownsRow b 70 7 v k (Q0 (fun i => Qq (g i) (vs i)) k)) (hL : ∀ i, i < k → Zn W b (vs i) (g i).l) (hl : Zn W b vl (g k).l)
  (hown : w1.ownsRow b 70 7 v' (k + 1) (Q0 (fun i => Qq (g i) (vs i)) k ++ Qq (g k) vl)) (hgrow : (W.alloc ob).grownBy w1 v.ownBlock) : Zc w1 b v' (k + 1) g := by
 have keep : ∀ {u : Value} {l : List Lt}, Zn W b u l → Zn w1 b u l := fun h => (World.ownsRow.alloc h ob).kept hgrow (Mt h hO (by decide))
 refine ⟨fun i => if i = k then vl else vs i, ?_, fun i hi => ?_⟩
 ·rw [W4, Vv (f' := fun i => Qq (g i) (vs i)) k (fun i hi => by simp [show i ≠ k by omega])]
  simpa using hown
 ·by_cases e : i = k
  ·subst e; simpa using keep hl
  ·simpa [e] using keep (hL i (by omega))
theorem Qad {W : World} {b : Nat} {t : TypeId} {v0 v1 v2 v3 v4 v5 v6 : Value} (h : Qb W b t #[v0, v1, v2, v3, v4, v5, v6]) (u : Value) : Qb (W.setCell ⟨b, 6, none⟩ u) b t #[v0, v1, v2, v3, v4, v5, u] := by unfold Qb at h ⊢; simp [World.setCell, Array.getElem?_modify, h]
theorem Gb : (Tryz.prog.info? 70).map (fun i => (i.zero, i.size, i.bytes)) = some (some (.agg #[.int .i64 0, .int .i64 0, .bool false, .int .i64 0, .bool false, .string ⟨#[]⟩, .slice none 0 0]), 7, 80) := by kernel_rfl
theorem L9 (d : Dl) (F : Option Addr) (n m : Nat) : ∀ u ∈ Qq d (.slice F n m), u.oneCell' = true := by simp [Qq, Value.oneCell']
theorem Qa6 (A A' : Option Addr) (ca cb : Nat) (c : Qf) (p : Pd) (vo vd vc : Value) (w : World) (hC : Qv w A ca A' cb c) (hP : Jj w p vo vd vc) :
  Calls Tryz.prog 12 #[.agg #[.slice A c.nk ca, .slice A' c.ny cb], .agg #[.string p.h, .int .i64 p.a.y, .int .i64 p.a.m, .bool p.a.s, .int .i64 p.a.d, .int .i64 p.b.y, .int .i64 p.b.m, .bool p.b.s, .int .i64 p.b.d, vo, vd, vc]] w fun e w' => e = .returned (.int .i64 (c.perE p)) ∧ Qa w w' := by
 obtain ⟨t1, s1, e1, _⟩ := id hP.o
 subst e1
 obtain ⟨t2, s2, _, e2, _⟩ := id hP.d
 subst e2
 obtain ⟨t3, s3, e3, _⟩ := id hP.c
 subst e3
 have NV := fun v (h : Qv v A ca A' cb c) => Pq A A' ca cb c v h
 obtain ⟨R, hR0⟩ := Qg (c.perE p)
 rw [← hR0]
 unfold Qf.perE at hR0
 have HR := Lib.hid hR0
 clear hR0
 go_enter Tryz.func12, Tryz.ntmps12
 go_upto_region 1 with (fail)
 obtain ⟨v, hv⟩ := Qg ((w.alloc (.cells #[.slice A c.nk ca, .slice A' c.ny cb] 25)).alloc (.cells #[.string p.h, .int .i64 p.a.y, .int .i64 p.a.m, .bool p.a.s, .int .i64 p.a.d, .int .i64 p.b.y, .int .i64 p.b.m, .bool p.b.s, .int .i64 p.b.d, .slice t1 p.o.length s1, .slice t2 p.d.length s2, .slice t3 p.c.length s3] 31))
 rw [← hv]
 have E : Qa w v := by rw [hv]; exact ((Qa.refl _).alloc _).alloc _
 have B1 : Qb v w.heap.size 25 #[.slice A c.nk ca, .slice A' c.ny cb] := by rw [hv]; exact (Qb.new _ _ _).alloc _
 have B2 : Qb v (w.heap.size + 1) 31 #[.string p.h, .int .i64 p.a.y, .int .i64 p.a.m, .bool p.a.s, .int .i64 p.a.d, .int .i64 p.b.y, .int .i64 p.b.m, .bool p.b.s, .int .i64 p.b.d, .slice t1 p.o.length s1, .slice t2 p.d.length s2, .slice t3 p.c.length s3] := by rw [hv]; exact Qb.at _ _ _ _ (by simp)
 clear hv
 obtain ⟨b2, hb2⟩ := Qg (w.heap.size + 1)
 rw [← hb2] at B2 ⊢
 obtain ⟨b1, hb1⟩ := Qg (w.heap.size)
 rw [← hb1] at B1 ⊢
 have hbr : w.heap.size ≤ b2 := by omega
 have hbr1 : w.heap.size ≤ b1 := by omega
 have hn21 : b2 ≠ b1 := by omega
 clear hb1 hb2
 have C := hC.ext E
 have P := hP.ext E
 clear hP hC
 obtain ⟨j0, j1⟩ := B1.c2
 have jl := B1.lt
 obtain ⟨k0, k1, k2, k3, k4, k5, k6, k7, k8, k9, k10, k11⟩ := B2.c12
 have kl := B2.lt
 cases hv : c.valid
 ·have hr := HR.out
  rw [hv] at hr
  simp only [Bool.false_eq_true, if_false] at hr
  subst hr
  simp only [hv] at NV
  clear HR hv
  go_wp2_with (go_at_call 31; (with_reducible refine Calls.mono (NV _ C) ?_); rintro e w1 ⟨rfl, hx⟩; replace E := E.trans hx; replace C := C.ext hx; replace P := P.ext hx; replace B1 := B1.ext hx; replace B2 := B2.ext hx; clear hx; clear j0 j1 jl k0 k1 k2 k3 k4 k5 k6 k7 k8 k9 k10 k11 kl; obtain ⟨j0, j1⟩ := B1.c2; have jl := B1.lt; obtain ⟨k0, k1, k2, k3, k4, k5, k6, k7, k8, k9, k10, k11⟩ := B2.c12; have kl := B2.lt)
  go_ret
  exact ⟨rfl, E⟩
 have NP := fun v (h : Qv v A ca A' cb c) (h2 : Jj v p (.slice t1 p.o.length s1) (.slice t2 p.d.length s2) (.slice t3 p.c.length s3)) => Qfh A A' ca cb c p _ _ _ v h hv h2
 rw [hv] at NV HR
 simp only [if_true] at HR
 clear hv
 cases hp : c.perOk p
 ·have hr := HR.out
  rw [hp] at hr
  simp only [Bool.false_eq_true, if_false] at hr
  subst hr
  simp only [hp] at NP
  clear HR hp
  go_wp2_with (first | (go_at_call 31; (with_reducible refine Calls.mono (NV _ C) ?_); rintro e w1 ⟨rfl, hx⟩; replace E := E.trans hx; replace C := C.ext hx; replace P := P.ext hx; replace B1 := B1.ext hx; replace B2 := B2.ext hx; clear hx; clear j0 j1 jl k0 k1 k2 k3 k4 k5 k6 k7 k8 k9 k10 k11 kl; obtain ⟨j0, j1⟩ := B1.c2; have jl := B1.lt; obtain ⟨k0, k1, k2, k3, k4, k5, k6, k7, k8, k9, k10, k11⟩ := B2.c12; have kl := B2.lt) | (go_at_call 32; (with_reducible refine Calls.mono (NP _ C P) ?_); rintro e w2 ⟨rfl, hx⟩; replace E := E.trans hx; replace C := C.ext hx; replace P := P.ext hx; replace B1 := B1.ext hx; replace B2 := B2.ext hx; clear hx; clear j0 j1 jl k0 k1 k2 k3 k4 k5 k6 k7 k8 k9 k10 k11 kl; obtain ⟨j0, j1⟩ := B1.c2; have jl := B1.lt; obtain ⟨k0, k1, k2, k3, k4, k5, k6, k7, k8, k9, k10, k11⟩ := B2.c12; have kl := B2.lt))
  go_ret
  exact ⟨rfl, E⟩
 ·have hr := HR.out
  rw [hp] at hr
  simp only [if_true] at hr
  subst hr
  simp only [hp] at NP
  clear HR hp
  go_wp2_with (first | (go_at_call 31; (with_reducible refine Calls.mono (NV _ C) ?_); rintro e w1 ⟨rfl, hx⟩; replace E := E.trans hx; replace C := C.ext hx; replace P := P.ext hx; replace B1 := B1.ext hx; replace B2 := B2.ext hx; clear hx; clear j0 j1 jl k0 k1 k2 k3 k4 k5 k6 k7 k8 k9 k10 k11 kl; obtain ⟨j0, j1⟩ := B1.c2; have jl := B1.lt; obtain ⟨k0, k1, k2, k3, k4, k5, k6, k7, k8, k9, k10, k11⟩ := B2.c12; have kl := B2.lt) | (go_at_call 32; (with_reducible refine Calls.mono (NP _ C P) ?_); rintro e w2 ⟨rfl, hx⟩; replace E := E.trans hx; replace C := C.ext hx; replace P := P.ext hx; replace B1 := B1.ext hx; replace B2 := B2.ext hx; clear hx; clear j0 j1 jl k0 k1 k2 k3 k4 k5 k6 k7 k8 k9 k10 k11 kl; obtain ⟨j0, j1⟩ := B1.c2; have jl := B1.lt; obtain ⟨k0, k1, k2, k3, k4, k5, k6, k7, k8, k9, k10, k11⟩ := B2.c12; have kl := B2.lt))
  go_ret
  exact ⟨rfl, E⟩
theorem Pm (v : Value) (l : List Dl) (w : World) (hDD : Ys w v l) (hsz : ∀ i, i < l.length → (l.getD i Qx).l.length * 24 ≤ 140737488351232) (hsd : l.length * 80 ≤ 140737488351232) :
  Calls Tryz.prog 27 #[v] w fun e w' => ∃ v', e = .returned v' ∧ Qa w w' ∧ Zc w' w.heap.size v' l.length (fun i => l.getD i Qx) := by
 obtain ⟨i0, hi, hz0, hz1, hz2⟩ := info_parts Gb
 obtain ⟨D, cap, vs, rfl, hD, hcap, hmax, _, hat⟩ := hDD
 have hn : l.length ≤ 9223372036854775807 := Nat.le_trans hcap (Nat.le_trans hmax (by decide))
 generalize l.length = n at *
 obtain ⟨g, hg⟩ := Qg (fun i => l.getD i Qx)
 have hg' : ∀ i, l.getD i Qx = g i := fun i => by rw [hg]
 simp only [hg'] at hD hat hsz ⊢
 clear hg hg'
 clear hmax
 go_enter Tryz.func27, Tryz.ntmps27
 go_upto_region 3 with (fail)
 go_loopw [3, 4] (fun ov iv wr => ∃ k : Nat, k ≤ n ∧ iv = .int .i64 k ∧ Zc wr w.heap.size ov k g ∧ Qa w wr) (fun _ i _ => n - (intOf i).toNat)
 case atStart => exact ⟨0, Nat.zero_le _, rfl, Od _ _ _, Qa.refl _⟩
 case round =>
  obtain ⟨k, hk, rfl, ⟨vs', hO, hLo⟩, hE⟩ := hrel
  obtain ⟨wo, rfl⟩ := Qg wr
  obtain ⟨FO, mO, rfl⟩ := Z5 hO
  by_cases hlt : k < n
  ·obtain ⟨b, off, rfl, hb, hc⟩ := (hD.ext hE) (by omega)
   have c0 : wo.cell? ⟨b, off + k * 7, none⟩ = some (.int .i64 (g k).on.y) := by simpa [Qq] using hc k 0 _ hlt rfl
   have c1 : wo.cell? ⟨b, off + k * 7 + 1, none⟩ = some (.int .i64 (g k).on.m) := by simpa [Qq] using hc k 1 _ hlt rfl
   have c2 : wo.cell? ⟨b, off + k * 7 + 2, none⟩ = some (.bool (g k).on.s) := by simpa [Qq] using hc k 2 _ hlt rfl
   have c3 : wo.cell? ⟨b, off + k * 7 + 3, none⟩ = some (.int .i64 (g k).on.d) := by simpa [Qq] using hc k 3 _ hlt rfl
   have c4 : wo.cell? ⟨b, off + k * 7 + 4, none⟩ = some (.bool (g k).i) := by simpa [Qq] using hc k 4 _ hlt rfl
   have c5 : wo.cell? ⟨b, off + k * 7 + 5, none⟩ = some (.string (g k).w) := by simpa [Qq] using hc k 5 _ hlt rfl
   have c6 : wo.cell? ⟨b, off + k * 7 + 6, none⟩ = some (vs k) := by simpa [Qq] using hc k 6 _ hlt rfl
   have HL := (hat k hlt).ext hE
   obtain ⟨VL, hvl⟩ := Qg (vs k)
   rw [← hvl] at c6 HL
   clear hvl hc
   obtain ⟨TL, cl, hVL, _⟩ := id HL
   subst hVL
   have NC := fun w h => Vo (.slice TL (g k).l.length cl) (g k).l w h (hsz k hlt)
   go_upto_region 6 with (fail)
   obtain ⟨wb, hv⟩ := Qg (wo.alloc (.cells #[.int .i64 (g k).on.y, .int .i64 (g k).on.m, .bool (g k).on.s, .int .i64 (g k).on.d, .bool (g k).i, .string (g k).w, .slice TL (g k).l.length cl] 70))
   rw [← hv]
   have hx : Qa wo wb := by rw [hv]; exact (Qa.refl _).alloc _
   have BD : Qb wb wo.heap.size 70 #[.int .i64 (g k).on.y, .int .i64 (g k).on.m, .bool (g k).on.s, .int .i64 (g k).on.d, .bool (g k).i, .string (g k).w, .slice TL (g k).l.length cl] := by rw [hv]; exact Qb.new _ _ _
   obtain ⟨bd, hbd⟩ := Qg (wo.heap.size)
   rw [← hbd] at BD ⊢
   have hlo : wo.heap.size ≤ bd := by omega
   clear hv c0 c1 c2 c3 c4 c5 c6 hb hbd
   obtain ⟨q0, q1, q2, q3, q4, q5, q6⟩ := Ws BD
   have ql := BD.lt
   go_upto_region 7 with (go_at_call 20; (with_reducible refine Calls.mono (NC _ (HL.ext hx)) ?_); rintro e w2 ⟨vl, rfl, h2, hS⟩; obtain ⟨F0, m0, rfl⟩ := Z5 hS; clear q0 q1 q2 q3 q4 q5 q6 ql; obtain ⟨q0, q1, q2, q3, q4, q5, q6⟩ := Ws (Qb.ext BD h2); have ql := Qb.lt (Qb.ext BD h2); have f6 := Qb.frozen (Qb.ext BD h2) 6)
   have BD3 := Qad (Qb.ext BD h2) (.slice F0 (g k).l.length m0)
   have hx3 : Qa wo (w2.setCell ⟨bd, 6, none⟩ (.slice F0 (g k).l.length m0)) := (hx.trans h2).setCell (p := ⟨bd, 6, none⟩) hlo _
   have hS3 : Zn (w2.setCell ⟨bd, 6, none⟩ (.slice F0 (g k).l.length m0)) w.heap.size (.slice F0 (g k).l.length m0) (g k).l := Yc (Zg (Qb.ext BD h2) (by decide) hS 6 _) (Nat.le_trans hE.size hx.size)
   generalize w2.setCell ⟨bd, 6, none⟩ (.slice F0 (g k).l.length m0) = w3 at *
   clear q0 q1 q2 q3 q4 q5 q6 ql f6 hS h2 BD hx NC HL
   obtain ⟨q0, q1, q2, q3, q4, q5, q6⟩ := Ws BD3
   have ql := Qb.lt BD3
   replace hO := Q5 hO hx3
   have hLs : ∀ i, i < k → Zn w3 w.heap.size (vs' i) (g i).l := fun i hi => Q5 (hLo i hi) hx3
   replace hE := hE.trans hx3
   have hlen := Y7 (f := fun i => Qq (g i) (vs' i)) (sz := 7) (fun _ => rfl) k
   go_wp2_with (at_builtin; refine wpList_append_own_at _ rfl _ _ 29 rfl w.heap.size 70 i0 (.agg #[.int .i64 0, .int .i64 0, .bool false, .int .i64 0, .bool false, .string ⟨#[]⟩, .slice none 0 0]) 7 80 Tryz.underlying29 hi hz0 hz1 hz2 rfl (by decide) _ _ _ rfl (hO.alloc _) ⟨w3.heap.size, 0, none⟩ 1 1 (Qq (g k) (.slice F0 (g k).l.length m0)) rfl rfl (Xy _ _ _) (L9 _ _ _ _) (by unfold maxLen; omega) (by omega) (by have := hE.size; simp; omega) ?_; intro o' w5 hown hgrow _ _)
   have E5 : Qa w w5 := (hE.alloc _).grown hgrow (fun q hq => (hO.lt q hq).1)
   have D5 := Al hO hLs hS3 hown hgrow
   exact ⟨⟨k + 1, by omega, by go_num, D5, E5⟩, by simp [intOf]; omega⟩
  ·obtain rfl : k = n := by omega
   go_wp2
   go_ret
   exact ⟨_, rfl, hE, vs', hO, hLo⟩
theorem Jk {W : World} {b : Nat} {t : TypeId} {cs : Array Value} (h : Qb W b t cs) (i : Nat) (u : Value) : Qb (W.setCell ⟨b, i, none⟩ u) b t (cs.setIfInBounds i u) := by unfold Qb at h ⊢; simp [World.setCell, Array.getElem?_modify, h]
theorem G0 {W : World} {b n : Nat} {v : Value} {g : Nat → Dl} (h : Zc W b v n g) : ∃ F m, v = .slice F n m := by
 obtain ⟨_, h1, _⟩ := h
 exact Z5 h1
structure Ui (W : World) (b : Nat) (p : Pd) (vo vd vc : Value) : Prop where
 o : Zn W b vo p.o
 d : Zc W b vd p.d.length (fun i => p.d.getD i Qx)
 c : Zn W b vc p.c
theorem Qbr {W : World} {b : Nat} {p : Pd} {vo vd vc : Value} (h : Ui W b p vo vd vc) : Jj W p vo vd vc := ⟨Yf h.o, Kf h.d, Yf h.c⟩
theorem Ui.ext {W W' : World} {b : Nat} {p : Pd} {vo vd vc : Value} (h : Ui W b p vo vd vc) (x : Qa W W') : Ui W' b p vo vd vc := ⟨Q5 h.o x, h.d.ext x, Q5 h.c x⟩
theorem Ui.le {W : World} {b b' : Nat} {p : Pd} {vo vd vc : Value} (h : Ui W b p vo vd vc) (hb : b' ≤ b) : Ui W b' p vo vd vc := ⟨Yc h.o hb, h.d.le hb, Yc h.c hb⟩
theorem Zc.set {W : World} {bb : Nat} {t : TypeId} {cs : Array Value} (hB : Qb W bb t cs) (h1 : t ≠ 68) (h2 : t ≠ 70) {b n : Nat} {v : Value} {g : Nat → Dl} (h : Zc W b v n g) (j : Nat) (u : Value) : Zc (W.setCell ⟨bb, j, none⟩ u) b v n g := by
 obtain ⟨vs, g1, g2⟩ := h
 exact ⟨vs, Zg hB h2 g1 j u, fun i hi => Zg hB h1 (g2 i hi) j u⟩
theorem Qe3 (p : Pd) (vo vd vc : Value) (w : World) (hP : Jj w p vo vd vc) (hso : p.o.length * 24 ≤ 140737488351232) (hsc : p.c.length * 24 ≤ 140737488351232) (hsl : ∀ i, i < p.d.length → (p.d.getD i Qx).l.length * 24 ≤ 140737488351232) (hsd : p.d.length * 80 ≤ 140737488351232) :
  Calls Tryz.prog 8 #[.agg #[.string p.h, .int .i64 p.a.y, .int .i64 p.a.m, .bool p.a.s, .int .i64 p.a.d, .int .i64 p.b.y, .int .i64 p.b.m, .bool p.b.s, .int .i64 p.b.d, vo, vd, vc]] w fun e w' => ∃ vo' vd' vc', e = .returned (.agg #[.string p.h, .int .i64 p.a.y, .int .i64 p.a.m, .bool p.a.s, .int .i64 p.a.d, .int .i64 p.b.y, .int .i64 p.b.m, .bool p.b.s, .int .i64 p.b.d, vo', vd', vc']) ∧ Qa w w' ∧ Ui w' w.heap.size p vo' vd' vc' := by
 obtain ⟨t1, s1, e1, _⟩ := id hP.o
 subst e1
 obtain ⟨t2, s2, _, e2, _⟩ := id hP.d
 subst e2
 obtain ⟨t3, s3, e3, _⟩ := id hP.c
 subst e3
 have NO := fun w h => Vo (.slice t1 p.o.length s1) p.o w h hso
 have NC := fun w h => Vo (.slice t3 p.c.length s3) p.c w h hsc
 have ND := fun w h => Pm (.slice t2 p.d.length s2) p.d w h hsl hsd
 go_enter Tryz.func8, Tryz.ntmps8
 go_upto_region 1 with (fail)
 obtain ⟨v, hv⟩ := Qg ((w.alloc (.cells #[.string p.h, .int .i64 p.a.y, .int .i64 p.a.m, .bool p.a.s, .int .i64 p.a.d, .int .i64 p.b.y, .int .i64 p.b.m, .bool p.b.s, .int .i64 p.b.d, .slice t1 p.o.length s1, .slice t2 p.d.length s2, .slice t3 p.c.length s3] 31)).alloc (.cells #[.string ⟨#[]⟩, .int .i64 0, .int .i64 0, .bool false, .int .i64 0, .int .i64 0, .int .i64 0, .bool false, .int .i64 0, .slice none 0 0, .slice none 0 0, .slice none 0 0] 31))
 rw [← hv]
 have E : Qa w v := by rw [hv]; exact ((Qa.refl _).alloc _).alloc _
 have B1 : Qb v w.heap.size 31 #[.string p.h, .int .i64 p.a.y, .int .i64 p.a.m, .bool p.a.s, .int .i64 p.a.d, .int .i64 p.b.y, .int .i64 p.b.m, .bool p.b.s, .int .i64 p.b.d, .slice t1 p.o.length s1, .slice t2 p.d.length s2, .slice t3 p.c.length s3] := by rw [hv]; exact (Qb.new _ _ _).alloc _
 have B2 : Qb v (w.heap.size + 1) 31 #[.string ⟨#[]⟩, .int .i64 0, .int .i64 0, .bool false, .int .i64 0, .int .i64 0, .int .i64 0, .bool false, .int .i64 0, .slice none 0 0, .slice none 0 0, .slice none 0 0] := by rw [hv]; exact Qb.at _ _ _ _ (by simp)
 clear hv
 obtain ⟨b2, hb2⟩ := Qg (w.heap.size + 1)
 rw [← hb2] at B2 ⊢
 obtain ⟨b1, hb1⟩ := Qg (w.heap.size)
 rw [← hb1] at B1 ⊢
 have hbr : w.heap.size ≤ b2 := by omega
 have hbr1 : w.heap.size ≤ b1 := by omega
 have hn21 : b2 ≠ b1 := by omega
 clear hb1 hb2
 obtain ⟨k0, k1, k2, k3, k4, k5, k6, k7, k8, k9, k10, k11⟩ := Qb.c12 B1
 have kl := Qb.lt B1
 go_upto_region 2 with (go_at_call 20; (with_reducible refine Calls.mono (NO _ (hP.ext E).o) ?_); rintro e w2 ⟨vl, rfl, h2, hS⟩; obtain ⟨F1, m1, rfl⟩ := Z5 hS; clear k0 k1 k2 k3 k4 k5 k6 k7 k8 k9 k10 k11 kl; obtain ⟨k0, k1, k2, k3, k4, k5, k6, k7, k8, k9, k10, k11⟩ := Qb.c12 (Qb.ext B1 h2); have kl := Qb.lt (Qb.ext B1 h2); have ff := Qb.frozen (Qb.ext B1 h2) 9)
 have hEs := E.size
 replace E := (E.trans h2).setCell (p := ⟨b1, 9, none⟩) hbr1 (.slice F1 p.o.length m1)
 have BX : Qb _ _ _ #[.string p.h, .int .i64 p.a.y, .int .i64 p.a.m, .bool p.a.s, .int .i64 p.a.d, .int .i64 p.b.y, .int .i64 p.b.m, .bool p.b.s, .int .i64 p.b.d, .slice F1 p.o.length m1, .slice t2 p.d.length s2, .slice t3 p.c.length s3] := Jk (Qb.ext B1 h2) 9 (.slice F1 p.o.length m1)
 have B2X := Qh (Qb.ext B2 h2) hn21 9 (.slice F1 p.o.length m1)
 have S1 : Zn (w2.setCell ⟨b1, 9, none⟩ (.slice F1 p.o.length m1)) w.heap.size (.slice F1 p.o.length m1) p.o := Yc (Zg (Qb.ext B1 h2) (by decide) hS 9 (.slice F1 p.o.length m1)) hEs
 generalize w2.setCell ⟨b1, 9, none⟩ (.slice F1 p.o.length m1) = wz at *
 clear k0 k1 k2 k3 k4 k5 k6 k7 k8 k9 k10 k11 kl
 clear B1 B2 h2 ff hS hEs
 have B1 := BX
 have B2 := B2X
 clear BX B2X
 obtain ⟨k0, k1, k2, k3, k4, k5, k6, k7, k8, k9, k10, k11⟩ := Qb.c12 B1
 have kl := Qb.lt B1
 go_upto_region 3 with (go_at_call 20; (with_reducible refine Calls.mono (NC _ (hP.ext E).c) ?_); rintro e w2 ⟨vl, rfl, h2, hS⟩; obtain ⟨F3, m3, rfl⟩ := Z5 hS; clear k0 k1 k2 k3 k4 k5 k6 k7 k8 k9 k10 k11 kl; obtain ⟨k0, k1, k2, k3, k4, k5, k6, k7, k8, k9, k10, k11⟩ := Qb.c12 (Qb.ext B1 h2); have kl := Qb.lt (Qb.ext B1 h2); have ff := Qb.frozen (Qb.ext B1 h2) 11)
 have hEs := E.size
 replace E := (E.trans h2).setCell (p := ⟨b1, 11, none⟩) hbr1 (.slice F3 p.c.length m3)
 have BX : Qb _ _ _ #[.string p.h, .int .i64 p.a.y, .int .i64 p.a.m, .bool p.a.s, .int .i64 p.a.d, .int .i64 p.b.y, .int .i64 p.b.m, .bool p.b.s, .int .i64 p.b.d, .slice F1 p.o.length m1, .slice t2 p.d.length s2, .slice F3 p.c.length m3] := Jk (Qb.ext B1 h2) 11 (.slice F3 p.c.length m3)
 have B2X := Qh (Qb.ext B2 h2) hn21 11 (.slice F3 p.c.length m3)
 have S3 : Zn (w2.setCell ⟨b1, 11, none⟩ (.slice F3 p.c.length m3)) w.heap.size (.slice F3 p.c.length m3) p.c := Yc (Zg (Qb.ext B1 h2) (by decide) hS 11 (.slice F3 p.c.length m3)) hEs
 replace S1 := Zg (Qb.ext B1 h2) (by decide) (Q5 S1 h2) 11 (.slice F3 p.c.length m3)
 generalize w2.setCell ⟨b1, 11, none⟩ (.slice F3 p.c.length m3) = wz at *
 clear k0 k1 k2 k3 k4 k5 k6 k7 k8 k9 k10 k11 kl
 clear B1 B2 h2 ff hS hEs
 have B1 := BX
 have B2 := B2X
 clear BX B2X
 obtain ⟨k0, k1, k2, k3, k4, k5, k6, k7, k8, k9, k10, k11⟩ := Qb.c12 B1
 have kl := Qb.lt B1
 go_upto_region 4 with (go_at_call 27; (with_reducible refine Calls.mono (ND _ (hP.ext E).d) ?_); rintro e w2 ⟨vl, rfl, h2, hS⟩; obtain ⟨F2, m2, rfl⟩ := G0 hS; clear k0 k1 k2 k3 k4 k5 k6 k7 k8 k9 k10 k11 kl; obtain ⟨k0, k1, k2, k3, k4, k5, k6, k7, k8, k9, k10, k11⟩ := Qb.c12 (Qb.ext B1 h2); have kl := Qb.lt (Qb.ext B1 h2); have ff := Qb.frozen (Qb.ext B1 h2) 10)
 have hEs := E.size
 replace E := (E.trans h2).setCell (p := ⟨b1, 10, none⟩) hbr1 (.slice F2 p.d.length m2)
 have BX : Qb _ _ _ #[.string p.h, .int .i64 p.a.y, .int .i64 p.a.m, .bool p.a.s, .int .i64 p.a.d, .int .i64 p.b.y, .int .i64 p.b.m, .bool p.b.s, .int .i64 p.b.d, .slice F1 p.o.length m1, .slice F2 p.d.length m2, .slice F3 p.c.length m3] := Jk (Qb.ext B1 h2) 10 (.slice F2 p.d.length m2)
 have B2X := Qh (Qb.ext B2 h2) hn21 10 (.slice F2 p.d.length m2)
 have S2 : Zc (w2.setCell ⟨b1, 10, none⟩ (.slice F2 p.d.length m2)) w.heap.size (.slice F2 p.d.length m2) p.d.length (fun i => p.d.getD i Qx) := (Zc.set (Qb.ext B1 h2) (by decide) (by decide) hS 10 (.slice F2 p.d.length m2)).le hEs
 replace S1 := Zg (Qb.ext B1 h2) (by decide) (Q5 S1 h2) 10 (.slice F2 p.d.length m2)
 replace S3 := Zg (Qb.ext B1 h2) (by decide) (Q5 S3 h2) 10 (.slice F2 p.d.length m2)
 generalize w2.setCell ⟨b1, 10, none⟩ (.slice F2 p.d.length m2) = wz at *
 clear k0 k1 k2 k3 k4 k5 k6 k7 k8 k9 k10 k11 kl
 clear B1 B2 h2 ff hS hEs
 have B1 := BX
 have B2 := B2X
 clear BX B2X
 obtain ⟨k0, k1, k2, k3, k4, k5, k6, k7, k8, k9, k10, k11⟩ := Qb.c12 B1
 have kl := Qb.lt B1
 have f0 := Qb.frozen B2 0
 have f1 := Qb.frozen B2 1
 have f2 := Qb.frozen B2 2
 have f3 := Qb.frozen B2 3
 have f4 := Qb.frozen B2 4
 have f5 := Qb.frozen B2 5
 have f6 := Qb.frozen B2 6
 have f7 := Qb.frozen B2 7
 have f8 := Qb.frozen B2 8
 have f9 := Qb.frozen B2 9
 have f10 := Qb.frozen B2 10
 have f11 := Qb.frozen B2 11
 obtain ⟨z0, z1, z2, z3, z4, z5, z6, z7, z8, z9, z10, z11⟩ := Qb.c12 B2
 have zl := Qb.lt B2
 have A0 := Zg B2 (by decide) S1 0 (.string p.h)
 have C0 := Zg B2 (by decide) S3 0 (.string p.h)
 have D0 := Zc.set B2 (by decide) (by decide) S2 0 (.string p.h)
 have E0 := E.setCell (p := ⟨b2, 0, none⟩) hbr (.string p.h)
 have T1 : Qb _ _ _ #[.string p.h, .int .i64 0, .int .i64 0, .bool false, .int .i64 0, .int .i64 0, .int .i64 0, .bool false, .int .i64 0, .slice none 0 0, .slice none 0 0, .slice none 0 0] := Jk B2 0 (.string p.h)
 clear S1 S2 S3
 have A1 := Zg T1 (by decide) A0 1 (.int .i64 p.a.y)
 have C1 := Zg T1 (by decide) C0 1 (.int .i64 p.a.y)
 have D1 := Zc.set T1 (by decide) (by decide) D0 1 (.int .i64 p.a.y)
 have E1 := E0.setCell (p := ⟨b2, 1, none⟩) hbr (.int .i64 p.a.y)
 have T2 : Qb _ _ _ #[.string p.h, .int .i64 p.a.y, .int .i64 0, .bool false, .int .i64 0, .int .i64 0, .int .i64 0, .bool false, .int .i64 0, .slice none 0 0, .slice none 0 0, .slice none 0 0] := Jk T1 1 (.int .i64 p.a.y)
 clear A0 C0 D0 E0 T1
 have A2 := Zg T2 (by decide) A1 2 (.int .i64 p.a.m)
 have C2 := Zg T2 (by decide) C1 2 (.int .i64 p.a.m)
 have D2 := Zc.set T2 (by decide) (by decide) D1 2 (.int .i64 p.a.m)
 have E2 := E1.setCell (p := ⟨b2, 2, none⟩) hbr (.int .i64 p.a.m)
 have T3 : Qb _ _ _ #[.string p.h, .int .i64 p.a.y, .int .i64 p.a.m, .bool false, .int .i64 0, .int .i64 0, .int .i64 0, .bool false, .int .i64 0, .slice none 0 0, .slice none 0 0, .slice none 0 0] := Jk T2 2 (.int .i64 p.a.m)
 clear A1 C1 D1 E1 T2
 have A3 := Zg T3 (by decide) A2 3 (.bool p.a.s)
 have C3 := Zg T3 (by decide) C2 3 (.bool p.a.s)
 have D3 := Zc.set T3 (by decide) (by decide) D2 3 (.bool p.a.s)
 have E3 := E2.setCell (p := ⟨b2, 3, none⟩) hbr (.bool p.a.s)
 have T4 : Qb _ _ _ #[.string p.h, .int .i64 p.a.y, .int .i64 p.a.m, .bool p.a.s, .int .i64 0, .int .i64 0, .int .i64 0, .bool false, .int .i64 0, .slice none 0 0, .slice none 0 0, .slice none 0 0] := Jk T3 3 (.bool p.a.s)
 clear A2 C2 D2 E2 T3
 have A4 := Zg T4 (by decide) A3 4 (.int .i64 p.a.d)
 have C4 := Zg T4 (by decide) C3 4 (.int .i64 p.a.d)
 have D4 := Zc.set T4 (by decide) (by decide) D3 4 (.int .i64 p.a.d)
 have E4 := E3.setCell (p := ⟨b2, 4, none⟩) hbr (.int .i64 p.a.d)
 have T5 : Qb _ _ _ #[.string p.h, .int .i64 p.a.y, .int .i64 p.a.m, .bool p.a.s, .int .i64 p.a.d, .int .i64 0, .int .i64 0, .bool false, .int .i64 0, .slice none 0 0, .slice none 0 0, .slice none 0 0] := Jk T4 4 (.int .i64 p.a.d)
 clear A3 C3 D3 E3 T4
 have A5 := Zg T5 (by decide) A4 5 (.int .i64 p.b.y)
 have C5 := Zg T5 (by decide) C4 5 (.int .i64 p.b.y)
 have D5 := Zc.set T5 (by decide) (by decide) D4 5 (.int .i64 p.b.y)
 have E5 := E4.setCell (p := ⟨b2, 5, none⟩) hbr (.int .i64 p.b.y)
 have T6 : Qb _ _ _ #[.string p.h, .int .i64 p.a.y, .int .i64 p.a.m, .bool p.a.s, .int .i64 p.a.d, .int .i64 p.b.y, .int .i64 0, .bool false, .int .i64 0, .slice none 0 0, .slice none 0 0, .slice none 0 0] := Jk T5 5 (.int .i64 p.b.y)
 clear A4 C4 D4 E4 T5
 have A6 := Zg T6 (by decide) A5 6 (.int .i64 p.b.m)
 have C6 := Zg T6 (by decide) C5 6 (.int .i64 p.b.m)
 have D6 := Zc.set T6 (by decide) (by decide) D5 6 (.int .i64 p.b.m)
 have E6 := E5.setCell (p := ⟨b2, 6, none⟩) hbr (.int .i64 p.b.m)
 have T7 : Qb _ _ _ #[.string p.h, .int .i64 p.a.y, .int .i64 p.a.m, .bool p.a.s, .int .i64 p.a.d, .int .i64 p.b.y, .int .i64 p.b.m, .bool false, .int .i64 0, .slice none 0 0, .slice none 0 0, .slice none 0 0] := Jk T6 6 (.int .i64 p.b.m)
 clear A5 C5 D5 E5 T6
 have A7 := Zg T7 (by decide) A6 7 (.bool p.b.s)
 have C7 := Zg T7 (by decide) C6 7 (.bool p.b.s)
 have D7 := Zc.set T7 (by decide) (by decide) D6 7 (.bool p.b.s)
 have E7 := E6.setCell (p := ⟨b2, 7, none⟩) hbr (.bool p.b.s)
 have T8 : Qb _ _ _ #[.string p.h, .int .i64 p.a.y, .int .i64 p.a.m, .bool p.a.s, .int .i64 p.a.d, .int .i64 p.b.y, .int .i64 p.b.m, .bool p.b.s, .int .i64 0, .slice none 0 0, .slice none 0 0, .slice none 0 0] := Jk T7 7 (.bool p.b.s)
 clear A6 C6 D6 E6 T7
 have A8 := Zg T8 (by decide) A7 8 (.int .i64 p.b.d)
 have C8 := Zg T8 (by decide) C7 8 (.int .i64 p.b.d)
 have D8 := Zc.set T8 (by decide) (by decide) D7 8 (.int .i64 p.b.d)
 have E8 := E7.setCell (p := ⟨b2, 8, none⟩) hbr (.int .i64 p.b.d)
 have T9 : Qb _ _ _ #[.string p.h, .int .i64 p.a.y, .int .i64 p.a.m, .bool p.a.s, .int .i64 p.a.d, .int .i64 p.b.y, .int .i64 p.b.m, .bool p.b.s, .int .i64 p.b.d, .slice none 0 0, .slice none 0 0, .slice none 0 0] := Jk T8 8 (.int .i64 p.b.d)
 clear A7 C7 D7 E7 T8
 have A9 := Zg T9 (by decide) A8 9 (.slice F1 p.o.length m1)
 have C9 := Zg T9 (by decide) C8 9 (.slice F1 p.o.length m1)
 have D9 := Zc.set T9 (by decide) (by decide) D8 9 (.slice F1 p.o.length m1)
 have E9 := E8.setCell (p := ⟨b2, 9, none⟩) hbr (.slice F1 p.o.length m1)
 have T10 : Qb _ _ _ #[.string p.h, .int .i64 p.a.y, .int .i64 p.a.m, .bool p.a.s, .int .i64 p.a.d, .int .i64 p.b.y, .int .i64 p.b.m, .bool p.b.s, .int .i64 p.b.d, .slice F1 p.o.length m1, .slice none 0 0, .slice none 0 0] := Jk T9 9 (.slice F1 p.o.length m1)
 clear A8 C8 D8 E8 T9
 have A10 := Zg T10 (by decide) A9 10 (.slice F2 p.d.length m2)
 have C10 := Zg T10 (by decide) C9 10 (.slice F2 p.d.length m2)
 have D10 := Zc.set T10 (by decide) (by decide) D9 10 (.slice F2 p.d.length m2)
 have E10 := E9.setCell (p := ⟨b2, 10, none⟩) hbr (.slice F2 p.d.length m2)
 have T11 : Qb _ _ _ #[.string p.h, .int .i64 p.a.y, .int .i64 p.a.m, .bool p.a.s, .int .i64 p.a.d, .int .i64 p.b.y, .int .i64 p.b.m, .bool p.b.s, .int .i64 p.b.d, .slice F1 p.o.length m1, .slice F2 p.d.length m2, .slice none 0 0] := Jk T10 10 (.slice F2 p.d.length m2)
 clear A9 C9 D9 E9 T10
 have A11 := Zg T11 (by decide) A10 11 (.slice F3 p.c.length m3)
 have C11 := Zg T11 (by decide) C10 11 (.slice F3 p.c.length m3)
 have D11 := Zc.set T11 (by decide) (by decide) D10 11 (.slice F3 p.c.length m3)
 have E11 := E10.setCell (p := ⟨b2, 11, none⟩) hbr (.slice F3 p.c.length m3)
 have T12 : Qb _ _ _ #[.string p.h, .int .i64 p.a.y, .int .i64 p.a.m, .bool p.a.s, .int .i64 p.a.d, .int .i64 p.b.y, .int .i64 p.b.m, .bool p.b.s, .int .i64 p.b.d, .slice F1 p.o.length m1, .slice F2 p.d.length m2, .slice F3 p.c.length m3] := Jk T11 11 (.slice F3 p.c.length m3)
 clear A10 C10 D10 E10 T11
 have wq' : ∃ wq, wq = ((((((((((((wz.setCell ⟨b2, 0, none⟩ (.string p.h)).setCell ⟨b2, 1, none⟩ (.int .i64 p.a.y)).setCell ⟨b2, 2, none⟩ (.int .i64 p.a.m)).setCell ⟨b2, 3, none⟩ (.bool p.a.s)).setCell ⟨b2, 4, none⟩ (.int .i64 p.a.d)).setCell ⟨b2, 5, none⟩ (.int .i64 p.b.y)).setCell ⟨b2, 6, none⟩ (.int .i64 p.b.m)).setCell ⟨b2, 7, none⟩ (.bool p.b.s)).setCell ⟨b2, 8, none⟩ (.int .i64 p.b.d)).setCell ⟨b2, 9, none⟩ (.slice F1 p.o.length m1)).setCell ⟨b2, 10, none⟩ (.slice F2 p.d.length m2)).setCell ⟨b2, 11, none⟩ (.slice F3 p.c.length m3)) := ⟨_, rfl⟩
 obtain ⟨wq, hwq⟩ := wq'
 go_wp2
 rw [← hwq] at A11 C11 D11 E11 T12 ⊢
 clear hwq
 obtain ⟨y0, y1, y2, y3, y4, y5, y6, y7, y8, y9, y10, y11⟩ := Qb.c12 T12
 refine bodyPost_ret (v := .agg #[.string p.h, .int .i64 p.a.y, .int .i64 p.a.m, .bool p.a.s, .int .i64 p.a.d, .int .i64 p.b.y, .int .i64 p.b.m, .bool p.b.s, .int .i64 p.b.d, .slice F1 p.o.length m1, .slice F2 p.d.length m2, .slice F3 p.c.length m3]) (by simp [results, Tryz.results8, go_sem, y0, y1, y2, y3, y4, y5, y6, y7, y8, y9, y10, y11]) rfl ⟨_, _, _, rfl, E11, A11, D11, C11⟩
theorem Pz {f : Nat → List Value} {sz : Nat} (hf : ∀ i, (f i).length = sz) {i j : Nat} (hj : j < sz) (u : Value) : ∀ {n}, i < n → (Q0 f n).set (i * sz + j) u = Q0 (fun y => if y = i then (f i).set j u else f y) n
 | n + 1, hi => by
  have hl := Y7 (f := f) (sz := sz) hf n
  rw [W4, W4]
  by_cases e : i = n
  ·subst e
   rw [List.set_append_right _ _ (by omega), hl, if_pos rfl, show i * sz + j - i * sz = j by omega]
   rw [Vv (f' := fun y => if y = i then (f i).set j u else f y) i (fun y hy => by simp [show y ≠ i by omega])]
  ·have hin : i < n := by omega
   have hb : i * sz + j < n * sz := by
    have h1 : (i + 1) * sz ≤ n * sz := Nat.mul_le_mul_right _ hin
    rw [Nat.succ_mul] at h1; omega
   rw [List.set_append_left _ _ (by omega), Pz hf hj u hin, if_neg (by omega)]
theorem Qbw (g : Nat → Dl) (vs : Nat → Value) {n k : Nat} (hk : k < n) (u : Value) : (Q0 (fun i => Qq (g i) (vs i)) n).set (k * 7 + 6) u = Q0 (fun i => Qq (g i) (if i = k then u else vs i)) n := by
 rw [Pz (f := fun i => Qq (g i) (vs i)) (sz := 7) (fun _ => rfl) (by decide) u hk]
 refine Vv n (fun i _ => ?_)
 by_cases e : i = k
 ·subst e; simp [Qq]
 ·simp [e]
theorem I6 {w : World} {base q n cap k : Nat} {g : Nat → Dl} {vs : Nat → Value} (h : w.ownsRow base 70 7 (.slice (some ⟨q, 0, none⟩) n cap) n (Q0 (fun i => Qq (g i) (vs i)) n)) (hk : k < n) : w.cell? ⟨q, k * 7 + 6, none⟩ = some (vs k) := by
 rw [World.ownsRow.cellAt h (k * 7 + 6) (by omega), Ue (f := fun i => Qq (g i) (vs i)) (sz := 7) (fun _ => rfl) hk (by decide)]
 rfl
theorem Eo {w : World} {g : Nat → Dl} {vs : Nat → Value} {n : Nat} (h : ∀ i, i < n → Zp w (vs i) (g i).l) : ∀ u ∈ Q0 (fun i => Qq (g i) (vs i)) n, u.oneCell' = true := fun u hu => by
 obtain ⟨i, hi, hm⟩ := List.mem_flatMap.1 hu
 obtain ⟨A, c, hv, _⟩ := h i (List.mem_range.1 hi)
 rw [hv] at hm
 exact L9 _ _ _ _ u hm
theorem Rj {W : World} {base : Nat} {e : TypeId} {sz : Nat} {g n cap : Nat} {xs : List Value} {v : Value} {l : List Lt} (h : Zn W base v l) (hO : W.ownsRow base e sz (.slice (some ⟨g, 0, none⟩) n cap) n xs) (hne : 68 ≠ e) (j : Nat) (u : Value) : Zn (W.setCell ⟨g, j, none⟩ u) base v l :=
 World.ownsRow.kept h (World.ownsRow.stored hO j u).2 (Mt h hO hne)
theorem Ab (v : Value) (l : List Dl) (w : World) (hD : Ys w v l) (hn : l.length ≤ 1000000) :
  Calls Tryz.prog 86 #[v] w fun e w' => ∃ v', e = .returned v' ∧ Qa w w' ∧ ∃ vs : Nat → Value, w'.ownsRow w.heap.size 70 7 v' l.length (Q0 (fun i => Qq (l.getD i Qx) (vs i)) l.length) ∧ ∀ i, i < l.length → Zp w (vs i) (l.getD i Qx).l := by
 obtain ⟨T, cap, vs, rfl, hT, hcap, hmax, hnil, hat⟩ := hD
 have hone := Eo (g := fun i => l.getD i Qx) hat
 obtain ⟨g, hg⟩ := Qg (fun i => l.getD i Qx)
 have hg' : ∀ i, l.getD i Qx = g i := fun i => by rw [hg]
 simp only [hg'] at hT hat hone ⊢
 clear hg hg'
 generalize l.length = n at *
 replace hat := Lib.hid hat
 have q23 : ∀ (w : World) (a : Option Addr) (n c n' c' : Nat), (binOp .eql 29 (.slice a n c) (.slice none n' c')).run Tryz.prog w = .ok (.bool a.isNone) w := fun w a n c n' c' => Lib.run_eql_slice_nil w _ _ a n c n' c' Tryz.underlying29
 cases T with
 | none =>
  obtain ⟨rfl, rfl⟩ := hnil rfl
  go_enter Tryz.func86, Tryz.ntmps86
  go_wp2
  go_ret
  first | exact ⟨_, rfl, Qa.refl _, vs, World.ownsRow_nil _ _ _ _, hat.out⟩ | exact ⟨_, rfl, Qa.refl _, vs, World.ownsRow_nil _ _ _ _⟩
 | some a =>
  obtain ⟨i0, hi, hz0, hz1, hz2⟩ := info_parts Gb
  have hlen := Y7 (f := fun i => Qq (g i) (vs i)) (sz := 7) (fun _ => rfl) n
  have HN := fun v (h : Qk v (some a) n 7 (fun i => Qq (g i) (vs i))) => K9 (f := fun i => Qq (g i) (vs i)) (sz := 7) (fun _ => rfl) (by decide) h
  go_enter Tryz.func86, Tryz.ntmps86
  go_wp2_with (at_builtin; refine wpList_append_own _ rfl _ _ 29 rfl w.heap.size 70 i0 (.agg #[.int .i64 0, .int .i64 0, .bool false, .int .i64 0, .bool false, .string ⟨#[]⟩, .slice none 0 0]) 7 80 Tryz.underlying29 hi hz0 hz1 hz2 rfl (by decide) _ _ _ rfl (World.ownsRow_made w #[] 0 (Nat.le_refl _) (Nat.zero_le _) rfl) a n cap (Q0 (fun i => Qq (g i) (vs i)) n) rfl hlen (HN _ (hT.ext ((Qa.refl _).alloc _)) a rfl) hone (by unfold maxLen; omega) (by omega) (by simp) ?_; intro v' w1 hown hgrow hnil2)
  go_ret
  refine ⟨v', rfl, ((Qa.refl w).alloc _).grown hgrow (fun q hq => by have h : some w.heap.size = some q := hq; cases h; exact Nat.le_refl _), vs, by simpa using hown, hat.out⟩
theorem Sb (v : Value) (l : List Dl) (w : World) (hD : Ys w v l) (hn : l.length ≤ 1000000) (hl : ∀ i, i < l.length → (l.getD i Qx).l.length ≤ 1000000) :
  Calls Tryz.prog 49 #[v] w fun e w' => ∃ v', e = .returned v' ∧ Qa w w' ∧ Zc w' w.heap.size v' l.length (fun i => l.getD i Qx) := by
 have NC := fun w h => Ab v l w h hn
 obtain ⟨D, cap, vs, rfl, hT, hcap, hmax, _, hat⟩ := id hD
 obtain ⟨g, hg⟩ := Qg (fun i => l.getD i Qx)
 have hg' : ∀ i, l.getD i Qx = g i := fun i => by rw [hg]
 simp only [hg'] at hT hat hl NC ⊢
 clear hg hg' hmax
 generalize l.length = n at *
 replace hat := Lib.hid hat
 replace hl := Lib.hid hl
 go_enter Tryz.func49, Tryz.ntmps49
 go_upto_region 2 with (go_at_call 86; (with_reducible refine Calls.mono (NC _ hD) ?_); rintro e w1 ⟨v', rfl, h1, vs1, hO1, _⟩; obtain ⟨FO, mO, rfl⟩ := Z5 hO1)
 clear NC hD
 go_upto_region 3 with (fail)
 go_loopw [9] (fun iv wr => ∃ (k : Nat) (vs' : Nat → Value), k ≤ n ∧ iv = .int .i64 k ∧ Qa w wr ∧ wr.ownsRow w.heap.size 70 7 (.slice FO n mO) n (Q0 (fun i => Qq (g i) (vs' i)) n) ∧ Hid (∀ i, i < k → Zn wr w.heap.size (vs' i) (g i).l)) (fun iv _ => n - (intOf iv).toNat)
 case atStart => exact ⟨0, vs1, Nat.zero_le _, rfl, h1, hO1, fun i h => absurd h (by omega)⟩
 case round =>
  clear hO1 h1
  obtain ⟨k, vs', hk, rfl, hE, hO, hLo⟩ := hrel
  obtain ⟨wo, rfl⟩ := Qg wr
  by_cases hlt : k < n
  rotate_left
  ·obtain rfl : n = k := by omega
   go_wp2
   go_ret
   exact ⟨_, rfl, hE, vs', hO, hLo.out⟩
  obtain ⟨q, cq, hv, hbq, _⟩ := Ku hO (by omega)
  injection hv with hv1 _ hv2
  subst hv1
  subst hv2
  obtain ⟨b, off, rfl, hb, hc⟩ := (hT.ext hE) (by omega)
  have c6 : wo.cell? ⟨b, off + k * 7 + 6, none⟩ = some (vs k) := by simpa [Qq] using hc k 6 _ hlt rfl
  have HL := (hat.out k hlt).ext hE
  have hs := hl.out k hlt
  obtain ⟨VL, hvl⟩ := Qg (vs k)
  rw [← hvl] at c6 HL
  clear hc hvl hat hl
  obtain ⟨TL, cl, hVL, _⟩ := id HL
  subst hVL
  have NL := fun w h => V3 (.slice TL (g k).l.length cl) (g k).l w h hs
  go_upto_region 6 with (go_at_call 47; (with_reducible refine Calls.mono (NL _ HL) ?_); rintro e w2 ⟨vl, rfl, h2, hS⟩; obtain ⟨F0, m0, rfl⟩ := Z5 hS; have hO2 := Q5 hO h2; have fz := World.ownsRow.frozenAt hO2 (k * 7 + 6); have xz := I6 hO2 hlt; have xl := K7 hO2)
  have hS2 : Zn w2 w.heap.size (.slice F0 (g k).l.length m0) (g k).l := Yc hS hE.size
  have hO3 := (World.ownsRow.stored hO2 (k * 7 + 6) (.slice F0 (g k).l.length m0)).1
  rw [Qbw g vs' hlt] at hO3
  have hE3 := (hE.trans h2).setCell (p := ⟨q, k * 7 + 6, none⟩) hbq (.slice F0 (g k).l.length m0)
  have hL3 : Hid (∀ i, i < k + 1 → Zn (w2.setCell ⟨q, k * 7 + 6, none⟩ (.slice F0 (g k).l.length m0)) w.heap.size (if i = k then .slice F0 (g k).l.length m0 else vs' i) (g i).l) := fun i hi => by
   by_cases e : i = k
   ·subst e; rw [if_pos rfl]; exact Rj hS2 hO2 (by decide) _ _
   ·rw [if_neg e]; exact Rj (Q5 (hLo.out i (by omega)) h2) hO2 (by decide) _ _
  generalize w2.setCell ⟨q, k * 7 + 6, none⟩ (.slice F0 (g k).l.length m0) = w3 at *
  clear fz xz xl hO2 hS hS2 h2 hLo hO NL HL c6 hE hb
  go_wp2
  exact ⟨⟨k + 1, _, by omega, by go_num, hE3, hO3, hL3⟩, by simp [intOf]; omega⟩
theorem Mp {w : World} {base k : Nat} {v : Value} {l : List Lt} (h : w.ownsRow base 68 2 v k (l.flatMap Jd)) : Zn w base v l := by
 have hk := h.1
 rw [M3] at hk
 obtain rfl : k = l.length := by omega
 exact h
theorem Ng (w : World) (b : Nat) : Zn w b (.slice none 0 0) [] := World.ownsRow_nil _ _ _ _
theorem Qcj (v1 v2 : Value) (a b : List Lt) (w : World) (h1 : Zp w v1 a) (h2 : Zp w v2 b) :
  Calls Tryz.prog 54 #[v1, v2] w fun e w' => ∃ F k m, e = .returned (.tuple #[.slice F k m, .int .i64 (Z4 1 a b)]) ∧ Qa w w' ∧ Zn w' w.heap.size (.slice F k m) (Jt 1 a b) := by
 obtain ⟨T, cap, rfl, hT, hcap, hmax, _⟩ := h1
 obtain ⟨S, cm, rfl, hS, hcm, hmm, _⟩ := h2
 refine Calls.mono (Tv T a.length cap (Za a) S b.length cm (Za b) w hT hcap (Nat.le_trans hcap (Nat.le_trans hmax (by decide))) hS hcm (Nat.le_trans hcm (Nat.le_trans hmm (by decide)))) ?_
 rintro e w' ⟨F, k, c, rfl, hx, ho⟩
 exact ⟨F, k, c, rfl, hx, Mp ho⟩
theorem Qbg (v1 v2 : Value) (a b : List Lt) (w : World) (h1 : Zp w v1 a) (h2 : Zp w v2 b) :
  Calls Tryz.prog 67 #[v1, v2] w fun e w' => ∃ F k m, e = .returned (.tuple #[.slice F k m, .int .i64 (Z4 (-1) a b)]) ∧ Qa w w' ∧ Zn w' w.heap.size (.slice F k m) (Jt (-1) a b) := by
 obtain ⟨T, cap, rfl, hT, hcap, hmax, _⟩ := h1
 obtain ⟨S, cm, rfl, hS, hcm, hmm, _⟩ := h2
 refine Calls.mono (Fr T a.length cap (Za a) S b.length cm (Za b) w hT hcap (Nat.le_trans hcap (Nat.le_trans hmax (by decide))) hS hcm (Nat.le_trans hcm (Nat.le_trans hmm (by decide)))) ?_
 rintro e w' ⟨F, k, c, rfl, hx, ho⟩
 exact ⟨F, k, c, rfl, hx, Mp ho⟩
theorem Qeu (vo vd : Value) (o : List Lt) (d : List Dl) (w : World) (hO : Zp w vo o) (hD : Ys w vd d) (ho : o.length ≤ 1000000) :
  Calls Tryz.prog 29 #[vo, vd] w fun e w' => ∃ v', e = .returned (.tuple #[v', .int .i64 (Zm o d).2]) ∧ Qa w w' ∧ Zn w' w.heap.size v' (Zm o d).1 := by
 obtain ⟨D, cap, vs, rfl, hD, hcap, hmax, _, hat⟩ := hD
 have hn : d.length ≤ 9223372036854775807 := Nat.le_trans hcap (Nat.le_trans hmax (by decide))
 have NC := V3 vo o w hO ho
 obtain ⟨A0, cc0, rfl, _⟩ := id hO
 obtain ⟨R, hR⟩ := Qg (Zm o d)
 rw [← hR]
 replace hR := Lib.hid hR
 go_enter Tryz.func29, Tryz.ntmps29
 go_upto_region 2 with (go_at_call 47; (with_reducible refine Calls.mono (NC) ?_); rintro e w1 ⟨v0, rfl, h1, hown⟩)
 have hS0 : Zn w1 w.heap.size v0 o := hown
 obtain ⟨F0, m0, rfl⟩ := Z5 hown
 clear NC hown hO
 go_upto_region 3 with (fail)
 obtain ⟨n, hnl⟩ := Qg (d.length)
 rw [← hnl] at hn hD hat hcap ⊢
 replace hnl := Lib.hid hnl
 obtain ⟨g, hg⟩ := Qg (fun i => d.getD i Qx)
 have hg' : ∀ i, d.getD i Qx = g i := fun i => by rw [hg]
 have hdr : Hid (∀ s k, k < n → Zm s (d.drop k) = if Z4 (Yt (g k).i) s (g k).l ≠ 0 then ([], Z4 (Yt (g k).i) s (g k).l) else Zm (Jt (Yt (g k).i) s (g k).l) (d.drop (k + 1))) := fun s k hk => by
  rw [Gw s (by rw [← hnl.out]; exact hk), hg']
 simp only [hg'] at hD hat
 clear hg hg'
 replace hat := Lib.hid hat
 have hD1 := hD.ext h1
 go_loopw [6, 16] (fun sv iv wr => ∃ (k : Nat) (s : List Lt), k ≤ n ∧ iv = .int .i64 k ∧ Zn wr w.heap.size sv s ∧ Hid (R = Zm s (d.drop k)) ∧ Qa w wr) (fun _ i _ => n - (intOf i).toNat)
 case atStart => exact ⟨0, o, Nat.zero_le _, rfl, hS0, by unfold Hid; rw [hR.out]; rfl, h1⟩
 case round =>
  clear hS0
  obtain ⟨k, s, hk, rfl, hS, hrun, hE⟩ := hrel
  obtain ⟨wo, rfl⟩ := Qg wr
  by_cases hlt : k < n
  ·obtain ⟨b, off, rfl, hb, hc⟩ := (hD.ext hE) (by omega)
   have hL := (hat.out k hlt).ext hE
   have c0 : wo.cell? ⟨b, off + k * 7, none⟩ = some (.int .i64 (g k).on.y) := by simpa [Qq] using hc k 0 _ hlt rfl
   have c1 : wo.cell? ⟨b, off + k * 7 + 1, none⟩ = some (.int .i64 (g k).on.m) := by simpa [Qq] using hc k 1 _ hlt rfl
   have c2 : wo.cell? ⟨b, off + k * 7 + 2, none⟩ = some (.bool (g k).on.s) := by simpa [Qq] using hc k 2 _ hlt rfl
   have c3 : wo.cell? ⟨b, off + k * 7 + 3, none⟩ = some (.int .i64 (g k).on.d) := by simpa [Qq] using hc k 3 _ hlt rfl
   have c4 : wo.cell? ⟨b, off + k * 7 + 4, none⟩ = some (.bool (g k).i) := by simpa [Qq] using hc k 4 _ hlt rfl
   have c5 : wo.cell? ⟨b, off + k * 7 + 5, none⟩ = some (.string (g k).w) := by simpa [Qq] using hc k 5 _ hlt rfl
   have c6 : wo.cell? ⟨b, off + k * 7 + 6, none⟩ = some (vs k) := by simpa [Qq] using hc k 6 _ hlt rfl
   have HS := Lib.hid (hdr.out s k hlt)
   obtain ⟨VL, hvl⟩ := Qg (vs k)
   rw [← hvl] at c6 hL
   clear hvl hc hdr hat hR hD hD1
   obtain ⟨TL, cl, hVL, _⟩ := id hL
   subst hVL
   obtain ⟨AS, cs, hsv⟩ := Z5 hS
   subst hsv
   obtain ⟨SD, hSD⟩ := Qg (Zm s (d.drop k))
   rw [← hSD] at HS hrun
   clear hSD
   go_upto_region 5 with (fail)
   obtain ⟨v3, hv⟩ := Qg (wo.alloc (.cells #[.int .i64 (g k).on.y, .int .i64 (g k).on.m, .bool (g k).on.s, .int .i64 (g k).on.d, .bool (g k).i, .string (g k).w, .slice TL (g k).l.length cl] 70))
   rw [← hv]
   have E3 : Qa wo v3 := by rw [hv]; exact (Qa.refl _).alloc _
   have H3 : Qb v3 wo.heap.size 70 #[.int .i64 (g k).on.y, .int .i64 (g k).on.m, .bool (g k).on.s, .int .i64 (g k).on.d, .bool (g k).i, .string (g k).w, .slice TL (g k).l.length cl] := by rw [hv]; exact Qb.new _ _ _
   clear hv
   generalize wo.heap.size = b3 at *
   clear c0 c1 c2 c3 c4 c5 c6
   replace hL := hL.ext E3
   replace hS : Zn v3 w.heap.size _ s := Q5 hS E3
   replace hE := hE.trans E3
   clear E3
   have NA := fun h1 h2 => Qcj (.slice AS s.length cs) (.slice TL (g k).l.length cl) s (g k).l v3 h1 h2
   have NB := fun h1 h2 => Qbg (.slice AS s.length cs) (.slice TL (g k).l.length cl) s (g k).l v3 h1 h2
   obtain ⟨q0, q1, q2, q3, q4, q5, q6⟩ := Yg H3
   have lq := H3.lt
   cases hi : (g k).i
   ·have NX := NB (Yf hS) hL
    rw [hi] at HS
    have HS2 : Hid (SD = if Z4 (-1) s (g k).l ≠ 0 then ([], Z4 (-1) s (g k).l) else Zm (Jt (-1) s (g k).l) (d.drop (k + 1))) := HS
    rw [hi] at q4
    clear HS hi
    generalize hce : Z4 (-1) s (g k).l = E1 at *
    generalize Jt (-1) s (g k).l = L1 at *
    by_cases e0 : E1 = 0
    ·subst e0
     have HS3 := Lib.hid (HS2.out.trans (if_neg (by simp)))
     clear HS2 hce
     go_wp2_with (first | (go_at_call 67; (with_reducible refine Calls.mono (NX) ?_); rintro e w6 ⟨F6, k6, m6, rfl, h6, L6⟩) | (go_at_fn 67; (with_reducible refine Calls.mono (NX) ?_); rintro e w6 ⟨F6, k6, m6, rfl, h6, L6⟩))
     exact ⟨⟨k + 1, L1, by omega, by go_num, Yc L6 hE.size, Lib.hid (hrun.out.trans HS3.out), hE.trans h6⟩, by simp [intOf]; omega⟩
    ·have g0 : (E1 == 0) = false := beq_eq_false_iff_ne.2 e0
     have g0n : (E1 != 0) = true := by rw [bne, g0]; rfl
     have HS3 := Lib.hid (hrun.out.trans (HS2.out.trans (if_pos e0)))
     clear HS2 hrun hce e0
     go_wp2_with (first | (go_at_call 67; (with_reducible refine Calls.mono (NX) ?_); rintro e w6 ⟨F6, k6, m6, rfl, h6, L6⟩) | (go_at_fn 67; (with_reducible refine Calls.mono (NX) ?_); rintro e w6 ⟨F6, k6, m6, rfl, h6, L6⟩))
     go_ret2
     exact ⟨_, by rw [HS3.out]; rfl, hE.trans h6, by rw [HS3.out]; exact Ng _ _⟩
   ·have NX := NA (Yf hS) hL
    rw [hi] at HS
    have HS2 : Hid (SD = if Z4 1 s (g k).l ≠ 0 then ([], Z4 1 s (g k).l) else Zm (Jt 1 s (g k).l) (d.drop (k + 1))) := HS
    rw [hi] at q4
    clear HS hi
    generalize hce : Z4 1 s (g k).l = E1 at *
    generalize Jt 1 s (g k).l = L1 at *
    by_cases e0 : E1 = 0
    ·subst e0
     have HS3 := Lib.hid (HS2.out.trans (if_neg (by simp)))
     clear HS2 hce
     go_wp2_with (first | (go_at_call 54; (with_reducible refine Calls.mono (NX) ?_); rintro e w6 ⟨F6, k6, m6, rfl, h6, L6⟩) | (go_at_fn 54; (with_reducible refine Calls.mono (NX) ?_); rintro e w6 ⟨F6, k6, m6, rfl, h6, L6⟩))
     exact ⟨⟨k + 1, L1, by omega, by go_num, Yc L6 hE.size, Lib.hid (hrun.out.trans HS3.out), hE.trans h6⟩, by simp [intOf]; omega⟩
    ·have g0 : (E1 == 0) = false := beq_eq_false_iff_ne.2 e0
     have g0n : (E1 != 0) = true := by rw [bne, g0]; rfl
     have HS3 := Lib.hid (hrun.out.trans (HS2.out.trans (if_pos e0)))
     clear HS2 hrun hce e0
     go_wp2_with (first | (go_at_call 54; (with_reducible refine Calls.mono (NX) ?_); rintro e w6 ⟨F6, k6, m6, rfl, h6, L6⟩) | (go_at_fn 54; (with_reducible refine Calls.mono (NX) ?_); rintro e w6 ⟨F6, k6, m6, rfl, h6, L6⟩))
     go_ret2
     exact ⟨_, by rw [HS3.out]; rfl, hE.trans h6, by rw [HS3.out]; exact Ng _ _⟩
  ·obtain rfl : k = n := by omega
   have hr : Hid (R = (s, 0)) := by
    unfold Hid
    rw [hrun.out, hnl.out, List.drop_length]; rfl
   clear hrun hdr hat hR
   go_wp2
   go_ret2
   exact ⟨_, by rw [hr.out]; rfl, hE, by rw [hr.out]; exact hS⟩
theorem Iu (v1 v2 : Value) (a b : List Lt) (w : World) (h1 : Zp w v1 a) (h2 : Zp w v2 b) :
  Calls Tryz.prog 57 #[v1, v2] w fun e w' => ∃ F k m, e = .returned (.tuple #[.slice F k m, .int .i64 (Z4 1 a b)]) ∧ Qa w w' ∧ Zn w' w.heap.size (.slice F k m) (Jt 1 a b) := by
 obtain ⟨T, cap, rfl, hT, hcap, hmax, _⟩ := h1
 obtain ⟨S, cm, rfl, hS, hcm, hmm, _⟩ := h2
 refine Calls.mono (Qbm T a.length cap (Za a) S b.length cm (Za b) w hT hcap (Nat.le_trans hcap (Nat.le_trans hmax (by decide))) hS hcm (Nat.le_trans hcm (Nat.le_trans hmm (by decide)))) ?_
 rintro e w' ⟨F, k, c, rfl, hx, ho⟩
 exact ⟨F, k, c, rfl, hx, Mp ho⟩
theorem Ei (v1 v2 : Value) (a b : List Lt) (w : World) (h1 : Zp w v1 a) (h2 : Zp w v2 b) :
  Calls Tryz.prog 68 #[v1, v2] w fun e w' => ∃ F k m, e = .returned (.tuple #[.slice F k m, .int .i64 (Z4 (-1) a b)]) ∧ Qa w w' ∧ Zn w' w.heap.size (.slice F k m) (Jt (-1) a b) := by
 obtain ⟨T, cap, rfl, hT, hcap, hmax, _⟩ := h1
 obtain ⟨S, cm, rfl, hS, hcm, hmm, _⟩ := h2
 refine Calls.mono (Ek T a.length cap (Za a) S b.length cm (Za b) w hT hcap (Nat.le_trans hcap (Nat.le_trans hmax (by decide))) hS hcm (Nat.le_trans hcm (Nat.le_trans hmm (by decide)))) ?_
 rintro e w' ⟨F, k, c, rfl, hx, ho⟩
 exact ⟨F, k, c, rfl, hx, Mp ho⟩
theorem Qed (p : Pd) (vo vd vc : Value) (w : World) (hP : Jj w p vo vd vc) (hsz : p.o.length * 24 ≤ 140737488351232) :
  Calls Tryz.prog 30 #[.agg #[.string p.h, .int .i64 p.a.y, .int .i64 p.a.m, .bool p.a.s, .int .i64 p.a.d, .int .i64 p.b.y, .int .i64 p.b.m, .bool p.b.s, .int .i64 p.b.d, vo, vd, vc]] w fun e w' => ∃ v', e = .returned (.tuple #[v', .int .i64 (Zm p.o p.d).2]) ∧ Qa w w' ∧ Zn w' w.heap.size v' (Zm p.o p.d).1 := by
 obtain ⟨hO, hDD, hCC⟩ := hP
 obtain ⟨T0, cc0, rfl, _⟩ := id hO
 obtain ⟨T1, cc1, rfl, _⟩ := id hCC
 obtain ⟨D, cap, vs, rfl, hD, hcap, hmax, _, hat⟩ := hDD
 have hn : p.d.length ≤ 9223372036854775807 := Nat.le_trans hcap (Nat.le_trans hmax (by decide))
 obtain ⟨n, hnl⟩ := Qg (p.d.length)
 rw [← hnl] at hn hD hat hcap
 replace hnl := Lib.hid hnl
 obtain ⟨R, hR⟩ := Qg (Zm p.o p.d)
 rw [← hR]
 replace hR := Lib.hid hR
 have NC := fun w h => Vo (.slice T0 p.o.length cc0) p.o w h hsz
 rw [← hnl.out]
 go_enter Tryz.func30, Tryz.ntmps30
 go_upto_region 1 with (fail)
 obtain ⟨v, hv⟩ := Qg (w.alloc (.cells #[.string p.h, .int .i64 p.a.y, .int .i64 p.a.m, .bool p.a.s, .int .i64 p.a.d, .int .i64 p.b.y, .int .i64 p.b.m, .bool p.b.s, .int .i64 p.b.d, .slice T0 p.o.length cc0, .slice D n cap, .slice T1 p.c.length cc1] 31))
 rw [← hv]
 have E : Qa w v := by rw [hv]; exact (Qa.refl _).alloc _
 have B1 : Qb v w.heap.size 31 #[.string p.h, .int .i64 p.a.y, .int .i64 p.a.m, .bool p.a.s, .int .i64 p.a.d, .int .i64 p.b.y, .int .i64 p.b.m, .bool p.b.s, .int .i64 p.b.d, .slice T0 p.o.length cc0, .slice D n cap, .slice T1 p.c.length cc1] := by rw [hv]; exact (Qb.new _ _ _)
 clear hv
 obtain ⟨b1, hb1⟩ := Qg (w.heap.size)
 rw [← hb1] at B1 ⊢
 have hbr : w.heap.size ≤ b1 := by omega
 clear hb1
 obtain ⟨k0, k1, k2, k3, k4, k5, k6, k7, k8, k9, k10, k11⟩ := B1.c12
 have kl := B1.lt
 have O1 := hO.ext E
 go_upto_region 2 with (go_at_call 20; (with_reducible refine Calls.mono (NC _ O1) ?_); rintro e w1 ⟨v0, rfl, h1, hS0⟩)
 replace hS0 : Zn w1 w.heap.size v0 p.o := Yc hS0 E.size
 obtain ⟨F0, m0, hv0⟩ := Z5 hS0
 subst hv0
 clear k0 k1 k2 k3 k4 k5 k6 k7 k8 k9 k10 k11 kl
 replace E := E.trans h1
 replace B1 := B1.ext h1
 clear h1 NC O1 hO hCC
 obtain ⟨g, hg⟩ := Qg (fun i => p.d.getD i Qx)
 have hg' : ∀ i, p.d.getD i Qx = g i := fun i => by rw [hg]
 have hdr : Hid (∀ s k, k < n → Zm s (p.d.drop k) = if Z4 (Yt (g k).i) s (g k).l ≠ 0 then ([], Z4 (Yt (g k).i) s (g k).l) else Zm (Jt (Yt (g k).i) s (g k).l) (p.d.drop (k + 1))) := fun s k hk => by
  rw [Gw s (by rw [← hnl.out]; exact hk), hg']
 simp only [hg'] at hD hat
 clear hg hg'
 replace hat := Lib.hid hat
 have hD1 := hD.ext E
 go_upto_region 3 with (fail)
 go_loopw [4, 5] (fun sv iv wr => ∃ (k : Nat) (s : List Lt), k ≤ n ∧ iv = .int .i64 k ∧ Zn wr w.heap.size sv s ∧ Hid (R = Zm s (p.d.drop k)) ∧ Qa w1 wr) (fun _ i _ => n - (intOf i).toNat)
 case atStart => exact ⟨0, p.o, Nat.zero_le _, rfl, hS0, by unfold Hid; rw [hR.out]; rfl, Qa.refl _⟩
 case round =>
  clear hS0
  obtain ⟨k, s, hk, rfl, hS, hrun, hE⟩ := hrel
  obtain ⟨wo, rfl⟩ := Qg wr
  have B := B1.ext hE
  obtain ⟨k0, k1, k2, k3, k4, k5, k6, k7, k8, k9, k10, k11⟩ := B.c12
  have kl := B.lt
  obtain ⟨AS, cs, hsv⟩ := Z5 hS
  subst hsv
  by_cases hlt : k < n
  ·obtain ⟨b, off, rfl, hb, hc⟩ := (hD1.ext hE) (by omega)
   have hL := (hat.out k hlt).ext (E.trans hE)
   have c4 : wo.cell? ⟨b, off + k * 7 + 4, none⟩ = some (.bool (g k).i) := by simpa [Qq] using hc k 4 _ hlt rfl
   have c6 : wo.cell? ⟨b, off + k * 7 + 6, none⟩ = some (vs k) := by simpa [Qq] using hc k 6 _ hlt rfl
   have HS := Lib.hid (hdr.out s k hlt)
   obtain ⟨VL, hvl⟩ := Qg (vs k)
   rw [← hvl] at c6 hL
   clear hvl hc hdr hat hR hD hD1
   obtain ⟨TL, cl, hVL, _⟩ := id hL
   subst hVL
   obtain ⟨SD, hSD⟩ := Qg (Zm s (p.d.drop k))
   rw [← hSD] at HS hrun
   clear hSD
   have hSA := Yf hS
   cases hi : (g k).i
   ·skip
    have NX := fun w h1 h2 => Ei (.slice AS s.length cs) (.slice TL (g k).l.length cl) s (g k).l w h1 h2
    rw [hi] at HS
    have HS2 : Hid (SD = if Z4 (-1) s (g k).l ≠ 0 then ([], Z4 (-1) s (g k).l) else Zm (Jt (-1) s (g k).l) (p.d.drop (k + 1))) := HS
    rw [hi] at c4
    clear HS hi
    generalize hce : Z4 (-1) s (g k).l = E1 at *
    generalize Jt (-1) s (g k).l = L1 at *
    by_cases e0 : E1 = 0
    ·subst e0
     have HS3 := Lib.hid (HS2.out.trans (if_neg (by simp)))
     clear HS2 hce
     go_wp2_with (go_at_call 68; (with_reducible refine Calls.mono (NX _ hSA hL) ?_); rintro e w6 ⟨F6, k6', m6, rfl, h6, L6⟩)
     exact ⟨⟨k + 1, L1, by omega, by go_num, Yc L6 (Nat.le_trans E.size hE.size), Lib.hid (hrun.out.trans HS3.out), hE.trans h6⟩, by simp [intOf]; omega⟩
    ·have g0 : (E1 == 0) = false := beq_eq_false_iff_ne.2 e0
     have g0n : (E1 != 0) = true := by rw [bne, g0]; rfl
     have HS3 := Lib.hid (hrun.out.trans (HS2.out.trans (if_pos e0)))
     clear HS2 hrun hce e0
     go_wp2_with (go_at_call 68; (with_reducible refine Calls.mono (NX _ hSA hL) ?_); rintro e w6 ⟨F6, k6', m6, rfl, h6, L6⟩)
     go_ret2
     exact ⟨_, by rw [HS3.out]; rfl, E.trans (hE.trans h6), by rw [HS3.out]; exact Ng _ _⟩
   ·skip
    have NX := fun w h1 h2 => Iu (.slice AS s.length cs) (.slice TL (g k).l.length cl) s (g k).l w h1 h2
    rw [hi] at HS
    have HS2 : Hid (SD = if Z4 (1) s (g k).l ≠ 0 then ([], Z4 (1) s (g k).l) else Zm (Jt (1) s (g k).l) (p.d.drop (k + 1))) := HS
    rw [hi] at c4
    clear HS hi
    generalize hce : Z4 (1) s (g k).l = E1 at *
    generalize Jt (1) s (g k).l = L1 at *
    by_cases e0 : E1 = 0
    ·subst e0
     have HS3 := Lib.hid (HS2.out.trans (if_neg (by simp)))
     clear HS2 hce
     go_wp2_with (go_at_call 57; (with_reducible refine Calls.mono (NX _ hSA hL) ?_); rintro e w6 ⟨F6, k6', m6, rfl, h6, L6⟩)
     exact ⟨⟨k + 1, L1, by omega, by go_num, Yc L6 (Nat.le_trans E.size hE.size), Lib.hid (hrun.out.trans HS3.out), hE.trans h6⟩, by simp [intOf]; omega⟩
    ·have g0 : (E1 == 0) = false := beq_eq_false_iff_ne.2 e0
     have g0n : (E1 != 0) = true := by rw [bne, g0]; rfl
     have HS3 := Lib.hid (hrun.out.trans (HS2.out.trans (if_pos e0)))
     clear HS2 hrun hce e0
     go_wp2_with (go_at_call 57; (with_reducible refine Calls.mono (NX _ hSA hL) ?_); rintro e w6 ⟨F6, k6', m6, rfl, h6, L6⟩)
     go_ret2
     exact ⟨_, by rw [HS3.out]; rfl, E.trans (hE.trans h6), by rw [HS3.out]; exact Ng _ _⟩
  ·obtain rfl : k = n := by omega
   have hr : Hid (R = (s, 0)) := by
    unfold Hid
    rw [hrun.out, hnl.out, List.drop_length]; rfl
   clear hrun hdr hat hR
   go_wp2
   go_ret2
   exact ⟨_, by rw [hr.out]; rfl, E.trans hE, by rw [hr.out]; exact hS⟩
end
section
def Jl : Pd := ⟨⟨#[]⟩, ⟨0, 0, false, 0⟩, ⟨0, 0, false, 0⟩, [], [], []⟩
/-- How many of the first deals are not after a day. -/
def Qf.cutK (c : Qf) (n : Int) : List Dl → Nat
 | [] => 0
 | d :: r => if c.numV d.on ≤ n then c.cutK n r + 1 else 0
def Qf.divX (c : Qf) (p : Pd) (d : Dt) : Pd := ⟨p.h, p.a, d, p.o, p.d.take (c.cutK (c.numV d) p.d), (Zm p.o (p.d.take (c.cutK (c.numV d) p.d))).1⟩
def Qf.divY (c : Qf) (p : Pd) (d : Dt) : Pd := ⟨p.h, c.addV d 1, p.b, (Zm p.o (p.d.take (c.cutK (c.numV d) p.d))).1, p.d.drop (c.cutK (c.numV d) p.d), p.c⟩
def Qf.divE (c : Qf) (p : Pd) (d : Dt) : Int :=
 if c.perE p ≠ 0 then c.perE p else if c.numV d = 0 then 71 else if c.numV d < c.numV p.a ∨ c.numV p.b ≤ c.numV d then 8 else (Zm p.o (p.d.take (c.cutK (c.numV d) p.d))).2
def Qf.divP (c : Qf) (p : Pd) (d : Dt) : Pd × Pd := if c.divE p d ≠ 0 then (Jl, Jl) else (c.divX p d, c.divY p d)
theorem Gx (c : Qf) (n : Int) : ∀ l, c.cutK n l ≤ l.length
 | [] => Nat.le_refl _
 | d :: r => by
  have := Gx c n r
  unfold Qf.cutK
  split <;> simp <;> omega
theorem Qbu (c : Qf) (n : Int) (l : List Dl) {k : Nat} (hk : k < l.length) : c.cutK n (l.drop k) = if c.numV (l.getD k Qx).on ≤ n then c.cutK n (l.drop (k + 1)) + 1 else 0 := by
 rw [List.drop_eq_getElem_cons hk]
 simp [Qf.cutK, List.getD_eq_getElem?_getD, hk]
theorem Fh {c : Qf} {p : Pd} (h : c.perE p = 0) : c.valid = true ∧ c.perOk p = true := by
 unfold Qf.perE at h
 by_cases hv : c.valid = true
 ·rw [if_pos hv] at h
  by_cases hp : c.perOk p = true
  ·exact ⟨hv, hp⟩
  ·rw [if_neg hp] at h; exact absurd h (by decide)
 ·rw [if_neg hv] at h; exact absurd h (by decide)
/-- What a valid period says. -/
structure Vb (c : Qf) (p : Pd) : Prop where
 a0 : 0 < c.numV p.a
 ab : c.numV p.a ≤ c.numV p.b
 o : p.o.length ≤ 64
 k : p.c.length ≤ 64
 d : p.d.length ≤ 64
 l : ∀ i, i < p.d.length → (p.d.getD i Qx).l.length ≤ 64
 lo : ∀ i, i < p.d.length → c.lastD p i ≤ c.numV (p.d.getD i Qx).on
 hi : ∀ i, i < p.d.length → c.numV (p.d.getD i Qx).on ≤ c.numV p.b
theorem Om {l : List Lt} (h : Yq l = 0) : l.length ≤ 64 := by
 unfold Yq Jh at h
 split at h
 ·exact absurd h (by decide)
 ·omega
theorem pdOk {c : Qf} {p : Pd} (h : c.perOk p = true) : Vb c p := by
 unfold Qf.perOk at h
 rw [Bool.and_eq_true] at h
 obtain ⟨h1, h2⟩ := h
 unfold Qf.perHead Qf.spanV at h1
 simp only [Bool.and_eq_true, decide_eq_true_eq] at h1
 have h3 : ∀ i, i < p.d.length → c.dealOk p i = true := fun i hi => List.all_eq_true.1 h2 i (by simpa using hi)
 have h4 : ∀ i, i < p.d.length → c.lastD p i ≤ c.numV (p.dl i).on ∧ c.numV (p.dl i).on ≤ c.numV p.b ∧ Xm (p.dl i).l = true := fun i hi => by
  have := h3 i hi
  unfold Qf.dealOk at this
  simp only [Bool.not_eq_true', Bool.or_eq_false_iff, decide_eq_false_iff_not, Bool.not_eq_false'] at this
  exact ⟨by omega, by omega, this.2⟩
 exact ⟨h1.1.1.1.2.1, h1.1.1.1.2.2, Om h1.1.1.2, Om h1.1.2, h1.2, fun i hi => Om (Aq.1 (h4 i hi).2.2).2.1, fun i hi => (h4 i hi).1, fun i hi => (h4 i hi).2.1⟩
theorem Vb.pos {c : Qf} {p : Pd} (h : Vb c p) : ∀ i, i < p.d.length → 0 < c.numV (p.d.getD i Qx).on
 | 0, hi => by
  have h1 : c.numV p.a ≤ c.numV (p.d.getD 0 Qx).on := h.lo 0 hi
  have := h.a0
  omega
 | i + 1, hi => by
  have h1 := h.pos i (by omega)
  have h2 : c.numV (p.d.getD i Qx).on ≤ c.numV (p.d.getD (i + 1) Qx).on := h.lo (i + 1) hi
  omega
theorem Vb.mono {c : Qf} {p : Pd} (h : Vb c p) : ∀ {i j}, i ≤ j → j < p.d.length → c.numV (p.d.getD i Qx).on ≤ c.numV (p.d.getD j Qx).on
 | i, 0, hij, hj => by obtain rfl : i = 0 := by omega
                       exact Int.le_refl _
 | i, j + 1, hij, hj => by
  by_cases e : i = j + 1
  ·subst e; exact Int.le_refl _
  ·have h1 := h.mono (i := i) (j := j) (by omega) (by omega)
   have h2 : c.numV (p.d.getD j Qx).on ≤ c.numV (p.d.getD (j + 1) Qx).on := h.lo (j + 1) hj
   omega
theorem Vb.sorted {c : Qf} {p : Pd} (h : Vb c p) : p.d.Pairwise (fun a b => c.numV a.on ≤ c.numV b.on) := by
 rw [List.pairwise_iff_getElem]
 intro i j hi hj hij
 have := h.mono (i := i) (j := j) (by omega) hj
 simpa [List.getD_eq_getElem?_getD, hi, hj] using this
theorem Gu : ∀ (d : List Dl) (s : List Lt), s.length ≤ 64 → (Zm s d).1.length ≤ 64
 | [], s, h => h
 | x :: r, s, h => by
  unfold Zm
  split
  ·simp
  ·exact Gu r _ (Qfj _ _ _ _ _)
theorem Lo {α : Type} (z : α) (l : List α) {k i : Nat} (h : i < k) : (l.take k).getD i z = l.getD i z := by simp [List.getD_eq_getElem?_getD, h]
theorem Ol {α : Type} (z : α) (l : List α) (k i : Nat) : (l.drop k).getD i z = l.getD (k + i) z := by simp [List.getD_eq_getElem?_getD, List.getElem?_drop]
theorem Dx {c : Qf} {p : Pd} {d : Dt} {e : Int} (h : c.perE p = e) (h0 : e ≠ 0) : c.divE p d = e ∧ c.divP p d = (Jl, Jl) := by
 have h1 : c.divE p d = e := by unfold Qf.divE; rw [h, if_pos h0]
 exact ⟨h1, by unfold Qf.divP; rw [h1, if_pos h0]⟩
theorem Rb {c : Qf} {p : Pd} {d : Dt} (h : c.perE p = 0) (h0 : c.numV d = 0) : c.divE p d = 71 ∧ c.divP p d = (Jl, Jl) := by
 have h1 : c.divE p d = 71 := by unfold Qf.divE; rw [if_neg (by simpa using h), if_pos h0]
 exact ⟨h1, by unfold Qf.divP; rw [h1, if_pos (by decide)]⟩
theorem N7 {c : Qf} {p : Pd} {d : Dt} (h : c.perE p = 0) (h0 : c.numV d ≠ 0) (h2 : c.numV d < c.numV p.a ∨ c.numV p.b ≤ c.numV d) : c.divE p d = 8 ∧ c.divP p d = (Jl, Jl) := by
 have h1 : c.divE p d = 8 := by unfold Qf.divE; rw [if_neg (by simpa using h), if_neg h0, if_pos h2]
 exact ⟨h1, by unfold Qf.divP; rw [h1, if_pos (by decide)]⟩
theorem Cm {c : Qf} {p : Pd} {d : Dt} (h : c.perE p = 0) (h0 : c.numV d ≠ 0) (h2 : ¬ (c.numV d < c.numV p.a ∨ c.numV p.b ≤ c.numV d)) : c.divE p d = (Zm p.o (p.d.take (c.cutK (c.numV d) p.d))).2 := by
 unfold Qf.divE; rw [if_neg (by simpa using h), if_neg h0, if_neg h2]
instance : DecidableEq Lt := fun a b => if h : a.g = b.g ∧ a.n = b.n then .isTrue (by cases a; cases b; simp_all) else .isFalse (fun e => h ⟨by rw [e], by rw [e]⟩)
end
section
open Go Go.RowKit Go.Shelf
attribute [local go_sem] Zt
theorem Xu {W : World} {b i : Nat} {t : TypeId} {cs : Array Value} {u : Value} (h : Qb W b t cs) (hi : cs[i]? = some u) : W.setCell ⟨b, i, none⟩ u = W := by
 unfold Qb at h
 obtain ⟨hi1, hi2⟩ := Array.getElem?_eq_some_iff.1 hi
 cases W with
 | mk heap tape drawn os output =>
  unfold World.setCell
  simp only at h ⊢
  congr 1
  apply Array.ext_getElem?
  intro j
  rw [Array.getElem?_modify]
  split
  ·rename_i hj
   subst hj
   rw [h]
   simp [Array.setIfInBounds, hi1, ← hi2]
  ·rfl
theorem Jz {W : World} {b : Nat} {t : TypeId} {u0 u1 u2 u3 u4 u5 u6 u7 u8 u9 u10 u11 : Value} (h : Qb W b t #[u0, u1, u2, u3, u4, u5, u6, u7, u8, u9, u10, u11]) : ((((((((((((W.setCell ⟨b, 0, none⟩ u0).setCell ⟨b, 1, none⟩ u1).setCell ⟨b, 2, none⟩ u2).setCell ⟨b, 3, none⟩ u3).setCell ⟨b, 4, none⟩ u4).setCell ⟨b, 5, none⟩ u5).setCell ⟨b, 6, none⟩ u6).setCell ⟨b, 7, none⟩ u7).setCell ⟨b, 8, none⟩ u8).setCell ⟨b, 9, none⟩ u9).setCell ⟨b, 10, none⟩ u10).setCell ⟨b, 11, none⟩ u11) = W := by
 rw [Xu (i := 0) (u := u0) h rfl, Xu (i := 1) (u := u1) h rfl, Xu (i := 2) (u := u2) h rfl, Xu (i := 3) (u := u3) h rfl, Xu (i := 4) (u := u4) h rfl, Xu (i := 5) (u := u5) h rfl, Xu (i := 6) (u := u6) h rfl, Xu (i := 7) (u := u7) h rfl, Xu (i := 8) (u := u8) h rfl, Xu (i := 9) (u := u9) h rfl, Xu (i := 10) (u := u10) h rfl, Xu (i := 11) (u := u11) h rfl]
theorem Qdm {W : World} {b : Nat} {t : TypeId} {v0 v1 v2 v3 v4 v5 v6 v7 v8 v9 v10 v11 : Value} (h : Qb W b t #[v0, v1, v2, v3, v4, v5, v6, v7, v8, v9, v10, v11]) (u0 u1 u2 u3 u4 u5 u6 u7 u8 u9 u10 u11 : Value) : Qb ((((((((((((W.setCell ⟨b, 0, none⟩ u0).setCell ⟨b, 1, none⟩ u1).setCell ⟨b, 2, none⟩ u2).setCell ⟨b, 3, none⟩ u3).setCell ⟨b, 4, none⟩ u4).setCell ⟨b, 5, none⟩ u5).setCell ⟨b, 6, none⟩ u6).setCell ⟨b, 7, none⟩ u7).setCell ⟨b, 8, none⟩ u8).setCell ⟨b, 9, none⟩ u9).setCell ⟨b, 10, none⟩ u10).setCell ⟨b, 11, none⟩ u11) b t #[u0, u1, u2, u3, u4, u5, u6, u7, u8, u9, u10, u11] := by unfold Qb at h ⊢; simp [World.setCell, Array.getElem?_modify, h]
theorem ext12Q {w W : World} {b : Nat} (h : Qa w W) (hb : w.heap.size ≤ b) (u0 u1 u2 u3 u4 u5 u6 u7 u8 u9 u10 u11 : Value) : Qa w ((((((((((((W.setCell ⟨b, 0, none⟩ u0).setCell ⟨b, 1, none⟩ u1).setCell ⟨b, 2, none⟩ u2).setCell ⟨b, 3, none⟩ u3).setCell ⟨b, 4, none⟩ u4).setCell ⟨b, 5, none⟩ u5).setCell ⟨b, 6, none⟩ u6).setCell ⟨b, 7, none⟩ u7).setCell ⟨b, 8, none⟩ u8).setCell ⟨b, 9, none⟩ u9).setCell ⟨b, 10, none⟩ u10).setCell ⟨b, 11, none⟩ u11) := ((((((((((((h.setCell (p := ⟨b, 0, none⟩) hb u0).setCell (p := ⟨b, 1, none⟩) hb u1).setCell (p := ⟨b, 2, none⟩) hb u2).setCell (p := ⟨b, 3, none⟩) hb u3).setCell (p := ⟨b, 4, none⟩) hb u4).setCell (p := ⟨b, 5, none⟩) hb u5).setCell (p := ⟨b, 6, none⟩) hb u6).setCell (p := ⟨b, 7, none⟩) hb u7).setCell (p := ⟨b, 8, none⟩) hb u8).setCell (p := ⟨b, 9, none⟩) hb u9).setCell (p := ⟨b, 10, none⟩) hb u10).setCell (p := ⟨b, 11, none⟩) hb u11)
theorem oth12Q {W : World} {b b' : Nat} {t : TypeId} {cs : Array Value} (h : Qb W b' t cs) (hne : b' ≠ b) (u0 u1 u2 u3 u4 u5 u6 u7 u8 u9 u10 u11 : Value) : Qb ((((((((((((W.setCell ⟨b, 0, none⟩ u0).setCell ⟨b, 1, none⟩ u1).setCell ⟨b, 2, none⟩ u2).setCell ⟨b, 3, none⟩ u3).setCell ⟨b, 4, none⟩ u4).setCell ⟨b, 5, none⟩ u5).setCell ⟨b, 6, none⟩ u6).setCell ⟨b, 7, none⟩ u7).setCell ⟨b, 8, none⟩ u8).setCell ⟨b, 9, none⟩ u9).setCell ⟨b, 10, none⟩ u10).setCell ⟨b, 11, none⟩ u11) b' t cs := (Qh (Qh (Qh (Qh (Qh (Qh (Qh (Qh (Qh (Qh (Qh (Qh h hne 0 u0) hne 1 u1) hne 2 u2) hne 3 u3) hne 4 u4) hne 5 u5) hne 6 u6) hne 7 u7) hne 8 u8) hne 9 u9) hne 10 u10) hne 11 u11)
theorem G3 {W : World} {b : Nat} {t e : TypeId} {v0 v1 v2 v3 v4 v5 v6 v7 v8 v9 v10 v11 : Value} (h : Qb W b t #[v0, v1, v2, v3, v4, v5, v6, v7, v8, v9, v10, v11]) (hte : t ≠ e) {base size k : Nat} {v : Value} {xs : List Value} (hr : W.ownsRow base e size v k xs) (u0 u1 u2 u3 u4 u5 u6 u7 u8 u9 u10 u11 : Value) : (((((((((((((W.setCell ⟨b, 0, none⟩ u0).setCell ⟨b, 1, none⟩ u1).setCell ⟨b, 2, none⟩ u2).setCell ⟨b, 3, none⟩ u3).setCell ⟨b, 4, none⟩ u4).setCell ⟨b, 5, none⟩ u5).setCell ⟨b, 6, none⟩ u6).setCell ⟨b, 7, none⟩ u7).setCell ⟨b, 8, none⟩ u8).setCell ⟨b, 9, none⟩ u9).setCell ⟨b, 10, none⟩ u10).setCell ⟨b, 11, none⟩ u11)).ownsRow base e size v k xs := by
 have T0 := h
 have T1 : Qb _ _ _ #[u0, v1, v2, v3, v4, v5, v6, v7, v8, v9, v10, v11] := Jk T0 0 u0
 have R1 := Zg T0 hte hr 0 u0
 have T2 : Qb _ _ _ #[u0, u1, v2, v3, v4, v5, v6, v7, v8, v9, v10, v11] := Jk T1 1 u1
 have R2 := Zg T1 hte R1 1 u1
 have T3 : Qb _ _ _ #[u0, u1, u2, v3, v4, v5, v6, v7, v8, v9, v10, v11] := Jk T2 2 u2
 have R3 := Zg T2 hte R2 2 u2
 have T4 : Qb _ _ _ #[u0, u1, u2, u3, v4, v5, v6, v7, v8, v9, v10, v11] := Jk T3 3 u3
 have R4 := Zg T3 hte R3 3 u3
 have T5 : Qb _ _ _ #[u0, u1, u2, u3, u4, v5, v6, v7, v8, v9, v10, v11] := Jk T4 4 u4
 have R5 := Zg T4 hte R4 4 u4
 have T6 : Qb _ _ _ #[u0, u1, u2, u3, u4, u5, v6, v7, v8, v9, v10, v11] := Jk T5 5 u5
 have R6 := Zg T5 hte R5 5 u5
 have T7 : Qb _ _ _ #[u0, u1, u2, u3, u4, u5, u6, v7, v8, v9, v10, v11] := Jk T6 6 u6
 have R7 := Zg T6 hte R6 6 u6
 have T8 : Qb _ _ _ #[u0, u1, u2, u3, u4, u5, u6, u7, v8, v9, v10, v11] := Jk T7 7 u7
 have R8 := Zg T7 hte R7 7 u7
 have T9 : Qb _ _ _ #[u0, u1, u2, u3, u4, u5, u6, u7, u8, v9, v10, v11] := Jk T8 8 u8
 have R9 := Zg T8 hte R8 8 u8
 have T10 : Qb _ _ _ #[u0, u1, u2, u3, u4, u5, u6, u7, u8, u9, v10, v11] := Jk T9 9 u9
 have R10 := Zg T9 hte R9 9 u9
 have T11 : Qb _ _ _ #[u0, u1, u2, u3, u4, u5, u6, u7, u8, u9, u10, v11] := Jk T10 10 u10
 have R11 := Zg T10 hte R10 10 u10
 have T12 : Qb _ _ _ #[u0, u1, u2, u3, u4, u5, u6, u7, u8, u9, u10, u11] := Jk T11 11 u11
 have R12 := Zg T11 hte R11 11 u11
 exact R12
theorem Qbq {W : World} {b : Nat} {t : TypeId} {v0 v1 v2 v3 v4 v5 v6 v7 v8 v9 v10 v11 : Value} (h : Qb W b t #[v0, v1, v2, v3, v4, v5, v6, v7, v8, v9, v10, v11]) (h1 : t ≠ 68) (h2 : t ≠ 70) {base n : Nat} {v : Value} {g : Nat → Dl} (hr : Zc W base v n g) (u0 u1 u2 u3 u4 u5 u6 u7 u8 u9 u10 u11 : Value) : Zc ((((((((((((W.setCell ⟨b, 0, none⟩ u0).setCell ⟨b, 1, none⟩ u1).setCell ⟨b, 2, none⟩ u2).setCell ⟨b, 3, none⟩ u3).setCell ⟨b, 4, none⟩ u4).setCell ⟨b, 5, none⟩ u5).setCell ⟨b, 6, none⟩ u6).setCell ⟨b, 7, none⟩ u7).setCell ⟨b, 8, none⟩ u8).setCell ⟨b, 9, none⟩ u9).setCell ⟨b, 10, none⟩ u10).setCell ⟨b, 11, none⟩ u11) base v n g := by
 obtain ⟨vs, g1, g2⟩ := hr
 exact ⟨vs, G3 h h2 g1 u0 u1 u2 u3 u4 u5 u6 u7 u8 u9 u10 u11, fun i hi => G3 h h1 (g2 i hi) u0 u1 u2 u3 u4 u5 u6 u7 u8 u9 u10 u11⟩
theorem Qb.f12 {W : World} {b : Nat} {t : TypeId} {cs : Array Value} (h : Qb W b t cs) : W.frozen? ⟨b, 0, none⟩ = false ∧ W.frozen? ⟨b, 1, none⟩ = false ∧ W.frozen? ⟨b, 2, none⟩ = false ∧ W.frozen? ⟨b, 3, none⟩ = false ∧ W.frozen? ⟨b, 4, none⟩ = false ∧ W.frozen? ⟨b, 5, none⟩ = false ∧ W.frozen? ⟨b, 6, none⟩ = false ∧ W.frozen? ⟨b, 7, none⟩ = false ∧ W.frozen? ⟨b, 8, none⟩ = false ∧ W.frozen? ⟨b, 9, none⟩ = false ∧ W.frozen? ⟨b, 10, none⟩ = false ∧ W.frozen? ⟨b, 11, none⟩ = false := ⟨h.frozen 0, h.frozen 1, h.frozen 2, h.frozen 3, h.frozen 4, h.frozen 5, h.frozen 6, h.frozen 7, h.frozen 8, h.frozen 9, h.frozen 10, h.frozen 11⟩
/-- A whole period stored: what stays. -/
theorem Uh {W : World} {b : Nat} {t : TypeId} {v0 v1 v2 v3 v4 v5 v6 v7 v8 v9 v10 v11 : Value} (h : Qb W b t #[v0, v1, v2, v3, v4, v5, v6, v7, v8, v9, v10, v11]) (h1 : t ≠ 68) (h2 : t ≠ 70) (u0 u1 u2 u3 u4 u5 u6 u7 u8 u9 u10 u11 : Value) : ∃ wq : World, wq = ((((((((((((W.setCell ⟨b, 0, none⟩ u0).setCell ⟨b, 1, none⟩ u1).setCell ⟨b, 2, none⟩ u2).setCell ⟨b, 3, none⟩ u3).setCell ⟨b, 4, none⟩ u4).setCell ⟨b, 5, none⟩ u5).setCell ⟨b, 6, none⟩ u6).setCell ⟨b, 7, none⟩ u7).setCell ⟨b, 8, none⟩ u8).setCell ⟨b, 9, none⟩ u9).setCell ⟨b, 10, none⟩ u10).setCell ⟨b, 11, none⟩ u11) ∧ Qb wq b t #[u0, u1, u2, u3, u4, u5, u6, u7, u8, u9, u10, u11] ∧ (∀ {base size k : Nat} {v : Value} {xs : List Value}, W.ownsRow base 68 size v k xs → wq.ownsRow base 68 size v k xs) ∧ (∀ {base n : Nat} {v : Value} {g : Nat → Dl}, Zc W base v n g → Zc wq base v n g) ∧ (∀ {b' : Nat} {t' : TypeId} {cs : Array Value}, Qb W b' t' cs → b' ≠ b → Qb wq b' t' cs) ∧ (∀ {w : World}, Qa w W → w.heap.size ≤ b → Qa w wq) :=
 ⟨_, rfl, Qdm h u0 u1 u2 u3 u4 u5 u6 u7 u8 u9 u10 u11, fun hr => G3 h h1 hr u0 u1 u2 u3 u4 u5 u6 u7 u8 u9 u10 u11, fun hr => Qbq h h1 h2 hr u0 u1 u2 u3 u4 u5 u6 u7 u8 u9 u10 u11, fun h' hne => oth12Q h' hne u0 u1 u2 u3 u4 u5 u6 u7 u8 u9 u10 u11, fun e hb => ext12Q e hb u0 u1 u2 u3 u4 u5 u6 u7 u8 u9 u10 u11⟩
def Kj (a : Option Addr) (l h m s : Nat) : Value := sliced a l h m s
theorem Qbc {P : Program} (w : World) (t : TypeId) (a : Option Addr) (len cap : Nat) (ht : P.underlying t = some (.slice (P.elem t))) (kl : IntKind) (l : Int) (h0 : 0 ≤ l) (h1 : l ≤ len) :
  (Instr.slice t (.slice a len cap) (some (.int kl l)) none none).run P w = ((sizeOf (P.elem t)).run P w).andThen fun s w => .ok (Kj a l.toNat len cap s) w := run_slice_l (P := P) w t a len cap ht kl l h0 h1
theorem Qb0 {P : Program} (w : World) (t : TypeId) (a : Option Addr) (len cap : Nat) (ht : P.underlying t = some (.slice (P.elem t))) (kl kh : IntKind) (l h : Int) (h0 : 0 ≤ l) (h1 : l ≤ h) (h2 : h ≤ cap) :
  (Instr.slice t (.slice a len cap) (some (.int kl l)) (some (.int kh h)) none).run P w = ((sizeOf (P.elem t)).run P w).andThen fun s w => .ok (Kj a l.toNat h.toNat cap s) w := run_slice_lh (P := P) w t a len cap ht kl kh l h h0 h1 h2
theorem Bs {w : World} {D : Option Addr} {n cap k m : Nat} {l : List Dl} (h : Ys w (.slice D n cap) l) (hkm : k ≤ m) (hm : m ≤ l.length) : Ys w (Kj D k m cap 7) ((l.take m).drop k) := by
 obtain ⟨D', cap', vs, e, hT, hcap, hmax, hnil, hat⟩ := h
 obtain ⟨rfl, rfl, rfl⟩ : D = D' ∧ n = l.length ∧ cap = cap' := by simpa using e
 have hl : ((l.take m).drop k).length = m - k := by simp; omega
 have hg : ∀ i, i < m - k → ((l.take m).drop k).getD i Qx = l.getD (k + i) Qx := fun i hi => by rw [Ol, Lo _ _ (by omega)]
 unfold Kj sliced
 by_cases hc : cap = k
 ·rw [if_pos hc]
  have h0 : m - k = 0 := by omega
  refine ⟨D, 0, vs, ?_, ?_, by omega, by decide, fun _ => ⟨by omega, rfl⟩, fun i hi => absurd hi (by omega)⟩
  ·rw [hl, h0, show cap - k = 0 by omega]
  ·rw [hl, h0]; exact fun h => absurd h (by omega)
 ·rw [if_neg hc]
  cases D with
  | none => obtain ⟨_, h0⟩ := hnil rfl; omega
  | some a =>
   refine ⟨some (a.add (k * 7)), cap - k, fun i => vs (k + i), ?_, ?_, by omega, by omega, fun h => (by cases h), fun i hi => ?_⟩
   ·rw [hl]; rfl
   ·rw [hl]
    intro h0
    obtain ⟨b, off, ha, hb, hc⟩ := hT (by omega)
    cases ha
    refine ⟨b, off + k * 7, congrArg some (by unfold Addr.add; split <;> simp_all), hb, fun i j v hi hv => ?_⟩
    have hv2 : (Qq (l.getD (k + i) Qx) (vs (k + i)))[j]? = some v := by rw [← hg i hi]; exact hv
    have := hc (k + i) j v (by omega) hv2
    rw [show off + k * 7 + i * 7 + j = off + (k + i) * 7 + j by omega]; exact this
   ·rw [hl] at hi
    rw [hg i hi]; exact hat (k + i) (by omega)
theorem Qe5 {w : World} {D : Option Addr} {n cap m : Nat} {l : List Dl} (h : Ys w (.slice D n cap) l) (hm : m ≤ l.length) : Ys w (.slice D m cap) (l.take m) := by
 obtain ⟨D', cap', vs, e, hT, hcap, hmax, hnil, hat⟩ := h
 obtain ⟨rfl, rfl, rfl⟩ : D = D' ∧ n = l.length ∧ cap = cap' := by simpa using e
 have hl : (l.take m).length = m := by simp; omega
 refine ⟨D, cap, vs, by rw [hl], ?_, by omega, hmax, fun h => ⟨by have := hnil h; omega, (hnil h).2⟩, fun i hi => ?_⟩
 ·rw [hl]; exact (hT.take hm).congr (fun i hi => by show Qq _ _ = Qq _ _; rw [Lo _ _ hi])
 ·rw [hl] at hi; rw [Lo _ _ hi]; exact hat i (by omega)
theorem Qdh (w : World) : Ys w (.slice none 0 0) [] := ⟨none, 0, fun _ => .slice none 0 0, rfl, Qk.nil, Nat.le_refl _, Nat.zero_le _, fun _ => ⟨rfl, rfl⟩, fun i hi => absurd hi (by simp)⟩
theorem Yh (w : World) : Jj w Jl (.slice none 0 0) (.slice none 0 0) (.slice none 0 0) := ⟨Vi w, Qdh w, Vi w⟩
end
section
open Go Go.RowKit
attribute [local go_sem] Zt Dt.val
theorem all_bd {c : Qf} (hny : c.ny ≤ 400) : 0 ≤ c.all ∧ c.all ≤ 156000 := by
 have := Ua c c.ny
 unfold Qf.all
 omega
theorem I8 {c : Qf} {d : Dt} {n : Int} (h : c.inE d = 0) : ((c.num d).1 + n < 1 ∨ c.all < (c.num d).1 + n) ∧ c.addV d n = Xt ∧ c.addE d n = 8 ∨ ¬ ((c.num d).1 + n < 1 ∨ c.all < (c.num d).1 + n) ∧ ∃ D, c.at? ((c.num d).1 + n) = some D ∧ c.addV d n = D ∧ c.addE d n = 0 := by
 unfold Qf.addV Qf.addE
 rw [if_pos h, if_pos h]
 by_cases ho : (c.num d).1 + n < 1 ∨ c.all < (c.num d).1 + n
 ·have := Gl (c := c) (n := (c.num d).1 + n) (ho.imp id (fun h => by unfold Qf.all at h; omega))
  rw [this]
  exact .inl ⟨ho, rfl, rfl⟩
 ·obtain ⟨D, hD⟩ := at_in (c := c) (n := (c.num d).1 + n) (by omega) (by rw [not_or] at ho; unfold Qf.all at ho; omega)
  rw [hD]
  exact .inr ⟨ho, D, rfl, rfl, rfl⟩
theorem Qe4 (A A' : Option Addr) (ca cb : Nat) (c : Qf) (d : Dt) (n : Int) (w : World) (hC : Qv w A ca A' cb c) (hn1 : -9223372036854775808 ≤ n) (hn2 : n ≤ 9223372036854775807) :
  Calls Tryz.prog 62 #[.agg #[.slice A c.nk ca, .slice A' c.ny cb], .agg #[.int .i64 d.y, .int .i64 d.m, .bool d.s, .int .i64 d.d], .int .i64 n] w fun e w' => e = .returned (.tuple #[(c.addV d n).val, .int .i64 (c.addE d n)]) ∧ Qa w w' := by
 have NT := fun v (h : Qv v A ca A' cb c) => Ew A A' ca cb c d d v h
 simp only [Eg] at NT
 by_cases hE : c.inE d = 0
 ·have hvh : c.valid = true ∧ c.has d = true := by rcases Lw c d with ⟨_, h⟩ | ⟨_, _, h⟩ | ⟨h1, h2, _⟩ <;> first | exact ⟨h1, h2⟩ | omega
  have N2 := fun v (h : Qv v A ca A' cb c) => Tq A A' ca cb c d v h hvh.1 hvh.2
  have N3 := fun v (h : Qv v A ca A' cb c) => Qbb A A' ca cb c v h hvh.1
  have hall := all_bd (Wx hvh.1)
  have hx := Oe hvh.2
  have hxa : 1 ≤ (c.num d).1 ∧ (c.num d).1 ≤ c.all := by unfold Qf.all; omega
  simp only [hE] at NT
  clear hx
  rcases I8 (n := n) hE with ⟨ho, hV⟩ | ⟨ho, D, hD, hV⟩
  ·have HV := Lib.hid hV
   clear hvh hE hV
   generalize (c.num d) = x at *
   generalize c.all = al at *
   obtain ⟨x1, x2⟩ := x
   simp only at ho hxa N2
   obtain ⟨xa, xb⟩ := hxa
   by_cases h1 : n < 1 - x1
   ·have h1b : decide (n < 1 - x1) = true := decide_eq_true h1
    go_enter Tryz.func62, Tryz.ntmps62
    go_upto_region 1 with (fail)
    obtain ⟨v, hv⟩ := Qg (((w.alloc (.cells #[.slice A c.nk ca, .slice A' c.ny cb] 25)).alloc (.cells #[.int .i64 d.y, .int .i64 d.m, .bool d.s, .int .i64 d.d] 27)).alloc (.cells #[.int .i64 0, .int .i64 0, .bool false, .int .i64 0] 27))
    rw [← hv]
    have E : Qa w v := by rw [hv]; exact (((Qa.refl _).alloc _).alloc _).alloc _
    have B1 : Qb v w.heap.size 25 #[.slice A c.nk ca, .slice A' c.ny cb] := by rw [hv]; exact ((Qb.new _ _ _).alloc _).alloc _
    have B2 : Qb v (w.heap.size + 1) 27 #[.int .i64 d.y, .int .i64 d.m, .bool d.s, .int .i64 d.d] := by rw [hv]; exact (Qb.at _ _ _ _ (by simp)).alloc _
    have B3 : Qb v (w.heap.size + 1 + 1) 27 #[.int .i64 0, .int .i64 0, .bool false, .int .i64 0] := by rw [hv]; exact Qb.at _ _ _ _ (by simp)
    clear hv
    have C := hC.ext E
    clear hC
    generalize hb1 : w.heap.size = b1 at *
    replace hb1 := Lib.hid hb1
    obtain ⟨k0, k1⟩ := B1.c2; have lk := B1.lt
    obtain ⟨p0, p1, p2, p3⟩ := B2.c4; have lp := B2.lt
    obtain ⟨q0, q1, q2, q3⟩ := B3.c4; have lq := B3.lt
    go_upto_region 2 with (go_at_call 96; (with_reducible refine Calls.mono (NT _ C) ?_); rintro e v2 ⟨rfl, h⟩)
    replace E := Qa.trans E h
    replace C := C.ext h
    replace B1 := B1.ext h
    replace B2 := B2.ext h
    replace B3 := B3.ext h
    clear h
    clear k0 k1 lk
    clear p0 p1 p2 p3 lp
    clear q0 q1 q2 q3 lq
    obtain ⟨k0, k1⟩ := B1.c2; have lk := B1.lt
    obtain ⟨p0, p1, p2, p3⟩ := B2.c4; have lp := B2.lt
    obtain ⟨q0, q1, q2, q3⟩ := B3.c4; have lq := B3.lt
    go_upto_region 5 with (go_at_call 95; (with_reducible refine Calls.mono (N2 _ C) ?_); rintro e v3 ⟨rfl, h⟩)
    replace E := Qa.trans E h
    replace C := C.ext h
    replace B1 := B1.ext h
    replace B2 := B2.ext h
    replace B3 := B3.ext h
    clear h
    clear k0 k1 lk
    clear p0 p1 p2 p3 lp
    clear q0 q1 q2 q3 lq
    obtain ⟨k0, k1⟩ := B1.c2; have lk := B1.lt
    obtain ⟨p0, p1, p2, p3⟩ := B2.c4; have lp := B2.lt
    obtain ⟨q0, q1, q2, q3⟩ := B3.c4; have lq := B3.lt
    have f0 := B3.frozen 0
    have f1 := B3.frozen 1
    have f2 := B3.frozen 2
    have f3 := B3.frozen 3
    go_wp2
    obtain ⟨⟨g0, g1, g2, g3⟩, gE⟩ := Wj B3 (.int .i64 0) (.int .i64 0) (.bool false) (.int .i64 0)
    refine bodyPost_ret (v := .tuple #[.agg #[.int .i64 0, .int .i64 0, .bool false, .int .i64 0], .int .i64 8]) (by simp [results, Tryz.results62, go_sem, g0, g1, g2, g3]) rfl ⟨by rw [HV.out.1, HV.out.2]; rfl, gE w E (by have := hb1.out; omega)⟩
   ·have h1b : decide (n < 1 - x1) = false := decide_eq_false h1
    have h2b : decide (al - x1 < n) = true := decide_eq_true (by omega)
    go_enter Tryz.func62, Tryz.ntmps62
    go_upto_region 1 with (fail)
    obtain ⟨v, hv⟩ := Qg (((w.alloc (.cells #[.slice A c.nk ca, .slice A' c.ny cb] 25)).alloc (.cells #[.int .i64 d.y, .int .i64 d.m, .bool d.s, .int .i64 d.d] 27)).alloc (.cells #[.int .i64 0, .int .i64 0, .bool false, .int .i64 0] 27))
    rw [← hv]
    have E : Qa w v := by rw [hv]; exact (((Qa.refl _).alloc _).alloc _).alloc _
    have B1 : Qb v w.heap.size 25 #[.slice A c.nk ca, .slice A' c.ny cb] := by rw [hv]; exact ((Qb.new _ _ _).alloc _).alloc _
    have B2 : Qb v (w.heap.size + 1) 27 #[.int .i64 d.y, .int .i64 d.m, .bool d.s, .int .i64 d.d] := by rw [hv]; exact (Qb.at _ _ _ _ (by simp)).alloc _
    have B3 : Qb v (w.heap.size + 1 + 1) 27 #[.int .i64 0, .int .i64 0, .bool false, .int .i64 0] := by rw [hv]; exact Qb.at _ _ _ _ (by simp)
    clear hv
    have C := hC.ext E
    clear hC
    generalize hb1 : w.heap.size = b1 at *
    replace hb1 := Lib.hid hb1
    obtain ⟨k0, k1⟩ := B1.c2; have lk := B1.lt
    obtain ⟨p0, p1, p2, p3⟩ := B2.c4; have lp := B2.lt
    obtain ⟨q0, q1, q2, q3⟩ := B3.c4; have lq := B3.lt
    go_upto_region 2 with (go_at_call 96; (with_reducible refine Calls.mono (NT _ C) ?_); rintro e v2 ⟨rfl, h⟩)
    replace E := Qa.trans E h
    replace C := C.ext h
    replace B1 := B1.ext h
    replace B2 := B2.ext h
    replace B3 := B3.ext h
    clear h
    clear k0 k1 lk
    clear p0 p1 p2 p3 lp
    clear q0 q1 q2 q3 lq
    obtain ⟨k0, k1⟩ := B1.c2; have lk := B1.lt
    obtain ⟨p0, p1, p2, p3⟩ := B2.c4; have lp := B2.lt
    obtain ⟨q0, q1, q2, q3⟩ := B3.c4; have lq := B3.lt
    go_upto_region 5 with (go_at_call 95; (with_reducible refine Calls.mono (N2 _ C) ?_); rintro e v3 ⟨rfl, h⟩)
    replace E := Qa.trans E h
    replace C := C.ext h
    replace B1 := B1.ext h
    replace B2 := B2.ext h
    replace B3 := B3.ext h
    clear h
    clear k0 k1 lk
    clear p0 p1 p2 p3 lp
    clear q0 q1 q2 q3 lq
    obtain ⟨k0, k1⟩ := B1.c2; have lk := B1.lt
    obtain ⟨p0, p1, p2, p3⟩ := B2.c4; have lp := B2.lt
    obtain ⟨q0, q1, q2, q3⟩ := B3.c4; have lq := B3.lt
    go_upto_region 6 with (go_at_call 97; (with_reducible refine Calls.mono (N3 _ C) ?_); rintro e v4 ⟨rfl, h⟩)
    replace E := Qa.trans E h
    replace C := C.ext h
    replace B1 := B1.ext h
    replace B2 := B2.ext h
    replace B3 := B3.ext h
    clear h
    clear k0 k1 lk
    clear p0 p1 p2 p3 lp
    clear q0 q1 q2 q3 lq
    obtain ⟨k0, k1⟩ := B1.c2; have lk := B1.lt
    obtain ⟨p0, p1, p2, p3⟩ := B2.c4; have lp := B2.lt
    obtain ⟨q0, q1, q2, q3⟩ := B3.c4; have lq := B3.lt
    have f0 := B3.frozen 0
    have f1 := B3.frozen 1
    have f2 := B3.frozen 2
    have f3 := B3.frozen 3
    go_wp2
    obtain ⟨⟨g0, g1, g2, g3⟩, gE⟩ := Wj B3 (.int .i64 0) (.int .i64 0) (.bool false) (.int .i64 0)
    refine bodyPost_ret (v := .tuple #[.agg #[.int .i64 0, .int .i64 0, .bool false, .int .i64 0], .int .i64 8]) (by simp [results, Tryz.results62, go_sem, g0, g1, g2, g3]) rfl ⟨by rw [HV.out.1, HV.out.2]; rfl, gE w E (by have := hb1.out; omega)⟩
  ·have N4 := fun v (h : Qv v A ca A' cb c) => Iy A A' ca cb c _ D v h hvh.1 hD
   have HV := Lib.hid hV
   clear hvh hE hV hD
   generalize (c.num d) = x at *
   generalize c.all = al at *
   obtain ⟨x1, x2⟩ := x
   simp only at ho hxa N2 N4
   obtain ⟨xa, xb⟩ := hxa
   rw [not_or] at ho
   obtain ⟨ho1, ho2⟩ := ho
   have h1b : decide (n < 1 - x1) = false := decide_eq_false (by omega)
   have h2b : decide (al - x1 < n) = false := decide_eq_false (by omega)
   go_enter Tryz.func62, Tryz.ntmps62
   go_upto_region 1 with (fail)
   obtain ⟨v, hv⟩ := Qg (((w.alloc (.cells #[.slice A c.nk ca, .slice A' c.ny cb] 25)).alloc (.cells #[.int .i64 d.y, .int .i64 d.m, .bool d.s, .int .i64 d.d] 27)).alloc (.cells #[.int .i64 0, .int .i64 0, .bool false, .int .i64 0] 27))
   rw [← hv]
   have E : Qa w v := by rw [hv]; exact (((Qa.refl _).alloc _).alloc _).alloc _
   have B1 : Qb v w.heap.size 25 #[.slice A c.nk ca, .slice A' c.ny cb] := by rw [hv]; exact ((Qb.new _ _ _).alloc _).alloc _
   have B2 : Qb v (w.heap.size + 1) 27 #[.int .i64 d.y, .int .i64 d.m, .bool d.s, .int .i64 d.d] := by rw [hv]; exact (Qb.at _ _ _ _ (by simp)).alloc _
   have B3 : Qb v (w.heap.size + 1 + 1) 27 #[.int .i64 0, .int .i64 0, .bool false, .int .i64 0] := by rw [hv]; exact Qb.at _ _ _ _ (by simp)
   clear hv
   have C := hC.ext E
   clear hC
   generalize hb1 : w.heap.size = b1 at *
   replace hb1 := Lib.hid hb1
   obtain ⟨k0, k1⟩ := B1.c2; have lk := B1.lt
   obtain ⟨p0, p1, p2, p3⟩ := B2.c4; have lp := B2.lt
   obtain ⟨q0, q1, q2, q3⟩ := B3.c4; have lq := B3.lt
   go_upto_region 2 with (go_at_call 96; (with_reducible refine Calls.mono (NT _ C) ?_); rintro e v2 ⟨rfl, h⟩)
   replace E := Qa.trans E h
   replace C := C.ext h
   replace B1 := B1.ext h
   replace B2 := B2.ext h
   replace B3 := B3.ext h
   clear h
   clear k0 k1 lk
   clear p0 p1 p2 p3 lp
   clear q0 q1 q2 q3 lq
   obtain ⟨k0, k1⟩ := B1.c2; have lk := B1.lt
   obtain ⟨p0, p1, p2, p3⟩ := B2.c4; have lp := B2.lt
   obtain ⟨q0, q1, q2, q3⟩ := B3.c4; have lq := B3.lt
   go_upto_region 5 with (go_at_call 95; (with_reducible refine Calls.mono (N2 _ C) ?_); rintro e v3 ⟨rfl, h⟩)
   replace E := Qa.trans E h
   replace C := C.ext h
   replace B1 := B1.ext h
   replace B2 := B2.ext h
   replace B3 := B3.ext h
   clear h
   clear k0 k1 lk
   clear p0 p1 p2 p3 lp
   clear q0 q1 q2 q3 lq
   obtain ⟨k0, k1⟩ := B1.c2; have lk := B1.lt
   obtain ⟨p0, p1, p2, p3⟩ := B2.c4; have lp := B2.lt
   obtain ⟨q0, q1, q2, q3⟩ := B3.c4; have lq := B3.lt
   go_upto_region 7 with (go_at_call 97; (with_reducible refine Calls.mono (N3 _ C) ?_); rintro e v4 ⟨rfl, h⟩)
   replace E := Qa.trans E h
   replace C := C.ext h
   replace B1 := B1.ext h
   replace B2 := B2.ext h
   replace B3 := B3.ext h
   clear h
   clear k0 k1 lk
   clear p0 p1 p2 p3 lp
   clear q0 q1 q2 q3 lq
   obtain ⟨k0, k1⟩ := B1.c2; have lk := B1.lt
   obtain ⟨p0, p1, p2, p3⟩ := B2.c4; have lp := B2.lt
   obtain ⟨q0, q1, q2, q3⟩ := B3.c4; have lq := B3.lt
   go_wp2_with (go_at_call 98; (with_reducible refine Calls.mono (N4 _ C) ?_); rintro e v5 ⟨rfl, h⟩; replace B3 := B3.ext h; replace E := E.trans h; have lz := B3.lt; obtain ⟨z0, z1, z2, z3⟩ := B3.c4; have f0 := B3.frozen 0; have f1 := B3.frozen 1; have f2 := B3.frozen 2; have f3 := B3.frozen 3)
   obtain ⟨⟨g0, g1, g2, g3⟩, gE⟩ := Wj B3 (.int .i64 D.y) (.int .i64 D.m) (.bool D.s) (.int .i64 D.d)
   refine bodyPost_ret (v := .tuple #[.agg #[.int .i64 D.y, .int .i64 D.m, .bool D.s, .int .i64 D.d], .int .i64 0]) (by simp [results, Tryz.results62, go_sem, g0, g1, g2, g3]) rfl ⟨by rw [HV.out.1, HV.out.2]; rfl, gE w E (by have := hb1.out; omega)⟩
 ·have hne : (c.inE d == 0) = false := beq_eq_false_iff_ne.2 hE
  have HV : Hid (c.addV d n = Xt ∧ c.addE d n = c.inE d) := by unfold Hid Qf.addV Qf.addE; rw [if_neg hE, if_neg hE]; exact ⟨rfl, rfl⟩
  clear hE
  generalize c.inE d = ee at *
  go_enter Tryz.func62, Tryz.ntmps62
  go_upto_region 1 with (fail)
  obtain ⟨v, hv⟩ := Qg (((w.alloc (.cells #[.slice A c.nk ca, .slice A' c.ny cb] 25)).alloc (.cells #[.int .i64 d.y, .int .i64 d.m, .bool d.s, .int .i64 d.d] 27)).alloc (.cells #[.int .i64 0, .int .i64 0, .bool false, .int .i64 0] 27))
  rw [← hv]
  have E : Qa w v := by rw [hv]; exact (((Qa.refl _).alloc _).alloc _).alloc _
  have B1 : Qb v w.heap.size 25 #[.slice A c.nk ca, .slice A' c.ny cb] := by rw [hv]; exact ((Qb.new _ _ _).alloc _).alloc _
  have B2 : Qb v (w.heap.size + 1) 27 #[.int .i64 d.y, .int .i64 d.m, .bool d.s, .int .i64 d.d] := by rw [hv]; exact (Qb.at _ _ _ _ (by simp)).alloc _
  have B3 : Qb v (w.heap.size + 1 + 1) 27 #[.int .i64 0, .int .i64 0, .bool false, .int .i64 0] := by rw [hv]; exact Qb.at _ _ _ _ (by simp)
  clear hv
  have C := hC.ext E
  clear hC
  generalize hb1 : w.heap.size = b1 at *
  replace hb1 := Lib.hid hb1
  obtain ⟨k0, k1⟩ := B1.c2; have lk := B1.lt
  obtain ⟨p0, p1, p2, p3⟩ := B2.c4; have lp := B2.lt
  obtain ⟨q0, q1, q2, q3⟩ := B3.c4; have lq := B3.lt
  go_upto_region 2 with (go_at_call 96; (with_reducible refine Calls.mono (NT _ C) ?_); rintro e v2 ⟨rfl, h⟩)
  replace E := Qa.trans E h
  replace C := C.ext h
  replace B1 := B1.ext h
  replace B2 := B2.ext h
  replace B3 := B3.ext h
  clear h
  clear k0 k1 lk
  clear p0 p1 p2 p3 lp
  clear q0 q1 q2 q3 lq
  obtain ⟨k0, k1⟩ := B1.c2; have lk := B1.lt
  obtain ⟨p0, p1, p2, p3⟩ := B2.c4; have lp := B2.lt
  obtain ⟨q0, q1, q2, q3⟩ := B3.c4; have lq := B3.lt
  have f0 := B3.frozen 0
  have f1 := B3.frozen 1
  have f2 := B3.frozen 2
  have f3 := B3.frozen 3
  go_wp2
  obtain ⟨⟨g0, g1, g2, g3⟩, gE⟩ := Wj B3 (.int .i64 0) (.int .i64 0) (.bool false) (.int .i64 0)
  refine bodyPost_ret (v := .tuple #[.agg #[.int .i64 0, .int .i64 0, .bool false, .int .i64 0], .int .i64 ee]) (by simp [results, Tryz.results62, go_sem, g0, g1, g2, g3]) rfl ⟨by rw [HV.out.1, HV.out.2]; rfl, gE w E (by have := hb1.out; omega)⟩
end
section
open Go Go.RowKit Go.Shelf
attribute [local go_sem] Zt
attribute [local go_sem high] Qej
theorem N8 {W : World} {b : Nat} {t : TypeId} {v0 v1 v2 v3 v4 v5 v6 : Value} (h : Qb W b t #[v0, v1, v2, v3, v4, v5, v6]) (u0 u1 u2 u3 u4 u5 u6 : Value) : Qb (((((((W.setCell ⟨b, 0, none⟩ u0).setCell ⟨b, 1, none⟩ u1).setCell ⟨b, 2, none⟩ u2).setCell ⟨b, 3, none⟩ u3).setCell ⟨b, 4, none⟩ u4).setCell ⟨b, 5, none⟩ u5).setCell ⟨b, 6, none⟩ u6) b t #[u0, u1, u2, u3, u4, u5, u6] := by unfold Qb at h ⊢; simp [World.setCell, Array.getElem?_modify, h]
theorem Ob {w W : World} {b : Nat} (h : Qa w W) (hb : w.heap.size ≤ b) (u0 u1 u2 u3 u4 u5 u6 : Value) : Qa w (((((((W.setCell ⟨b, 0, none⟩ u0).setCell ⟨b, 1, none⟩ u1).setCell ⟨b, 2, none⟩ u2).setCell ⟨b, 3, none⟩ u3).setCell ⟨b, 4, none⟩ u4).setCell ⟨b, 5, none⟩ u5).setCell ⟨b, 6, none⟩ u6) := (((((((h.setCell (p := ⟨b, 0, none⟩) hb u0).setCell (p := ⟨b, 1, none⟩) hb u1).setCell (p := ⟨b, 2, none⟩) hb u2).setCell (p := ⟨b, 3, none⟩) hb u3).setCell (p := ⟨b, 4, none⟩) hb u4).setCell (p := ⟨b, 5, none⟩) hb u5).setCell (p := ⟨b, 6, none⟩) hb u6)
theorem L8 {W : World} {b b' : Nat} {t : TypeId} {cs : Array Value} (h : Qb W b' t cs) (hne : b' ≠ b) (u0 u1 u2 u3 u4 u5 u6 : Value) : Qb (((((((W.setCell ⟨b, 0, none⟩ u0).setCell ⟨b, 1, none⟩ u1).setCell ⟨b, 2, none⟩ u2).setCell ⟨b, 3, none⟩ u3).setCell ⟨b, 4, none⟩ u4).setCell ⟨b, 5, none⟩ u5).setCell ⟨b, 6, none⟩ u6) b' t cs := (Qh (Qh (Qh (Qh (Qh (Qh (Qh h hne 0 u0) hne 1 u1) hne 2 u2) hne 3 u3) hne 4 u4) hne 5 u5) hne 6 u6)
theorem Ii (p : Pd) (vo1 vd1 vc1 vo2 vd2 vc2 : Value) (w : World) (hP1 : Jj w p vo1 vd1 vc1) (hP2 : Jj w p vo2 vd2 vc2) :
  Calls Tryz.prog 14 #[.agg #[.string p.h, .int .i64 p.a.y, .int .i64 p.a.m, .bool p.a.s, .int .i64 p.a.d, .int .i64 p.b.y, .int .i64 p.b.m, .bool p.b.s, .int .i64 p.b.d, vo1, vd1, vc1], .agg #[.string p.h, .int .i64 p.a.y, .int .i64 p.a.m, .bool p.a.s, .int .i64 p.a.d, .int .i64 p.b.y, .int .i64 p.b.m, .bool p.b.s, .int .i64 p.b.d, vo2, vd2, vc2]] w fun e w' => e = .returned (.bool true) ∧ Qa w w' := by
 obtain ⟨T1, c1, rfl, _⟩ := id hP1.o
 obtain ⟨S1, f1, rfl, _⟩ := id hP1.c
 obtain ⟨D1, e1, vs1, rfl, hD1, hcap1, hmax1, _, hat1⟩ := id hP1.d
 obtain ⟨T2, c2, rfl, _⟩ := id hP2.o
 obtain ⟨S2, f2, rfl, _⟩ := id hP2.c
 obtain ⟨D2, e2, vs2, rfl, hD2, hcap2, hmax2, _, hat2⟩ := id hP2.d
 have hn : p.d.length ≤ 9223372036854775807 := Nat.le_trans hcap1 (Nat.le_trans hmax1 (by decide))
 clear hcap1 hmax1 hcap2 hmax2
 have NSO := fun w h1 h2 => Gs (.slice T1 p.o.length c1) (.slice T2 p.o.length c2) p.o w h1 h2
 have NSC := fun w h1 h2 => Gs (.slice S1 p.c.length f1) (.slice S2 p.c.length f2) p.c w h1 h2
 go_enter Tryz.func14, Tryz.ntmps14
 go_upto_region 1 with (fail)
 obtain ⟨v, hv⟩ := Qg ((w.alloc (.cells #[.string p.h, .int .i64 p.a.y, .int .i64 p.a.m, .bool p.a.s, .int .i64 p.a.d, .int .i64 p.b.y, .int .i64 p.b.m, .bool p.b.s, .int .i64 p.b.d, .slice T1 p.o.length c1, .slice D1 p.d.length e1, .slice S1 p.c.length f1] 31)).alloc (.cells #[.string p.h, .int .i64 p.a.y, .int .i64 p.a.m, .bool p.a.s, .int .i64 p.a.d, .int .i64 p.b.y, .int .i64 p.b.m, .bool p.b.s, .int .i64 p.b.d, .slice T2 p.o.length c2, .slice D2 p.d.length e2, .slice S2 p.c.length f2] 31))
 rw [← hv]
 have E : Qa w v := by rw [hv]; exact ((Qa.refl _).alloc _).alloc _
 have B1 : Qb v w.heap.size 31 #[.string p.h, .int .i64 p.a.y, .int .i64 p.a.m, .bool p.a.s, .int .i64 p.a.d, .int .i64 p.b.y, .int .i64 p.b.m, .bool p.b.s, .int .i64 p.b.d, .slice T1 p.o.length c1, .slice D1 p.d.length e1, .slice S1 p.c.length f1] := by rw [hv]; exact (Qb.new _ _ _).alloc _
 have B2 : Qb v (w.heap.size + 1) 31 #[.string p.h, .int .i64 p.a.y, .int .i64 p.a.m, .bool p.a.s, .int .i64 p.a.d, .int .i64 p.b.y, .int .i64 p.b.m, .bool p.b.s, .int .i64 p.b.d, .slice T2 p.o.length c2, .slice D2 p.d.length e2, .slice S2 p.c.length f2] := by rw [hv]; exact Qb.at _ _ _ _ (by simp)
 clear hv
 obtain ⟨b2, hb2⟩ := Qg (w.heap.size + 1)
 rw [← hb2] at B2 ⊢
 obtain ⟨b1, hb1⟩ := Qg (w.heap.size)
 rw [← hb1] at B1 ⊢
 have hbr : w.heap.size ≤ b2 := by omega
 have hbr1 : w.heap.size ≤ b1 := by omega
 have hn21 : b2 ≠ b1 := by omega
 clear hb1 hb2
 have Q1 := hP1.ext E
 have Q2 := hP2.ext E
 clear hP1 hP2
 obtain ⟨j0, j1, j2, j3, j4, j5, j6, j7, j8, j9, j10, j11⟩ := B1.c12
 have jl := B1.lt
 obtain ⟨k0, k1, k2, k3, k4, k5, k6, k7, k8, k9, k10, k11⟩ := B2.c12
 have kl := B2.lt
 go_upto_region 3 with (first | (go_at_call 13; (with_reducible refine Calls.mono (NSO _ Q1.o Q2.o) ?_); rintro e w1 ⟨rfl, hx⟩; replace E := E.trans hx; replace Q1 := Q1.ext hx; replace Q2 := Q2.ext hx; replace B1 := B1.ext hx; replace B2 := B2.ext hx; clear hx; clear j0 j1 j2 j3 j4 j5 j6 j7 j8 j9 j10 j11 jl k0 k1 k2 k3 k4 k5 k6 k7 k8 k9 k10 k11 kl; obtain ⟨j0, j1, j2, j3, j4, j5, j6, j7, j8, j9, j10, j11⟩ := B1.c12; have jl := B1.lt; obtain ⟨k0, k1, k2, k3, k4, k5, k6, k7, k8, k9, k10, k11⟩ := B2.c12; have kl := B2.lt) | (go_at_call 13; (with_reducible refine Calls.mono (NSC _ Q1.c Q2.c) ?_); rintro e w2 ⟨rfl, hx⟩; replace E := E.trans hx; replace Q1 := Q1.ext hx; replace Q2 := Q2.ext hx; replace B1 := B1.ext hx; replace B2 := B2.ext hx; clear hx; clear j0 j1 j2 j3 j4 j5 j6 j7 j8 j9 j10 j11 jl k0 k1 k2 k3 k4 k5 k6 k7 k8 k9 k10 k11 kl; obtain ⟨j0, j1, j2, j3, j4, j5, j6, j7, j8, j9, j10, j11⟩ := B1.c12; have jl := B1.lt; obtain ⟨k0, k1, k2, k3, k4, k5, k6, k7, k8, k9, k10, k11⟩ := B2.c12; have kl := B2.lt))
 clear NSO NSC
 obtain ⟨g, hg⟩ := Qg (fun i => p.d.getD i Qx)
 have hg' : ∀ i, p.d.getD i Qx = g i := fun i => by rw [hg]
 simp only [hg'] at hD1 hat1 hD2 hat2
 clear hg hg' Q1 Q2
 replace hD1 := hD1.ext E
 replace hD2 := hD2.ext E
 generalize p.d.length = n at *
 replace hat1 := Lib.hid (fun i hi => (hat1 i hi).ext E)
 replace hat2 := Lib.hid (fun i hi => (hat2 i hi).ext E)
 go_upto_region 4 with (fail)
 go_loopw [5] (fun iv wr => ∃ k : Nat, k ≤ n ∧ iv = .int .i64 k ∧ Qa w2 wr) (fun iv _ => n - (intOf iv).toNat)
 case atStart => exact ⟨0, Nat.zero_le _, rfl, Qa.refl _⟩
 case round =>
  obtain ⟨k, hk, rfl, hE⟩ := hrel
  obtain ⟨wo, rfl⟩ := Qg wr
  clear j0 j1 j2 j3 j4 j5 j6 j7 j8 j9 j10 j11 jl k0 k1 k2 k3 k4 k5 k6 k7 k8 k9 k10 k11 kl
  have B1o := B1.ext hE
  have B2o := B2.ext hE
  obtain ⟨j0, j1, j2, j3, j4, j5, j6, j7, j8, j9, j10, j11⟩ := Qb.c12 B1o
  have jl := Qb.lt B1o
  obtain ⟨k0, k1, k2, k3, k4, k5, k6, k7, k8, k9, k10, k11⟩ := Qb.c12 B2o
  have kl := Qb.lt B2o
  by_cases hlt : k < n
  ·obtain ⟨b, off, rfl, hb, hc⟩ := (hD1.ext hE) (by omega)
   have c0 : wo.cell? ⟨b, off + k * 7, none⟩ = some (.int .i64 (g k).on.y) := by simpa [Qq] using hc k 0 _ hlt rfl
   have c1 : wo.cell? ⟨b, off + k * 7 + 1, none⟩ = some (.int .i64 (g k).on.m) := by simpa [Qq] using hc k 1 _ hlt rfl
   have c2 : wo.cell? ⟨b, off + k * 7 + 2, none⟩ = some (.bool (g k).on.s) := by simpa [Qq] using hc k 2 _ hlt rfl
   have c3 : wo.cell? ⟨b, off + k * 7 + 3, none⟩ = some (.int .i64 (g k).on.d) := by simpa [Qq] using hc k 3 _ hlt rfl
   have c4 : wo.cell? ⟨b, off + k * 7 + 4, none⟩ = some (.bool (g k).i) := by simpa [Qq] using hc k 4 _ hlt rfl
   have c5 : wo.cell? ⟨b, off + k * 7 + 5, none⟩ = some (.string (g k).w) := by simpa [Qq] using hc k 5 _ hlt rfl
   have c6 : wo.cell? ⟨b, off + k * 7 + 6, none⟩ = some (vs1 k) := by simpa [Qq] using hc k 6 _ hlt rfl
   clear hc
   obtain ⟨b', off', rfl, hb', hc⟩ := (hD2.ext hE) (by omega)
   have d0 : wo.cell? ⟨b', off' + k * 7, none⟩ = some (.int .i64 (g k).on.y) := by simpa [Qq] using hc k 0 _ hlt rfl
   have d1 : wo.cell? ⟨b', off' + k * 7 + 1, none⟩ = some (.int .i64 (g k).on.m) := by simpa [Qq] using hc k 1 _ hlt rfl
   have d2 : wo.cell? ⟨b', off' + k * 7 + 2, none⟩ = some (.bool (g k).on.s) := by simpa [Qq] using hc k 2 _ hlt rfl
   have d3 : wo.cell? ⟨b', off' + k * 7 + 3, none⟩ = some (.int .i64 (g k).on.d) := by simpa [Qq] using hc k 3 _ hlt rfl
   have d4 : wo.cell? ⟨b', off' + k * 7 + 4, none⟩ = some (.bool (g k).i) := by simpa [Qq] using hc k 4 _ hlt rfl
   have d5 : wo.cell? ⟨b', off' + k * 7 + 5, none⟩ = some (.string (g k).w) := by simpa [Qq] using hc k 5 _ hlt rfl
   have d6 : wo.cell? ⟨b', off' + k * 7 + 6, none⟩ = some (vs2 k) := by simpa [Qq] using hc k 6 _ hlt rfl
   clear hc
   have L1 := (hat1.out k hlt).ext hE
   have L2 := (hat2.out k hlt).ext hE
   obtain ⟨VL1, hv1⟩ := Qg (vs1 k)
   obtain ⟨VL2, hv2⟩ := Qg (vs2 k)
   rw [← hv1] at c6 L1
   rw [← hv2] at d6 L2
   clear hv1 hv2 hat1 hat2 hD1 hD2
   generalize g k = G at *
   obtain ⟨TL1, cl1, hVL, _⟩ := id L1
   subst hVL
   obtain ⟨TL2, cl2, hVL, _⟩ := id L2
   subst hVL
   have NSL := fun w h1 h2 => Gs (.slice TL1 G.l.length cl1) (.slice TL2 G.l.length cl2) G.l w h1 h2
   go_upto_region 6 with (fail)
   clear j0 j1 j2 j3 j4 j5 j6 j7 j8 j9 j10 j11 jl k0 k1 k2 k3 k4 k5 k6 k7 k8 k9 k10 k11 kl
   apply W9 (S := fun w' p1 p2 => Qa wo w' ∧ p1 ≠ p2 ∧ Qb w' p1 70 #[.int .i64 G.on.y, .int .i64 G.on.m, .bool G.on.s, .int .i64 G.on.d, .bool G.i, .string G.w, .slice TL1 G.l.length cl1] ∧ Qb w' p2 70 #[.int .i64 G.on.y, .int .i64 G.on.m, .bool G.on.s, .int .i64 G.on.d, .bool G.i, .string G.w, .slice TL2 G.l.length cl2])
   ·refine Q3 14 [13] (fun x => Qa wo x) Qm rfl ?_
    intro vz hvz
    have HC := hvz
    refine Qp (g := 4) [0, 1, 2, 3, 4, 5, 6, 7, 8, 9] [_, _, _, _, _, _, _, _, _, _] ⟨rfl, rfl, rfl, rfl, rfl, rfl, rfl, rfl, rfl, rfl, trivial⟩ (by kernel_rfl) (by kernel_rfl) HC ?_
    simp only [Qc, Qd, Qe]
    apply Exists.intro
    refine ⟨fun u hu => ?_, ?_⟩
    ·obtain ⟨j0, j1, j2, j3, j4, j5, j6, j7, j8, j9, j10, j11⟩ := Qb.c12 (Qb.ext B1o hu)
     have jl := Qb.lt (Qb.ext B1o hu)
     obtain ⟨k0, k1, k2, k3, k4, k5, k6, k7, k8, k9, k10, k11⟩ := Qb.c12 (Qb.ext B2o hu)
     have kl := Qb.lt (Qb.ext B2o hu)
     have r0 := (hu.cell (p := ⟨b, off + k * 7, none⟩) hb).trans c0
     have r1 := (hu.cell (p := ⟨b, off + k * 7 + 1, none⟩) hb).trans c1
     have r2 := (hu.cell (p := ⟨b, off + k * 7 + 2, none⟩) hb).trans c2
     have r3 := (hu.cell (p := ⟨b, off + k * 7 + 3, none⟩) hb).trans c3
     have r4 := (hu.cell (p := ⟨b, off + k * 7 + 4, none⟩) hb).trans c4
     have r5 := (hu.cell (p := ⟨b, off + k * 7 + 5, none⟩) hb).trans c5
     have r6 := (hu.cell (p := ⟨b, off + k * 7 + 6, none⟩) hb).trans c6
     have s0 := (hu.cell (p := ⟨b', off' + k * 7, none⟩) hb').trans d0
     have s1 := (hu.cell (p := ⟨b', off' + k * 7 + 1, none⟩) hb').trans d1
     have s2 := (hu.cell (p := ⟨b', off' + k * 7 + 2, none⟩) hb').trans d2
     have s3 := (hu.cell (p := ⟨b', off' + k * 7 + 3, none⟩) hb').trans d3
     have s4 := (hu.cell (p := ⟨b', off' + k * 7 + 4, none⟩) hb').trans d4
     have s5 := (hu.cell (p := ⟨b', off' + k * 7 + 5, none⟩) hb').trans d5
     have s6 := (hu.cell (p := ⟨b', off' + k * 7 + 6, none⟩) hb').trans d6
     have hbu := Nat.lt_of_lt_of_le hb hu.size
     have hbu' := Nat.lt_of_lt_of_le hb' hu.size
     repeat (first | go_big_quiet_skip | (go_big_quiet_want; go_big_quiet_op; go_big_quiet_on))
     refine wpQuiet_nil ?_
     rfl
    refine Zu 10 11 rfl rfl (by kernel_rfl) ?_ ?_
    ·simp only [Qc, Qd, Qe]
     go_wp2
     obtain ⟨p1, wb, hbq, hwb, H10, HC', hx, gp1⟩ := Q4 HC 70 #[.int .i64 0, .int .i64 0, .bool false, .int .i64 0, .bool false, .string ⟨#[]⟩, .slice none 0 0]
     rw [← hbq, ← hwb]
     try have ne : p2 < p1 := by have := H11.lt; omega
     replace HC := HC'
     try replace H11 := H11.ext hx
     clear hbq hwb hx HC'
     refine Qi HC ?_
     refine Qj 11 rfl (by kernel_rfl) ?_
     simp only [Qc, Qd, Qe]
     go_wp2
     obtain ⟨p2, wb, hbq, hwb, H11, HC', hx, gp2⟩ := Q4 HC 70 #[.int .i64 0, .int .i64 0, .bool false, .int .i64 0, .bool false, .string ⟨#[]⟩, .slice none 0 0]
     rw [← hbq, ← hwb]
     try have ne : p1 < p2 := by have := H10.lt; omega
     replace HC := HC'
     try replace H10 := H10.ext hx
     clear hbq hwb hx HC'
     refine Qi HC ?_
     refine Qj 12 rfl (by kernel_rfl) ?_
     simp only [Qc, Qd, Qe]
     have z0 := Qb.frozen H10 0
     have z1 := Qb.frozen H10 1
     have z2 := Qb.frozen H10 2
     have z3 := Qb.frozen H10 3
     have z4 := Qb.frozen H10 4
     have z5 := Qb.frozen H10 5
     have z6 := Qb.frozen H10 6
     obtain ⟨x0, x1, x2, x3, x4, x5, x6⟩ := Ws H10
     have lx := Qb.lt H10
     go_wp2
     have Hn := N8 H10 (.int .i64 G.on.y) (.int .i64 G.on.m) (.bool G.on.s) (.int .i64 G.on.d) (.bool G.i) (.string G.w) (.slice TL1 G.l.length cl1)
     try have On := L8 H11 (show p2 ≠ p1 by omega) (.int .i64 G.on.y) (.int .i64 G.on.m) (.bool G.on.s) (.int .i64 G.on.d) (.bool G.i) (.string G.w) (.slice TL1 G.l.length cl1)
     replace HC := Ob HC gp1 (.int .i64 G.on.y) (.int .i64 G.on.m) (.bool G.on.s) (.int .i64 G.on.d) (.bool G.i) (.string G.w) (.slice TL1 G.l.length cl1)
     clear H10 z0 z1 z2 z3 z4 z5 z6 x0 x1 x2 x3 x4 x5 x6 lx
     have H10 := Hn
     try (replace H11 := On; clear On)
     clear Hn
     generalize World.setCell _ _ _ = wq at *
     refine Qi HC ?_
     refine Qn 13 rfl (by kernel_rfl) ?_
     simp only [Qc, Qd, Qe]
     have z0 := Qb.frozen H11 0
     have z1 := Qb.frozen H11 1
     have z2 := Qb.frozen H11 2
     have z3 := Qb.frozen H11 3
     have z4 := Qb.frozen H11 4
     have z5 := Qb.frozen H11 5
     have z6 := Qb.frozen H11 6
     obtain ⟨x0, x1, x2, x3, x4, x5, x6⟩ := Ws H11
     have lx := Qb.lt H11
     go_wp2
     have Hn := N8 H11 (.int .i64 G.on.y) (.int .i64 G.on.m) (.bool G.on.s) (.int .i64 G.on.d) (.bool G.i) (.string G.w) (.slice TL2 G.l.length cl2)
     try have On := L8 H10 (show p1 ≠ p2 by omega) (.int .i64 G.on.y) (.int .i64 G.on.m) (.bool G.on.s) (.int .i64 G.on.d) (.bool G.i) (.string G.w) (.slice TL2 G.l.length cl2)
     replace HC := Ob HC gp2 (.int .i64 G.on.y) (.int .i64 G.on.m) (.bool G.on.s) (.int .i64 G.on.d) (.bool G.i) (.string G.w) (.slice TL2 G.l.length cl2)
     clear H11 z0 z1 z2 z3 z4 z5 z6 x0 x1 x2 x3 x4 x5 x6 lx
     have H11 := Hn
     try (replace H10 := On; clear On)
     clear Hn
     generalize World.setCell _ _ _ = wq at *
     refine Qo ?_
     refine Qs (by kernel_rfl) ?_
     exact Jf p1 p2 ⟨HC, by omega, H10, H11⟩ rfl
    ·simp only [Qc, Qd, Qe]
     go_wp2
     obtain ⟨p2, wb, hbq, hwb, H11, HC', hx, gp2⟩ := Q4 HC 70 #[.int .i64 0, .int .i64 0, .bool false, .int .i64 0, .bool false, .string ⟨#[]⟩, .slice none 0 0]
     rw [← hbq, ← hwb]
     try have ne : p1 < p2 := by have := H10.lt; omega
     replace HC := HC'
     try replace H10 := H10.ext hx
     clear hbq hwb hx HC'
     refine Qi HC ?_
     refine Qj 10 rfl (by kernel_rfl) ?_
     simp only [Qc, Qd, Qe]
     go_wp2
     obtain ⟨p1, wb, hbq, hwb, H10, HC', hx, gp1⟩ := Q4 HC 70 #[.int .i64 0, .int .i64 0, .bool false, .int .i64 0, .bool false, .string ⟨#[]⟩, .slice none 0 0]
     rw [← hbq, ← hwb]
     try have ne : p2 < p1 := by have := H11.lt; omega
     replace HC := HC'
     try replace H11 := H11.ext hx
     clear hbq hwb hx HC'
     refine Qi HC ?_
     refine Qj 12 rfl (by kernel_rfl) ?_
     simp only [Qc, Qd, Qe]
     have z0 := Qb.frozen H10 0
     have z1 := Qb.frozen H10 1
     have z2 := Qb.frozen H10 2
     have z3 := Qb.frozen H10 3
     have z4 := Qb.frozen H10 4
     have z5 := Qb.frozen H10 5
     have z6 := Qb.frozen H10 6
     obtain ⟨x0, x1, x2, x3, x4, x5, x6⟩ := Ws H10
     have lx := Qb.lt H10
     go_wp2
     have Hn := N8 H10 (.int .i64 G.on.y) (.int .i64 G.on.m) (.bool G.on.s) (.int .i64 G.on.d) (.bool G.i) (.string G.w) (.slice TL1 G.l.length cl1)
     try have On := L8 H11 (show p2 ≠ p1 by omega) (.int .i64 G.on.y) (.int .i64 G.on.m) (.bool G.on.s) (.int .i64 G.on.d) (.bool G.i) (.string G.w) (.slice TL1 G.l.length cl1)
     replace HC := Ob HC gp1 (.int .i64 G.on.y) (.int .i64 G.on.m) (.bool G.on.s) (.int .i64 G.on.d) (.bool G.i) (.string G.w) (.slice TL1 G.l.length cl1)
     clear H10 z0 z1 z2 z3 z4 z5 z6 x0 x1 x2 x3 x4 x5 x6 lx
     have H10 := Hn
     try (replace H11 := On; clear On)
     clear Hn
     generalize World.setCell _ _ _ = wq at *
     refine Qi HC ?_
     refine Qn 13 rfl (by kernel_rfl) ?_
     simp only [Qc, Qd, Qe]
     have z0 := Qb.frozen H11 0
     have z1 := Qb.frozen H11 1
     have z2 := Qb.frozen H11 2
     have z3 := Qb.frozen H11 3
     have z4 := Qb.frozen H11 4
     have z5 := Qb.frozen H11 5
     have z6 := Qb.frozen H11 6
     obtain ⟨x0, x1, x2, x3, x4, x5, x6⟩ := Ws H11
     have lx := Qb.lt H11
     go_wp2
     have Hn := N8 H11 (.int .i64 G.on.y) (.int .i64 G.on.m) (.bool G.on.s) (.int .i64 G.on.d) (.bool G.i) (.string G.w) (.slice TL2 G.l.length cl2)
     try have On := L8 H10 (show p1 ≠ p2 by omega) (.int .i64 G.on.y) (.int .i64 G.on.m) (.bool G.on.s) (.int .i64 G.on.d) (.bool G.i) (.string G.w) (.slice TL2 G.l.length cl2)
     replace HC := Ob HC gp2 (.int .i64 G.on.y) (.int .i64 G.on.m) (.bool G.on.s) (.int .i64 G.on.d) (.bool G.i) (.string G.w) (.slice TL2 G.l.length cl2)
     clear H11 z0 z1 z2 z3 z4 z5 z6 x0 x1 x2 x3 x4 x5 x6 lx
     have H11 := Hn
     try (replace H10 := On; clear On)
     clear Hn
     generalize World.setCell _ _ _ = wq at *
     refine Qo ?_
     refine Qs (by kernel_rfl) ?_
     exact Jf p1 p2 ⟨HC, by omega, H10, H11⟩ rfl
   rintro p1 p2 w3 ⟨h3, ne, H10, H11⟩
   replace L1 := L1.ext h3
   replace L2 := L2.ext h3
   clear c0 c1 c2 c3 c4 c5 c6 d0 d1 d2 d3 d4 d5 d6 hb hb'
   obtain ⟨x0, x1, x2, x3, x4, x5, x6⟩ := Ws H10
   have xl := Qb.lt H10
   obtain ⟨y0, y1, y2, y3, y4, y5, y6⟩ := Ws H11
   have yl := Qb.lt H11
   go_wp2_with (go_at_call 13; (with_reducible refine Calls.mono (NSL _ L1 L2) ?_); rintro e w4 ⟨rfl, h4⟩)
   exact ⟨⟨k + 1, by omega, by go_num, (hE.trans h3).trans h4⟩, by simp [intOf]; omega⟩
  ·obtain rfl : k = n := by omega
   go_wp2
   go_ret
   exact ⟨rfl, E.trans hE⟩
end
section
def sA : ByteArray := ⟨#[97]⟩
def sB : ByteArray := ⟨#[98]⟩
def sC : ByteArray := ⟨#[99]⟩
def sU8 : ByteArray := ⟨#[117, 114]⟩
def X6 : ByteArray := ⟨#[98, 97, 114, 108, 101, 121]⟩
def yr8 : Nat → Yr
 | 0 => ⟨0, sA, 4095, 0⟩
 | 1 => ⟨0, sB, 4095, 0⟩
 | _ => ⟨0, sC, 4095, 0⟩
def Xb : Qf := ⟨1, fun _ => sU8, 3, yr8⟩
def l8 : Ln := ⟨⟨60, 1⟩, ⟨1, 5⟩, ⟨0, 1, false, 1⟩⟩
def p8 : Nat → Z7 := fun _ => ⟨⟨0, 7, false, 1⟩, ⟨10, 1⟩⟩
def d8 : Dt := ⟨1, 7, false, 1⟩
def t8 : Nat → Tk
 | 0 => ⟨⟨10, 1⟩, ⟨1, 3⟩⟩
 | _ => ⟨⟨5, 1⟩, ⟨1, 1⟩⟩
def f8 : Dt := ⟨0, 1, false, 1⟩
def u8' : Dt := ⟨0, 1, false, 30⟩
def w8 : Nat → Cw := fun _ => ⟨2, ⟨1, 2⟩, f8, u8'⟩
def h8 : Yj := ⟨10, 2, 5⟩
def pd8 : Pd := ⟨sA, f8, u8', [⟨X6, 10⟩], [⟨⟨0, 1, false, 2⟩, true, sB, [⟨X6, 5⟩]⟩, ⟨⟨0, 1, false, 2⟩, false, sB, [⟨X6, 20⟩]⟩], []⟩
theorem e8_int : Z2 ⟨60, 1⟩ ⟨1, 5⟩ 180 = (⟨6, 1⟩, 0) := by kernel_rfl
theorem e8_dbl : X3 ⟨1, 3⟩ = (1080, 0) := by kernel_rfl
theorem Qal : Xb.owedV l8 p8 1 d8 = (⟨⟨56, 1⟩, ⟨56, 5⟩, ⟨0, 1⟩⟩, 0) := by kernel_rfl
theorem Qbl : Xb.settleV l8 p8 1 d8 = (⟨336, 5⟩, 0) := by kernel_rfl
theorem e8_bal : Xb.balV t8 2 w8 1 = (⟨-5, 1⟩, 0) := by kernel_rfl
theorem e8_few : Xb.fewV t8 2 ⟨1, 2⟩ f8 u8' = (3, 0) := by kernel_rfl
theorem Qb1 : Wu h8 ⟨4, 5⟩ ⟨1, 10⟩ 1 = (⟨12, 4, 7⟩, 0) := by kernel_rfl
theorem Qa5 : Xb.closeV pd8 = ([⟨X6, -5⟩], 0) := by kernel_rfl
end
end Go.Proofs.YtneiofnlmblglaaGreatDoor
