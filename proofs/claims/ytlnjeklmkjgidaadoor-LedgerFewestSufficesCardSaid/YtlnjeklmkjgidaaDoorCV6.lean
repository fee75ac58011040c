/- The walk of LedgerFewestSuffices. -/
import Derived.Test.YtlnjeklmkjgidaaDoorD12
namespace Go.Proofs.YtlnjeklmkjgidaaDoor
open Go Go.RowKit Go.Shelf
attribute [local go_sem] gv_yes
attribute [local go_sem high] neq_ratio neq_debt neq_herd

theorem held_c10' {W : World} {b : Nat} {t : TypeId} {v0 v1 v2 v3 v4 v5 v6 v7 v8 v9 : Value} (h : Held W b t #[v0, v1, v2, v3, v4, v5, v6, v7, v8, v9]) : W.cell? ⟨b, 0, none⟩ = some v0 ∧ W.cell? ⟨b, 1, none⟩ = some v1 ∧ W.cell? ⟨b, 2, none⟩ = some v2 ∧ W.cell? ⟨b, 3, none⟩ = some v3 ∧ W.cell? ⟨b, 4, none⟩ = some v4 ∧ W.cell? ⟨b, 5, none⟩ = some v5 ∧ W.cell? ⟨b, 6, none⟩ = some v6 ∧ W.cell? ⟨b, 7, none⟩ = some v7 ∧ W.cell? ⟨b, 8, none⟩ = some v8 ∧ W.cell? ⟨b, 9, none⟩ = some v9 := ⟨h.cell 0, h.cell 1, h.cell 2, h.cell 3, h.cell 4, h.cell 5, h.cell 6, h.cell 7, h.cell 8, h.cell 9⟩
theorem rows_crew1 {w : World} {b : Nat} {ty : TypeId} {N : Int} {s : Rt} {f u : Dt} (h : Held w b ty #[.int .i64 N, .int .i64 s.n, .int .i64 s.d, .int .i64 f.y, .int .i64 f.m, .bool f.s, .int .i64 f.d, .int .i64 u.y, .int .i64 u.m, .bool u.s, .int .i64 u.d]) : RowsAt w (some ⟨b, 0, none⟩) 1 11 (crewr fun _ => ⟨N, s, f, u⟩) := rows_flat (f := crewr fun _ => ⟨N, s, f, u⟩) (n := 1) (fun _ => rfl) h
theorem balV_in (c : Cal) (t : Nat → Tk) (n : Nat) (w : Nat → Cw) (m : Nat) : (c.balV t n w m).1.In := by
  unfold Cal.balV
  split
  · exact rat0_in
  · split
    · exact rat0_in
    · split
      · exact rat0_in
      · exact subR_in _ _
set_option maxRecDepth 100000 in
set_option maxHeartbeats 4000000 in
theorem ledgerFewestSuffices_walk (A A' : Option Addr) (ca cb : Nat) (c : Cal) (T : Option Addr) (nt capt : Nat) (t : Nat → Tk) (s : Rt) (f u : Dt) (w : World) (hC : CalAt w A ca A' cb c) (hT : RowsAt w T nt 4 (taskr t)) (hnt : nt ≤ 9223372036854775807) (hint : ∀ i, i < nt → (t i).a.In ∧ (t i).r.In) (hs : s.In) (hZ : Zro w) :
    Calls Tryd.prog 7 #[.agg #[.slice A c.nk ca, .slice A' c.ny cb], .slice T nt capt, .agg #[.int .i64 s.n, .int .i64 s.d, .int .i64 f.y, .int .i64 f.m, .bool f.s, .int .i64 f.d, .int .i64 u.y, .int .i64 u.m, .bool u.s, .int .i64 u.d]] w fun e w' => e = .returned (.bool true) ∧ Ext w w' := by
  have NF := fun w hC hT hZ => fewest_any A A' ca cb c T nt capt t s hs f u w hC hint hT hnt hZ
  have NB := fun N w hC hT S hS hZ hin => balance_any A A' ca cb c T nt capt t S 1 1 (fun _ => ⟨N, s, f, u⟩) w hC hint hT hnt hin hS (by decide) hZ
  have hT1 := hT
  obtain ⟨V, hV⟩ : ∃ V, V = c.fewV t nt s f u := ⟨_, rfl⟩
  simp only [← hV] at NF
  replace hV := Lib.hid hV
  obtain ⟨N, vc⟩ := V
  simp only at NF
  go_enter Tryd.func7, Tryd.ntmps7
  go_upto_region 1 with (fail)
  obtain ⟨v, hv⟩ : ∃ v, v = ((w.alloc (.cells #[.slice A c.nk ca, .slice A' c.ny cb] 25)).alloc (.cells #[.int .i64 s.n, .int .i64 s.d, .int .i64 f.y, .int .i64 f.m, .bool f.s, .int .i64 f.d, .int .i64 u.y, .int .i64 u.m, .bool u.s, .int .i64 u.d] 69)) := ⟨_, rfl⟩
  rw [← hv]
  have E : Ext w v := by rw [hv]; exact ((Ext.refl _).alloc _).alloc _
  have B1 : Held v w.heap.size 25 #[.slice A c.nk ca, .slice A' c.ny cb] := by rw [hv]; exact (Held.new _ _ _).alloc _
  have B2 : Held v (w.heap.size + 1) 69 #[.int .i64 s.n, .int .i64 s.d, .int .i64 f.y, .int .i64 f.m, .bool f.s, .int .i64 f.d, .int .i64 u.y, .int .i64 u.m, .bool u.s, .int .i64 u.d] := by rw [hv]; exact Held.at _ _ _ _ (by simp)
  clear hv
  obtain ⟨b2, hb2⟩ : ∃ b, b = w.heap.size + 1 := ⟨_, rfl⟩
  rw [← hb2] at B2 ⊢
  obtain ⟨b1, hb1⟩ : ∃ b, b = w.heap.size := ⟨_, rfl⟩
  rw [← hb1] at B1 ⊢
  have hbr : w.heap.size ≤ b2 := by omega
  have hbr1 : w.heap.size ≤ b1 := by omega
  have hn21 : b2 ≠ b1 := by omega
  clear hb1 hb2
  have Z := hZ.ext E
  have C := hC.ext E
  have T1 := hT1.ext E
  obtain ⟨k0, k1⟩ := B1.c2
  have kl := B1.lt
  obtain ⟨p0, p1, p2, p3, p4, p5, p6, p7, p8, p9⟩ := held_c10' B2
  have pl := B2.lt
  by_cases e0 : vc = 0
  rotate_left
  · have g0 : (vc == 0) = false := beq_eq_false_iff_ne.2 e0
    have g0n : (vc != 0) = true := by rw [bne, g0]; rfl
    have hn : N = 0 := by
      have := few_err (c := c) (t := t) (nt := nt) (s := s) (f := f) (u := u) (by rw [← hV.out]; exact e0)
      rw [← hV.out] at this; exact this
    subst hn
    clear hV NB e0
    go_wp2_with (first | (go_at_call 27; (with_reducible refine Calls.mono (NF _ C T1 Z) ?_); rintro e w1 ⟨rfl, hx⟩; replace E := E.trans hx; replace Z := Z.ext hx; replace C := C.ext hx; replace T1 := T1.ext hx; replace B1 := B1.ext hx; replace B2 := B2.ext hx; clear hx; clear k0 k1 kl p0 p1 p2 p3 p4 p5 p6 p7 p8 p9 pl; obtain ⟨k0, k1⟩ := B1.c2; have kl := B1.lt; obtain ⟨p0, p1, p2, p3, p4, p5, p6, p7, p8, p9⟩ := held_c10' B2; have pl := B2.lt) | (go_at_call 21; (with_reducible refine Calls.mono (works8_any _ Z) ?_); rintro e wk ⟨rfl, hk⟩))
    go_ret
    exact ⟨rfl, E.trans hk⟩
  subst e0
  have hfs := fewest_suffices (c := c) (t := t) (nt := nt) (s := s) (f := f) (u := u) (N := N) (by rw [← hV.out]) (by rw [← hV.out])
  obtain ⟨n0, n1, x0, x1, x2⟩ := hfs
  have hz1 : IntKind.i64.wrap (N - 1) = N - 1 := wrap64 (by omega) (by omega)
  have g1 : decide (N < 0) = false := decide_eq_false (by omega)
  have g2 : decide (4096 < N) = false := decide_eq_false (by omega)
  have NB1 := fun w hC hT S hS hZ => NB N w hC hT S hS hZ (fun _ _ => ⟨hs, by show -9223372036854775808 ≤ N; omega, by show N ≤ 9223372036854775807; omega⟩)
  have NB2 := fun w hC hT S hS hZ => NB (N - 1) w hC hT S hS hZ (fun _ _ => ⟨hs, by show -9223372036854775808 ≤ N - 1; omega, by show N - 1 ≤ 9223372036854775807; omega⟩)
  have X1 := Lib.hid x1
  have X2 := Lib.hid x2
  have X0 := Lib.hid x0
  clear hV NB x0 x1 x2 n0 n1
  generalize c.balV t nt (fun _ => ⟨N, s, f, u⟩) 1 = P at *
  generalize c.balV t nt (fun _ => ⟨N - 1, s, f, u⟩) 1 = Q at *
  obtain ⟨⟨pn, pd⟩, pc⟩ := P
  obtain ⟨⟨qn, qd⟩, qc⟩ := Q
  simp only at NB1 NB2 X0 X1 X2
  go_upto_region 4 with (go_at_call 27; (with_reducible refine Calls.mono (NF _ C T1 Z) ?_); rintro e w1 ⟨rfl, hx⟩; replace E := E.trans hx; replace Z := Z.ext hx; replace C := C.ext hx; replace T1 := T1.ext hx; replace B1 := B1.ext hx; replace B2 := B2.ext hx; clear hx; clear k0 k1 kl p0 p1 p2 p3 p4 p5 p6 p7 p8 p9 pl; obtain ⟨k0, k1⟩ := B1.c2; have kl := B1.lt; obtain ⟨p0, p1, p2, p3, p4, p5, p6, p7, p8, p9⟩ := held_c10' B2; have pl := B2.lt)
  clear NF
  have AL := (Ext.refl w1).alloc (.cells #[.int .i64 N, .int .i64 s.n, .int .i64 s.d, .int .i64 f.y, .int .i64 f.m, .bool f.s, .int .i64 f.d, .int .i64 u.y, .int .i64 u.m, .bool u.s, .int .i64 u.d] 73)
  have NB3 := NB1 _ (C.ext AL) (T1.ext AL) _ (rows_crew1 (Held.new w1 73 #[.int .i64 N, .int .i64 s.n, .int .i64 s.d, .int .i64 f.y, .int .i64 f.m, .bool f.s, .int .i64 f.d, .int .i64 u.y, .int .i64 u.m, .bool u.s, .int .i64 u.d])) (Z.ext AL)
  clear NB1
  go_upto_region 5 with (go_at_call 28; (with_reducible refine Calls.mono (NB3) ?_); rintro e w2 ⟨rfl, hx⟩; replace hx := AL.trans hx; clear NB3 AL; replace E := E.trans hx; replace Z := Z.ext hx; replace C := C.ext hx; replace T1 := T1.ext hx; replace B1 := B1.ext hx; replace B2 := B2.ext hx; clear hx; clear k0 k1 kl p0 p1 p2 p3 p4 p5 p6 p7 p8 p9 pl; obtain ⟨k0, k1⟩ := B1.c2; have kl := B1.lt; obtain ⟨p0, p1, p2, p3, p4, p5, p6, p7, p8, p9⟩ := held_c10' B2; have pl := B2.lt)
  obtain ⟨vb1, hv⟩ : ∃ x, x = (w2.alloc (.cells #[.int .i64 pn, .int .i64 pd] 52)) := ⟨_, rfl⟩
  rw [← hv]
  have hx : Ext w2 vb1 := by rw [hv]; exact (Ext.refl _).alloc _
  have B3 : Held vb1 w2.heap.size 52 #[.int .i64 pn, .int .i64 pd] := by rw [hv]; exact Held.new _ _ _
  clear hv
  generalize w2.heap.size = bb1 at *
  clear k0 k1 kl p0 p1 p2 p3 p4 p5 p6 p7 p8 p9 pl
  replace E := E.trans hx
  replace Z := Z.ext hx
  replace C := C.ext hx
  replace T1 := T1.ext hx
  replace B1 := B1.ext hx
  replace B2 := B2.ext hx
  clear hx
  obtain ⟨k0, k1⟩ := B1.c2
  have kl := B1.lt
  obtain ⟨p0, p1, p2, p3, p4, p5, p6, p7, p8, p9⟩ := held_c10' B2
  have pl := B2.lt
  obtain ⟨q0, q1⟩ := B3.c2
  have ql := B3.lt
  have h6 : (pc = 0 ∧ 0 ≤ pn) ∨ pc = 6 := by
    rcases X0.out with h | h
    · exact .inl ⟨h, X1.out h⟩
    · exact .inr h
  clear X0 X1
  by_cases hn0 : N = 0
  · subst hn0
    clear X2 NB2
    rcases h6 with ⟨rfl, h7⟩ | rfl
    · have g3 : decide (pn < 0) = false := decide_eq_false (by omega)
      clear h7
      go_wp2_with (first | (go_at_call 21; (with_reducible refine Calls.mono (works8_any _ Z) ?_); rintro e wk ⟨rfl, hk⟩))
      go_ret
      exact ⟨rfl, E.trans hk⟩
    · skip
      go_wp2_with (first | (go_at_call 21; (with_reducible refine Calls.mono (works8_any _ Z) ?_); rintro e wk ⟨rfl, hk⟩))
      go_ret
      exact ⟨rfl, E.trans hk⟩

  have gn : (N == 0) = false := beq_eq_false_iff_ne.2 hn0
  obtain ⟨y0, y1⟩ := X2.out hn0
  have Y : (qc = 0 ∧ decide (qn < 0) = true) ∨ qc = 6 := by
    rcases y0 with h | h
    · exact .inl ⟨h, decide_eq_true (y1 h)⟩
    · exact .inr h
  clear X2 y0 y1 hn0
  have AL := (Ext.refl vb1).alloc (.cells #[.int .i64 (N - 1), .int .i64 s.n, .int .i64 s.d, .int .i64 f.y, .int .i64 f.m, .bool f.s, .int .i64 f.d, .int .i64 u.y, .int .i64 u.m, .bool u.s, .int .i64 u.d] 73)
  have NB4 := NB2 _ (C.ext AL) (T1.ext AL) _ (rows_crew1 (Held.new vb1 73 #[.int .i64 (N - 1), .int .i64 s.n, .int .i64 s.d, .int .i64 f.y, .int .i64 f.m, .bool f.s, .int .i64 f.d, .int .i64 u.y, .int .i64 u.m, .bool u.s, .int .i64 u.d])) (Z.ext AL)
  clear NB2

  rcases h6 with ⟨rfl, h7⟩ | rfl
  · have g3 : decide (pn < 0) = false := decide_eq_false (by omega)
    clear h7
    go_upto_region 10 with (go_at_call 28; (with_reducible refine Calls.mono (NB4) ?_); rintro e w3 ⟨rfl, hx⟩; replace hx := AL.trans hx; clear NB4 AL; replace E := E.trans hx; replace Z := Z.ext hx; replace C := C.ext hx; replace T1 := T1.ext hx; replace B1 := B1.ext hx; replace B2 := B2.ext hx; replace B3 := B3.ext hx; clear hx; clear k0 k1 kl p0 p1 p2 p3 p4 p5 p6 p7 p8 p9 pl q0 q1 ql; obtain ⟨k0, k1⟩ := B1.c2; have kl := B1.lt; obtain ⟨p0, p1, p2, p3, p4, p5, p6, p7, p8, p9⟩ := held_c10' B2; have pl := B2.lt; obtain ⟨q0, q1⟩ := B3.c2; have ql := B3.lt)
    obtain ⟨vb11, hv⟩ : ∃ x, x = (w3.alloc (.cells #[.int .i64 qn, .int .i64 qd] 52)) := ⟨_, rfl⟩
    rw [← hv]
    have hx : Ext w3 vb11 := by rw [hv]; exact (Ext.refl _).alloc _
    have B4 : Held vb11 w3.heap.size 52 #[.int .i64 qn, .int .i64 qd] := by rw [hv]; exact Held.new _ _ _
    clear hv
    generalize w3.heap.size = bb11 at *
    clear k0 k1 kl p0 p1 p2 p3 p4 p5 p6 p7 p8 p9 pl q0 q1 ql
    replace E := E.trans hx
    replace Z := Z.ext hx
    replace C := C.ext hx
    replace T1 := T1.ext hx
    replace B1 := B1.ext hx
    replace B2 := B2.ext hx
    replace B3 := B3.ext hx
    clear hx
    obtain ⟨k0, k1⟩ := B1.c2
    have kl := B1.lt
    obtain ⟨p0, p1, p2, p3, p4, p5, p6, p7, p8, p9⟩ := held_c10' B2
    have pl := B2.lt
    obtain ⟨q0, q1⟩ := B3.c2
    have ql := B3.lt
    obtain ⟨r0, r1⟩ := B4.c2
    have rl := B4.lt
    rcases Y with ⟨rfl, g4⟩ | rfl
    · go_wp2_with (first | (go_at_call 21; (with_reducible refine Calls.mono (works8_any _ Z) ?_); rintro e wk ⟨rfl, hk⟩))
      go_ret
      exact ⟨rfl, E.trans hk⟩
    · go_wp2_with (first | (go_at_call 21; (with_reducible refine Calls.mono (works8_any _ Z) ?_); rintro e wk ⟨rfl, hk⟩))
      go_ret
      exact ⟨rfl, E.trans hk⟩
  · go_upto_region 10 with (go_at_call 28; (with_reducible refine Calls.mono (NB4) ?_); rintro e w3 ⟨rfl, hx⟩; replace hx := AL.trans hx; clear NB4 AL; replace E := E.trans hx; replace Z := Z.ext hx; replace C := C.ext hx; replace T1 := T1.ext hx; replace B1 := B1.ext hx; replace B2 := B2.ext hx; replace B3 := B3.ext hx; clear hx; clear k0 k1 kl p0 p1 p2 p3 p4 p5 p6 p7 p8 p9 pl q0 q1 ql; obtain ⟨k0, k1⟩ := B1.c2; have kl := B1.lt; obtain ⟨p0, p1, p2, p3, p4, p5, p6, p7, p8, p9⟩ := held_c10' B2; have pl := B2.lt; obtain ⟨q0, q1⟩ := B3.c2; have ql := B3.lt)
    obtain ⟨vb11, hv⟩ : ∃ x, x = (w3.alloc (.cells #[.int .i64 qn, .int .i64 qd] 52)) := ⟨_, rfl⟩
    rw [← hv]
    have hx : Ext w3 vb11 := by rw [hv]; exact (Ext.refl _).alloc _
    have B4 : Held vb11 w3.heap.size 52 #[.int .i64 qn, .int .i64 qd] := by rw [hv]; exact Held.new _ _ _
    clear hv
    generalize w3.heap.size = bb11 at *
    clear k0 k1 kl p0 p1 p2 p3 p4 p5 p6 p7 p8 p9 pl q0 q1 ql
    replace E := E.trans hx
    replace Z := Z.ext hx
    replace C := C.ext hx
    replace T1 := T1.ext hx
    replace B1 := B1.ext hx
    replace B2 := B2.ext hx
    replace B3 := B3.ext hx
    clear hx
    obtain ⟨k0, k1⟩ := B1.c2
    have kl := B1.lt
    obtain ⟨p0, p1, p2, p3, p4, p5, p6, p7, p8, p9⟩ := held_c10' B2
    have pl := B2.lt
    obtain ⟨q0, q1⟩ := B3.c2
    have ql := B3.lt
    obtain ⟨r0, r1⟩ := B4.c2
    have rl := B4.lt
    rcases Y with ⟨rfl, g4⟩ | rfl
    · go_wp2_with (first | (go_at_call 21; (with_reducible refine Calls.mono (works8_any _ Z) ?_); rintro e wk ⟨rfl, hk⟩))
      go_ret
      exact ⟨rfl, E.trans hk⟩
    · go_wp2_with (first | (go_at_call 21; (with_reducible refine Calls.mono (works8_any _ Z) ?_); rintro e wk ⟨rfl, hk⟩))
      go_ret
      exact ⟨rfl, E.trans hk⟩

end Go.Proofs.YtlnjeklmkjgidaaDoor
