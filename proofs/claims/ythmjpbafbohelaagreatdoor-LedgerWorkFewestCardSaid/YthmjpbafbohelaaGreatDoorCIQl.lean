/- The walk of LedgerWorkFewest. -/
import Derived.Test.YthmjpbafbohelaaGreatDoorI11
import Derived.Test.YthmjpbafbohelaaGreatDoorI16
namespace Go.Proofs.YthmjpbafbohelaaGreatDoor
open Go Go.RowKit Go.Shelf
attribute [local go_sem] gv_yes
attribute [local go_sem high] eql_ratio
section
variable {W : World} {b : Nat} {t : TypeId} {v0 v1 v2 v3 v4 v5 v6 v7 v8 v9 v10 v11 v12 : Value}
theorem heldQ_c10 (h : Held W b t #[v0, v1, v2, v3, v4, v5, v6, v7, v8, v9]) : W.cell? ⟨b, 0, none⟩ = some v0 ∧ W.cell? ⟨b, 1, none⟩ = some v1 ∧ W.cell? ⟨b, 2, none⟩ = some v2 ∧ W.cell? ⟨b, 3, none⟩ = some v3 ∧ W.cell? ⟨b, 4, none⟩ = some v4 ∧ W.cell? ⟨b, 5, none⟩ = some v5 ∧ W.cell? ⟨b, 6, none⟩ = some v6 ∧ W.cell? ⟨b, 7, none⟩ = some v7 ∧ W.cell? ⟨b, 8, none⟩ = some v8 ∧ W.cell? ⟨b, 9, none⟩ = some v9 := ⟨h.cell 0, h.cell 1, h.cell 2, h.cell 3, h.cell 4, h.cell 5, h.cell 6, h.cell 7, h.cell 8, h.cell 9⟩
theorem heldQ_c13 (h : Held W b t #[v0, v1, v2, v3, v4, v5, v6, v7, v8, v9, v10, v11, v12]) : W.cell? ⟨b, 0, none⟩ = some v0 ∧ W.cell? ⟨b, 1, none⟩ = some v1 ∧ W.cell? ⟨b, 2, none⟩ = some v2 ∧ W.cell? ⟨b, 3, none⟩ = some v3 ∧ W.cell? ⟨b, 4, none⟩ = some v4 ∧ W.cell? ⟨b, 5, none⟩ = some v5 ∧ W.cell? ⟨b, 6, none⟩ = some v6 ∧ W.cell? ⟨b, 7, none⟩ = some v7 ∧ W.cell? ⟨b, 8, none⟩ = some v8 ∧ W.cell? ⟨b, 9, none⟩ = some v9 ∧ W.cell? ⟨b, 10, none⟩ = some v10 ∧ W.cell? ⟨b, 11, none⟩ = some v11 ∧ W.cell? ⟨b, 12, none⟩ = some v12 := ⟨h.cell 0, h.cell 1, h.cell 2, h.cell 3, h.cell 4, h.cell 5, h.cell 6, h.cell 7, h.cell 8, h.cell 9, h.cell 10, h.cell 11, h.cell 12⟩
end
set_option maxRecDepth 100000 in
set_option maxHeartbeats 4000000 in
theorem ledgerWorkFewest_walk (A A' : Option Addr) (ca cb : Nat) (c : Cal) (T : Option Addr) (nt capt : Nat) (t : Nat → Tk) (s : Rt) (d d2 : Dt) (w : World) (hC : CalAt w A ca A' cb c) (hT : RowsAt w T nt 4 (taskr t)) (hnt : nt ≤ 9223372036854775807) (hint : ∀ i, i < nt → (t i).a.In ∧ (t i).r.In) (hs : s.In) (hZ : Zro w) :
  Calls Tryz.prog 4 #[.agg #[.slice A c.nk ca, .slice A' c.ny cb], .slice T nt capt, .agg #[.int .i64 s.n, .int .i64 s.d, .int .i64 d.y, .int .i64 d.m, .bool d.s, .int .i64 d.d, .int .i64 d2.y, .int .i64 d2.m, .bool d2.s, .int .i64 d2.d]] w fun e w' => e = .returned (.bool true) ∧ Ext w w' := by
 have N1 := fun v h1 h2 z => fewest_any A A' ca cb c T nt capt t s hs d d2 v h1 hint h2 hnt z
 have N2 := fun v h1 h2 => fewestR_any A A' ca cb c T nt capt t s hs d d2 v h1 hint h2 hnt
 generalize c.fewV t nt s d d2 = V at *
 obtain ⟨vn, ve⟩ := V
 simp only at N1 N2
 go_enter Tryz.func4, Tryz.ntmps4
 go_upto_region 1 with (fail)
 obtain ⟨v, hv⟩ : ∃ v, v = ((w.alloc (.cells #[.slice A c.nk ca, .slice A' c.ny cb] 34)).alloc (.cells #[.int .i64 s.n, .int .i64 s.d, .int .i64 d.y, .int .i64 d.m, .bool d.s, .int .i64 d.d, .int .i64 d2.y, .int .i64 d2.m, .bool d2.s, .int .i64 d2.d] 39)) := ⟨_, rfl⟩
 rw [← hv]
 have E : Ext w v := by rw [hv]; exact ((Ext.refl _).alloc _).alloc _
 have B1 : Held v w.heap.size 34 #[.slice A c.nk ca, .slice A' c.ny cb] := by rw [hv]; exact (Held.new _ _ _).alloc _
 have B2 : Held v (w.heap.size + 1) 39 #[.int .i64 s.n, .int .i64 s.d, .int .i64 d.y, .int .i64 d.m, .bool d.s, .int .i64 d.d, .int .i64 d2.y, .int .i64 d2.m, .bool d2.s, .int .i64 d2.d] := by rw [hv]; exact Held.at _ _ _ _ (by simp)
 clear hv
 obtain ⟨b2, hb2⟩ : ∃ b, b = w.heap.size + 1 := ⟨_, rfl⟩
 rw [← hb2] at B2 ⊢
 obtain ⟨b1, hb1⟩ : ∃ b, b = w.heap.size := ⟨_, rfl⟩
 rw [← hb1] at B1 ⊢
 have hbr : w.heap.size ≤ b2 := by omega
 have hbr1 : w.heap.size ≤ b1 := by omega
 have hn21 : b2 ≠ b1 := by omega
 clear hb1 hb2
 have Z := hZ.ext E
 have C := hC.ext E
 have RT := hT.ext E
 obtain ⟨k0, k1⟩ := B1.c2
 have kl := B1.lt
 obtain ⟨p0, p1, p2, p3, p4, p5, p6, p7, p8, p9⟩ := heldQ_c10 B2
 have pl := B2.lt
 go_wp2_with (first | (go_at_call 16; (with_reducible refine Calls.mono (N1 _ C RT Z) ?_); rintro e w1 ⟨rfl, hx⟩; replace E := E.trans hx; replace Z := Z.ext hx; replace C := C.ext hx; replace RT := RT.ext hx; replace B1 := B1.ext hx; replace B2 := B2.ext hx; clear hx; clear k0 k1 kl p0 p1 p2 p3 p4 p5 p6 p7 p8 p9 pl; obtain ⟨k0, k1⟩ := B1.c2; have kl := B1.lt; obtain ⟨p0, p1, p2, p3, p4, p5, p6, p7, p8, p9⟩ := heldQ_c10 B2; have pl := B2.lt) | (go_at_call 17; (with_reducible refine Calls.mono (N2 _ C RT) ?_); rintro e w2 ⟨rfl, hx⟩; replace E := E.trans hx; replace Z := Z.ext hx; replace C := C.ext hx; replace RT := RT.ext hx; replace B1 := B1.ext hx; replace B2 := B2.ext hx; clear hx; clear k0 k1 kl p0 p1 p2 p3 p4 p5 p6 p7 p8 p9 pl; obtain ⟨k0, k1⟩ := B1.c2; have kl := B1.lt; obtain ⟨p0, p1, p2, p3, p4, p5, p6, p7, p8, p9⟩ := heldQ_c10 B2; have pl := B2.lt) | (go_at_call 15; (with_reducible refine Calls.mono (works8_any _ Z) ?_); rintro e wk ⟨rfl, hk⟩))
 go_ret
 exact ⟨rfl, E.trans hk⟩
end Go.Proofs.YthmjpbafbohelaaGreatDoor
