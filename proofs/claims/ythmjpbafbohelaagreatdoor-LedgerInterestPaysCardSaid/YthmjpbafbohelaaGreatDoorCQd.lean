/- The walk of LedgerInterestPays. -/
import Derived.Test.YthmjpbafbohelaaGreatDoorJ9
import Derived.Test.YthmjpbafbohelaaGreatDoorJ13
namespace Go.Proofs.YthmjpbafbohelaaGreatDoor
open Go Go.RowKit Go.Shelf
attribute [local go_sem] gv_yes
attribute [local go_sem high] eql_ratio

set_option maxRecDepth 100000 in
set_option maxHeartbeats 4000000 in
theorem ledgerInterestPays_walk (p r : Rt) (k : Int) (hp : p.In) (hr : r.In) (hk1 : -9223372036854775808 ≤ k) (hk2 : k ≤ 9223372036854775807) (w : World) (hZ : Zro w) :
    Calls Tryz.prog 3 #[.agg #[.int .i64 p.n, .int .i64 p.d], .agg #[.int .i64 r.n, .int .i64 r.d], .int .i64 k] w fun e w' => e = .returned (.bool true) ∧ Ext w w' := by
  have NA := fun w hz => interest_any p r k hp hr hk1 hk2 w hz
  have NB := fun w => interestR_any p r k hp hr hk1 hk2 w
  have NC := fun w => doubles_any r hr w
  have ND := fun w => doublesR_any r hr w
  generalize intV p r k = V at *
  generalize dblV r = D at *
  obtain ⟨⟨vn, vd⟩, vc⟩ := V
  obtain ⟨dn, dc⟩ := D
  simp only at NA NB NC ND
  go_enter Tryz.func3, Tryz.ntmps3
  go_upto_region 1 with (fail)
  obtain ⟨v, hv⟩ : ∃ v, v = ((w.alloc (.cells #[.int .i64 p.n, .int .i64 p.d] 23)).alloc (.cells #[.int .i64 r.n, .int .i64 r.d] 23)) := ⟨_, rfl⟩
  rw [← hv]
  have E : Ext w v := by rw [hv]; exact ((Ext.refl _).alloc _).alloc _
  have B1 : Held v w.heap.size 23 #[.int .i64 p.n, .int .i64 p.d] := by rw [hv]; exact (Held.new _ _ _).alloc _
  have B2 : Held v (w.heap.size + 1) 23 #[.int .i64 r.n, .int .i64 r.d] := by rw [hv]; exact Held.at _ _ _ _ (by simp)
  clear hv
  obtain ⟨b2, hb2⟩ : ∃ b, b = w.heap.size + 1 := ⟨_, rfl⟩
  rw [← hb2] at B2 ⊢
  obtain ⟨b1, hb1⟩ : ∃ b, b = w.heap.size := ⟨_, rfl⟩
  rw [← hb1] at B1 ⊢
  have hbr : w.heap.size ≤ b2 := by omega
  have hbr1 : w.heap.size ≤ b1 := by omega
  have hn21 : b2 ≠ b1 := by omega
  clear hb1 hb2
  have Z := hZ.ext E
  obtain ⟨k0, k1⟩ := B1.c2
  have kl := B1.lt
  obtain ⟨p0, p1⟩ := B2.c2
  have pl := B2.lt
  go_upto_region 2 with (go_at_call 11; (with_reducible refine Calls.mono (NA _ Z) ?_); rintro e w1 ⟨rfl, hx⟩; replace E := E.trans hx; replace Z := Z.ext hx; replace B1 := B1.ext hx; replace B2 := B2.ext hx; clear hx; clear k0 k1 kl p0 p1 pl; obtain ⟨k0, k1⟩ := B1.c2; have kl := B1.lt; obtain ⟨p0, p1⟩ := B2.c2; have pl := B2.lt)
  obtain ⟨vb1, hv⟩ : ∃ x, x = (w1.alloc (.cells #[.int .i64 vn, .int .i64 vd] 23)) := ⟨_, rfl⟩
  rw [← hv]
  have hx : Ext w1 vb1 := by rw [hv]; exact (Ext.refl _).alloc _
  have B3 : Held vb1 w1.heap.size 23 #[.int .i64 vn, .int .i64 vd] := by rw [hv]; exact Held.new _ _ _
  clear hv
  generalize w1.heap.size = bb1 at *
  clear k0 k1 kl p0 p1 pl
  replace E := E.trans hx
  replace Z := Z.ext hx
  replace B1 := B1.ext hx
  replace B2 := B2.ext hx
  clear hx
  obtain ⟨k0, k1⟩ := B1.c2
  have kl := B1.lt
  obtain ⟨p0, p1⟩ := B2.c2
  have pl := B2.lt
  obtain ⟨q0, q1⟩ := B3.c2
  have ql := B3.lt
  go_upto_region 3 with (go_at_call 12; (with_reducible refine Calls.mono (NB _) ?_); rintro e w2 ⟨rfl, hx⟩; replace E := E.trans hx; replace Z := Z.ext hx; replace B1 := B1.ext hx; replace B2 := B2.ext hx; replace B3 := B3.ext hx; clear hx; clear k0 k1 kl p0 p1 pl q0 q1 ql; obtain ⟨k0, k1⟩ := B1.c2; have kl := B1.lt; obtain ⟨p0, p1⟩ := B2.c2; have pl := B2.lt; obtain ⟨q0, q1⟩ := B3.c2; have ql := B3.lt)
  obtain ⟨vb2, hv⟩ : ∃ x, x = (w2.alloc (.cells #[.int .i64 vn, .int .i64 vd] 23)) := ⟨_, rfl⟩
  rw [← hv]
  have hx : Ext w2 vb2 := by rw [hv]; exact (Ext.refl _).alloc _
  have B4 : Held vb2 w2.heap.size 23 #[.int .i64 vn, .int .i64 vd] := by rw [hv]; exact Held.new _ _ _
  clear hv
  generalize w2.heap.size = bb2 at *
  clear k0 k1 kl p0 p1 pl q0 q1 ql
  replace E := E.trans hx
  replace Z := Z.ext hx
  replace B1 := B1.ext hx
  replace B2 := B2.ext hx
  replace B3 := B3.ext hx
  clear hx
  obtain ⟨k0, k1⟩ := B1.c2
  have kl := B1.lt
  obtain ⟨p0, p1⟩ := B2.c2
  have pl := B2.lt
  obtain ⟨q0, q1⟩ := B3.c2
  have ql := B3.lt
  obtain ⟨r0, r1⟩ := B4.c2
  have rl := B4.lt
  go_wp2_with (first | (go_at_call 13; (with_reducible refine Calls.mono (NC _) ?_); rintro e w3 ⟨rfl, hx⟩; replace E := E.trans hx; replace Z := Z.ext hx; replace B1 := B1.ext hx; replace B2 := B2.ext hx; replace B3 := B3.ext hx; replace B4 := B4.ext hx; clear hx; clear k0 k1 kl p0 p1 pl q0 q1 ql r0 r1 rl; obtain ⟨k0, k1⟩ := B1.c2; have kl := B1.lt; obtain ⟨p0, p1⟩ := B2.c2; have pl := B2.lt; obtain ⟨q0, q1⟩ := B3.c2; have ql := B3.lt; obtain ⟨r0, r1⟩ := B4.c2; have rl := B4.lt) | (go_at_call 14; (with_reducible refine Calls.mono (ND _) ?_); rintro e w4 ⟨rfl, hx⟩; replace E := E.trans hx; replace Z := Z.ext hx; replace B1 := B1.ext hx; replace B2 := B2.ext hx; replace B3 := B3.ext hx; replace B4 := B4.ext hx; clear hx; clear k0 k1 kl p0 p1 pl q0 q1 ql r0 r1 rl; obtain ⟨k0, k1⟩ := B1.c2; have kl := B1.lt; obtain ⟨p0, p1⟩ := B2.c2; have pl := B2.lt; obtain ⟨q0, q1⟩ := B3.c2; have ql := B3.lt; obtain ⟨r0, r1⟩ := B4.c2; have rl := B4.lt) | (go_at_call 15; (with_reducible refine Calls.mono (works8_any _ Z) ?_); rintro e wk ⟨rfl, hk⟩))
  go_ret
  exact ⟨rfl, E.trans hk⟩

end Go.Proofs.YthmjpbafbohelaaGreatDoor
