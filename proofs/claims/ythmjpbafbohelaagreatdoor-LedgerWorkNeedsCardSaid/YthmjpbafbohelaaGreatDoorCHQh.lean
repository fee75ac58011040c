/- The walk of LedgerWorkNeeds. -/
import Derived.Test.YthmjpbafbohelaaGreatDoorH11
import Derived.Test.YthmjpbafbohelaaGreatDoorH16
namespace Go.Proofs.YthmjpbafbohelaaGreatDoor
open Go Go.RowKit Go.Shelf
attribute [local go_sem] gv_yes
attribute [local go_sem high] eql_ratio
set_option maxRecDepth 100000 in
set_option maxHeartbeats 4000000 in
theorem ledgerWorkNeeds_walk (A A' : Option Addr) (ca cb : Nat) (c : Cal) (T : Option Addr) (nt capt : Nat) (t : Nat → Tk) (S : Option Addr) (n cap : Nat) (f : Nat → Cw) (w : World) (hC : CalAt w A ca A' cb c) (hT : RowsAt w T nt 4 (taskr t)) (hnt : nt ≤ 9223372036854775807) (hint : ∀ i, i < nt → (t i).a.In ∧ (t i).r.In) (hS : RowsAt w S n 11 (crewr f)) (hn : n ≤ 9223372036854775807) (hin : ∀ i, i < n → (f i).s.In ∧ -9223372036854775808 ≤ (f i).w ∧ (f i).w ≤ 9223372036854775807) (hZ : Zro w) :
  Calls Tryz.prog 7 #[.agg #[.slice A c.nk ca, .slice A' c.ny cb], .slice T nt capt, .slice S n cap] w fun e w' => e = .returned (.bool true) ∧ Ext w w' := by
 have N1 := fun w h z => needed_any T nt capt t w hint h hnt z
 have N2 := fun w h => neededR_any T nt capt t w hint h hnt
 have N3 := fun v h1 h2 z => availableX_any A A' ca cb c S n cap f v h1 hin h2 hn z
 have N4 := fun v h1 h2 => availableR_any A A' ca cb c S n cap f v h1 hin h2 hn
 have N5 := fun v h1 h2 h3 z => balance_any A A' ca cb c T nt capt t S n cap f v h1 hint h2 hnt hin h3 hn z
 have N6 := fun v h1 h2 h3 => balanceR_any A A' ca cb c T nt capt t S n cap f v h1 hint h2 hnt hin h3 hn
 generalize c.balV t nt f n = D at *
 generalize needV t nt = N at *
 generalize c.availX f n = V at *
 obtain ⟨⟨Nn, Nd⟩, Nc⟩ := N
 obtain ⟨⟨Vn, Vd⟩, Ve⟩ := V
 obtain ⟨⟨Dn, Dd⟩, De⟩ := D
 simp only at N1 N2 N3 N4 N5 N6
 go_enter Tryz.func7, Tryz.ntmps7
 go_upto_region 1 with (fail)
 obtain ⟨v, hv⟩ : ∃ v, v = (w.alloc (.cells #[.slice A c.nk ca, .slice A' c.ny cb] 34)) := ⟨_, rfl⟩
 rw [← hv]
 have E : Ext w v := by rw [hv]; exact (Ext.refl _).alloc _
 have B1 : Held v w.heap.size 34 #[.slice A c.nk ca, .slice A' c.ny cb] := by rw [hv]; exact (Held.new _ _ _)
 clear hv
 obtain ⟨b1, hb1⟩ : ∃ b, b = w.heap.size := ⟨_, rfl⟩
 rw [← hb1] at B1 ⊢
 have hbr : w.heap.size ≤ b1 := by omega
 clear hb1
 have Z := hZ.ext E
 have C := hC.ext E
 have RT := hT.ext E
 have RS := hS.ext E
 obtain ⟨k0, k1⟩ := B1.c2
 have kl := B1.lt
 go_upto_region 2 with (go_at_call 34; (with_reducible refine Calls.mono (N1 _ RT Z) ?_); rintro e w1 ⟨rfl, hx⟩; replace E := E.trans hx; replace Z := Z.ext hx; replace C := C.ext hx; replace RT := RT.ext hx; replace RS := RS.ext hx; replace B1 := B1.ext hx; clear hx; clear k0 k1 kl; obtain ⟨k0, k1⟩ := B1.c2; have kl := B1.lt)
 have hA0 := E.size
 have hA1 : w1.heap.size ≠ b1 := by have := B1.lt; omega
 obtain ⟨vb1, hv⟩ : ∃ x, x = (w1.alloc (.cells #[.int .i64 Nn, .int .i64 Nd] 23)) := ⟨_, rfl⟩
 rw [← hv]
 have hx : Ext w1 vb1 := by rw [hv]; exact (Ext.refl _).alloc _
 have BA : Held vb1 w1.heap.size 23 #[.int .i64 Nn, .int .i64 Nd] := by rw [hv]; exact Held.new _ _ _
 clear hv
 generalize w1.heap.size = bb1 at *
 clear k0 k1 kl
 replace E := E.trans hx
 replace Z := Z.ext hx
 replace C := C.ext hx
 replace RT := RT.ext hx
 replace RS := RS.ext hx
 replace B1 := B1.ext hx
 clear hx
 obtain ⟨k0, k1⟩ := B1.c2
 have kl := B1.lt
 obtain ⟨x0, x1⟩ := BA.c2
 have xl := BA.lt
 go_upto_region 3 with (go_at_call 35; (with_reducible refine Calls.mono (N2 _ RT) ?_); rintro e w2 ⟨rfl, hx⟩; replace E := E.trans hx; replace Z := Z.ext hx; replace C := C.ext hx; replace RT := RT.ext hx; replace RS := RS.ext hx; replace B1 := B1.ext hx; replace BA := BA.ext hx; clear hx; clear k0 k1 kl x0 x1 xl; obtain ⟨k0, k1⟩ := B1.c2; have kl := B1.lt; obtain ⟨x0, x1⟩ := BA.c2; have xl := BA.lt)
 have hB0 := E.size
 have hB1 : w2.heap.size ≠ b1 := by have := B1.lt; omega
 have hBA : w2.heap.size ≠ bb1 := by have := BA.lt; omega
 obtain ⟨vb2, hv⟩ : ∃ x, x = (w2.alloc (.cells #[.int .i64 Nn, .int .i64 Nd] 23)) := ⟨_, rfl⟩
 rw [← hv]
 have hx : Ext w2 vb2 := by rw [hv]; exact (Ext.refl _).alloc _
 have BB : Held vb2 w2.heap.size 23 #[.int .i64 Nn, .int .i64 Nd] := by rw [hv]; exact Held.new _ _ _
 clear hv
 generalize w2.heap.size = bb2 at *
 clear k0 k1 kl x0 x1 xl
 replace E := E.trans hx
 replace Z := Z.ext hx
 replace C := C.ext hx
 replace RT := RT.ext hx
 replace RS := RS.ext hx
 replace B1 := B1.ext hx
 replace BA := BA.ext hx
 clear hx
 obtain ⟨k0, k1⟩ := B1.c2
 have kl := B1.lt
 obtain ⟨x0, x1⟩ := BA.c2
 have xl := BA.lt
 obtain ⟨y0, y1⟩ := BB.c2
 have yl := BB.lt
 go_upto_region 5 with (go_at_call 36; (with_reducible refine Calls.mono (N3 _ C RS Z) ?_); rintro e w3 ⟨rfl, hx⟩; replace E := E.trans hx; replace Z := Z.ext hx; replace C := C.ext hx; replace RT := RT.ext hx; replace RS := RS.ext hx; replace B1 := B1.ext hx; replace BA := BA.ext hx; replace BB := BB.ext hx; clear hx; clear k0 k1 kl x0 x1 xl y0 y1 yl; obtain ⟨k0, k1⟩ := B1.c2; have kl := B1.lt; obtain ⟨x0, x1⟩ := BA.c2; have xl := BA.lt; obtain ⟨y0, y1⟩ := BB.c2; have yl := BB.lt; have f0 := BA.frozen 0; have f1 := BA.frozen 1)
 have X2 := held_two BA (.int .i64 Vn) (.int .i64 Vd)
 have E2 := (E.setCell (p := ⟨bb1, 0, none⟩) hA0 (.int .i64 Vn)).setCell (p := ⟨bb1, 1, none⟩) hA0 (.int .i64 Vd)
 have BB' := held_oth (held_oth BB hBA 0 (.int .i64 Vn)) hBA 1 (.int .i64 Vd)
 have B1' := held_oth (held_oth B1 (Ne.symm hA1) 0 (.int .i64 Vn)) (Ne.symm hA1) 1 (.int .i64 Vd)
 clear k0 k1 kl x0 x1 xl y0 y1 yl
 clear f0 f1
 replace BA := X2
 replace E := E2
 replace BB := BB'
 replace B1 := B1'
 clear X2 E2 BB' B1'
 replace Z := hZ.ext E
 replace C := hC.ext E
 replace RT := hT.ext E
 replace RS := hS.ext E
 generalize (World.setCell w3 _ _).setCell _ _ = w4 at *
 obtain ⟨k0, k1⟩ := B1.c2
 have kl := B1.lt
 obtain ⟨x0, x1⟩ := BA.c2
 have xl := BA.lt
 obtain ⟨y0, y1⟩ := BB.c2
 have yl := BB.lt
 go_upto_region 6 with (go_at_call 37; (with_reducible refine Calls.mono (N4 _ C RS) ?_); rintro e w5 ⟨rfl, hx⟩; replace E := E.trans hx; replace Z := Z.ext hx; replace C := C.ext hx; replace RT := RT.ext hx; replace RS := RS.ext hx; replace B1 := B1.ext hx; replace BA := BA.ext hx; replace BB := BB.ext hx; clear hx; clear k0 k1 kl x0 x1 xl y0 y1 yl; obtain ⟨k0, k1⟩ := B1.c2; have kl := B1.lt; obtain ⟨x0, x1⟩ := BA.c2; have xl := BA.lt; obtain ⟨y0, y1⟩ := BB.c2; have yl := BB.lt; have f0 := BB.frozen 0; have f1 := BB.frozen 1)
 have X2 := held_two BB (.int .i64 Vn) (.int .i64 Vd)
 have E2 := (E.setCell (p := ⟨bb2, 0, none⟩) hB0 (.int .i64 Vn)).setCell (p := ⟨bb2, 1, none⟩) hB0 (.int .i64 Vd)
 have BA' := held_oth (held_oth BA (Ne.symm hBA) 0 (.int .i64 Vn)) (Ne.symm hBA) 1 (.int .i64 Vd)
 have B1' := held_oth (held_oth B1 (Ne.symm hB1) 0 (.int .i64 Vn)) (Ne.symm hB1) 1 (.int .i64 Vd)
 clear k0 k1 kl x0 x1 xl y0 y1 yl
 clear f0 f1
 replace BB := X2
 replace E := E2
 replace BA := BA'
 replace B1 := B1'
 clear X2 E2 BA' B1'
 replace Z := hZ.ext E
 replace C := hC.ext E
 replace RT := hT.ext E
 replace RS := hS.ext E
 generalize (World.setCell w5 _ _).setCell _ _ = w6 at *
 obtain ⟨k0, k1⟩ := B1.c2
 have kl := B1.lt
 obtain ⟨x0, x1⟩ := BA.c2
 have xl := BA.lt
 obtain ⟨y0, y1⟩ := BB.c2
 have yl := BB.lt
 go_upto_region 8 with (go_at_call 38; (with_reducible refine Calls.mono (N5 _ C RT RS Z) ?_); rintro e w7 ⟨rfl, hx⟩; replace E := E.trans hx; replace Z := Z.ext hx; replace C := C.ext hx; replace RT := RT.ext hx; replace RS := RS.ext hx; replace B1 := B1.ext hx; replace BA := BA.ext hx; replace BB := BB.ext hx; clear hx; clear k0 k1 kl x0 x1 xl y0 y1 yl; obtain ⟨k0, k1⟩ := B1.c2; have kl := B1.lt; obtain ⟨x0, x1⟩ := BA.c2; have xl := BA.lt; obtain ⟨y0, y1⟩ := BB.c2; have yl := BB.lt; have f0 := BA.frozen 0; have f1 := BA.frozen 1)
 have X2 := held_two BA (.int .i64 Dn) (.int .i64 Dd)
 have E2 := (E.setCell (p := ⟨bb1, 0, none⟩) hA0 (.int .i64 Dn)).setCell (p := ⟨bb1, 1, none⟩) hA0 (.int .i64 Dd)
 have BB' := held_oth (held_oth BB hBA 0 (.int .i64 Dn)) hBA 1 (.int .i64 Dd)
 have B1' := held_oth (held_oth B1 (Ne.symm hA1) 0 (.int .i64 Dn)) (Ne.symm hA1) 1 (.int .i64 Dd)
 clear k0 k1 kl x0 x1 xl y0 y1 yl
 clear f0 f1
 replace BA := X2
 replace E := E2
 replace BB := BB'
 replace B1 := B1'
 clear X2 E2 BB' B1'
 replace Z := hZ.ext E
 replace C := hC.ext E
 replace RT := hT.ext E
 replace RS := hS.ext E
 generalize (World.setCell w7 _ _).setCell _ _ = w8 at *
 obtain ⟨k0, k1⟩ := B1.c2
 have kl := B1.lt
 obtain ⟨x0, x1⟩ := BA.c2
 have xl := BA.lt
 obtain ⟨y0, y1⟩ := BB.c2
 have yl := BB.lt
 go_upto_region 9 with (go_at_call 39; (with_reducible refine Calls.mono (N6 _ C RT RS) ?_); rintro e w9 ⟨rfl, hx⟩; replace E := E.trans hx; replace Z := Z.ext hx; replace C := C.ext hx; replace RT := RT.ext hx; replace RS := RS.ext hx; replace B1 := B1.ext hx; replace BA := BA.ext hx; replace BB := BB.ext hx; clear hx; clear k0 k1 kl x0 x1 xl y0 y1 yl; obtain ⟨k0, k1⟩ := B1.c2; have kl := B1.lt; obtain ⟨x0, x1⟩ := BA.c2; have xl := BA.lt; obtain ⟨y0, y1⟩ := BB.c2; have yl := BB.lt; have f0 := BB.frozen 0; have f1 := BB.frozen 1)
 have X2 := held_two BB (.int .i64 Dn) (.int .i64 Dd)
 have E2 := (E.setCell (p := ⟨bb2, 0, none⟩) hB0 (.int .i64 Dn)).setCell (p := ⟨bb2, 1, none⟩) hB0 (.int .i64 Dd)
 have BA' := held_oth (held_oth BA (Ne.symm hBA) 0 (.int .i64 Dn)) (Ne.symm hBA) 1 (.int .i64 Dd)
 have B1' := held_oth (held_oth B1 (Ne.symm hB1) 0 (.int .i64 Dn)) (Ne.symm hB1) 1 (.int .i64 Dd)
 clear k0 k1 kl x0 x1 xl y0 y1 yl
 clear f0 f1
 replace BB := X2
 replace E := E2
 replace BA := BA'
 replace B1 := B1'
 clear X2 E2 BA' B1'
 replace Z := hZ.ext E
 replace C := hC.ext E
 replace RT := hT.ext E
 replace RS := hS.ext E
 generalize (World.setCell w9 _ _).setCell _ _ = w10 at *
 obtain ⟨k0, k1⟩ := B1.c2
 have kl := B1.lt
 obtain ⟨x0, x1⟩ := BA.c2
 have xl := BA.lt
 obtain ⟨y0, y1⟩ := BB.c2
 have yl := BB.lt
 clear N1 N2 N3 N4 N5 N6
 go_wp2_with (go_at_call 15; (with_reducible refine Calls.mono (works8_any _ Z) ?_); rintro e wk ⟨rfl, hk⟩)
 go_ret
 exact ⟨rfl, E.trans hk⟩
end Go.Proofs.YthmjpbafbohelaaGreatDoor
