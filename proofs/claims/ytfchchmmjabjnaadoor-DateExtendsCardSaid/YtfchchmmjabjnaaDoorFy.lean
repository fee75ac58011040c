/- DateExtends: for every input the law returns true, and each argument reads as before; the tables listed in the row are as the program's text lays them. -/
import Derived.Test.YtfchchmmjabjnaaDoorOz
import Derived.Test.YtfchchmmjabjnaaDoorWk
import Derived.Test.YtfchchmmjabjnaaDoorLa
import Derived.Test.YtfchchmmjabjnaaDoorYs
namespace Go.Proofs.YtfchchmmjabjnaaDoor
open Go Go.RowKit
attribute [local go_sem] gv_yes

set_option maxRecDepth 100000 in
set_option maxHeartbeats 4000000 in
theorem dateExtends_walk (hwk : WorksOk) (A A' : Option Addr) (ca cb : Nat) (c : Cal) (Bt : Option Addr) (n cap : Nat) (g : Nat → ByteArray) (p : Int) (hnB : Bt = none → n = 0 ∧ cap = 0) (hsB : n * 16 ≤ 140737488351232) (w : World) (hT : RowsAt w Bt n 1 (fun i => [.string (g i)])) (hC : CalAt w A ca A' cb c) (hnA : A = none → c.nk = 0 ∧ ca = 0) (hnA' : A' = none → c.ny = 0 ∧ cb = 0) (hk : c.nk * 16 ≤ 140737488351232) (hy : c.ny * 40 ≤ 140737488351232) :
    Calls Tryd.prog 20 #[.agg #[.slice A c.nk ca, .slice A' c.ny cb], .slice Bt n cap, .int .i64 p] w fun e w' => e = .returned (.bool true) ∧ Ext w w' := by
  have hwk : ∀ w : World, Calls Tryd.prog 28 #[] w fun e w' => e = .returned (.bool true) ∧ Ext w w' := hwk
  have NCP := fun v (h : CalAt v A ca A' cb c) => copy_any A A' ca cb c v h hnA hnA' hk hy
  have NSM := fun v {B B' : Option Addr} {da db : Nat} (h : CalAt v B da B' db c) (h' : CalAt v A ca A' cb c) => sameCal_any B B' A A' da db ca cb c v h h'
  have hn : n ≤ 9223372036854775807 := by omega
  have NTX := fun v (h : RowsAt v Bt n 1 (fun i => [.string (g i)])) => copyTexts_any Bt n cap g v h hnB hsB
  have N1 := fun v {B B' Bl : Option Addr} {da db ml : Nat} (h : CalAt v B da B' db c) (h' : RowsAt v Bl n 1 (strRow g)) => extend_any B B' Bl da db n ml c g p v h h' hn
  have M1 := fun v (h : CalAt v A ca A' cb c) (h' : RowsAt v Bt n 1 (fun i => [.string (g i)])) => extend_any_r A A' Bt ca cb n cap c g p v h h' hn
  have NET := fun v {Bl : Option Addr} {ml : Nat} (h : RowsAt v Bl n 1 (strRow g)) (h' : RowsAt v Bt n 1 (fun i => [.string (g i)])) => eqTexts_any Bl Bt n ml cap g v h h' hn
  generalize c.extV g n p = Y at *
  generalize c.extE g n p = e1 at *
  have NS1 := fun v {F F' G G' : Option Addr} {xa xb ya yb : Nat} (h : CalAt v F xa F' xb Y) (h' : CalAt v G ya G' yb Y) => sameCal_any F F' G G' xa xb ya yb Y v h h'
  clear hnA hnA' hk hy
  go_enter Tryd.func20, Tryd.ntmps20
  go_upto_region 1 with (fail)
  obtain ⟨v, hv⟩ : ∃ v, v = (w.alloc (.cells #[.slice A c.nk ca, .slice A' c.ny cb] 25)) := ⟨_, rfl⟩
  rw [← hv]
  have E : Ext w v := by rw [hv]; exact (Ext.refl _).alloc _
  have B1 : Held v w.heap.size 25 #[.slice A c.nk ca, .slice A' c.ny cb] := by rw [hv]; exact (Held.new _ _ _)
  clear hv
  have C := hC.ext E
  clear hC
  generalize w.heap.size = b1 at *
  obtain ⟨k0, k1⟩ := B1.c2; have lk := B1.lt
  have TL := hT.ext E
  clear hT
  go_upto_region 2 with (first | (go_at_call 23; (with_reducible refine Calls.mono (NCP _ C) ?_); rintro e v2 ⟨B, B', da, db, rfl, h2, D⟩) | (go_at_call 71; (with_reducible refine Calls.mono (NTX _ (TL.ext h2)) ?_); rintro e v3 ⟨Bl, ml, rfl, h3, LR, -, -, -, -⟩))
  replace D := D.ext h3
  have h := h2.trans h3
  clear h2 h3
  replace E := Ext.trans E h
  replace C := C.ext h
  replace B1 := B1.ext h
  replace TL := TL.ext h
  clear h
  clear k0 k1 lk
  obtain ⟨k0, k1⟩ := B1.c2; have lk := B1.lt
  obtain ⟨v4, hv⟩ : ∃ v, v = v3.alloc (.cells #[.slice B c.nk da, .slice B' c.ny db] 25) := ⟨_, rfl⟩
  rw [← hv]
  have h : Ext v3 v4 := by rw [hv]; exact (Ext.refl _).alloc _
  have B6 : Held v4 v3.heap.size 25 #[.slice B c.nk da, .slice B' c.ny db] := by rw [hv]; exact Held.new _ _ _
  clear hv
  generalize v3.heap.size = b9 at *
  replace E := Ext.trans E h
  replace C := C.ext h
  replace D := D.ext h
  replace B1 := B1.ext h
  replace TL := TL.ext h
  replace LR := LR.ext h
  clear h
  clear k0 k1 lk
  obtain ⟨k0, k1⟩ := B1.c2; have lk := B1.lt
  obtain ⟨t0, t1⟩ := B6.c2; have lt := B6.lt
  go_upto_region 3 with (go_at_call 72; (with_reducible refine Calls.mono (N1 _ D LR) ?_); rintro e v5 ⟨F, F', xa, xb, rfl, h, X1⟩)
  replace E := Ext.trans E h
  replace C := C.ext h
  replace D := D.ext h
  replace B1 := B1.ext h
  replace B6 := B6.ext h
  replace TL := TL.ext h
  replace LR := LR.ext h
  clear h
  clear k0 k1 lk
  clear t0 t1 lt
  obtain ⟨k0, k1⟩ := B1.c2; have lk := B1.lt
  obtain ⟨t0, t1⟩ := B6.c2; have lt := B6.lt
  obtain ⟨v6, hv⟩ : ∃ v, v = v5.alloc (.cells #[.slice F Y.nk xa, .slice F' Y.ny xb] 25) := ⟨_, rfl⟩
  rw [← hv]
  have h : Ext v5 v6 := by rw [hv]; exact (Ext.refl _).alloc _
  have B3 : Held v6 v5.heap.size 25 #[.slice F Y.nk xa, .slice F' Y.ny xb] := by rw [hv]; exact Held.new _ _ _
  clear hv
  generalize v5.heap.size = b7 at *
  replace E := Ext.trans E h
  replace C := C.ext h
  replace D := D.ext h
  replace B1 := B1.ext h
  replace B6 := B6.ext h
  replace TL := TL.ext h
  replace LR := LR.ext h
  replace X1 := X1.ext h
  clear h
  clear k0 k1 lk
  clear t0 t1 lt
  obtain ⟨k0, k1⟩ := B1.c2; have lk := B1.lt
  obtain ⟨t0, t1⟩ := B6.c2; have lt := B6.lt
  obtain ⟨q0, q1⟩ := B3.c2; have lq := B3.lt
  go_upto_region 4 with (go_at_call 73; (with_reducible refine Calls.mono (M1 _ C TL) ?_); rintro e v7 ⟨G, G', ya, yb, rfl, h, X2⟩)
  replace E := Ext.trans E h
  replace C := C.ext h
  replace D := D.ext h
  replace B1 := B1.ext h
  replace B6 := B6.ext h
  replace B3 := B3.ext h
  replace TL := TL.ext h
  replace LR := LR.ext h
  replace X1 := X1.ext h
  clear h
  clear k0 k1 lk
  clear t0 t1 lt
  clear q0 q1 lq
  obtain ⟨k0, k1⟩ := B1.c2; have lk := B1.lt
  obtain ⟨t0, t1⟩ := B6.c2; have lt := B6.lt
  obtain ⟨q0, q1⟩ := B3.c2; have lq := B3.lt
  obtain ⟨v8, hv⟩ : ∃ v, v = v7.alloc (.cells #[.slice G Y.nk ya, .slice G' Y.ny yb] 25) := ⟨_, rfl⟩
  rw [← hv]
  have h : Ext v7 v8 := by rw [hv]; exact (Ext.refl _).alloc _
  have B4 : Held v8 v7.heap.size 25 #[.slice G Y.nk ya, .slice G' Y.ny yb] := by rw [hv]; exact Held.new _ _ _
  clear hv
  generalize v7.heap.size = b8 at *
  replace E := Ext.trans E h
  replace C := C.ext h
  replace D := D.ext h
  replace B1 := B1.ext h
  replace B6 := B6.ext h
  replace B3 := B3.ext h
  replace TL := TL.ext h
  replace LR := LR.ext h
  replace X1 := X1.ext h
  replace X2 := X2.ext h
  clear h
  clear k0 k1 lk
  clear t0 t1 lt
  clear q0 q1 lq
  obtain ⟨k0, k1⟩ := B1.c2; have lk := B1.lt
  obtain ⟨t0, t1⟩ := B6.c2; have lt := B6.lt
  obtain ⟨q0, q1⟩ := B3.c2; have lq := B3.lt
  obtain ⟨r0, r1⟩ := B4.c2; have lr := B4.lt
  go_wp2_with (first | (go_at_call 27; (with_reducible refine Calls.mono (NS1 _ X1 X2) ?_); rintro e v9 ⟨rfl, h7⟩; have D7 := D.ext h7; have C7 := C.ext h7; clear k0 k1 lk; obtain ⟨k0, k1⟩ := (B1.ext h7).c2; have lk := (B1.ext h7).lt; clear t0 t1 lt; obtain ⟨t0, t1⟩ := (B6.ext h7).c2; have lt := (B6.ext h7).lt) | (go_at_call 27; (with_reducible refine Calls.mono (NSM _ D7 C7) ?_); rintro e v10 ⟨rfl, h8⟩; have TL8 := (TL.ext h7).ext h8; have LR8 := (LR.ext h7).ext h8) | (go_at_call 74; (with_reducible refine Calls.mono (NET _ LR8 TL8) ?_); rintro e v11 ⟨rfl, h9⟩) | (go_at_call 28; (with_reducible refine Calls.mono (hwk _) ?_); rintro e v12 ⟨rfl, h10⟩))
  go_ret
  exact ⟨rfl, E.trans (h7.trans (h8.trans (h9.trans h10)))⟩
end Go.Proofs.YtfchchmmjabjnaaDoor

set_option maxRecDepth 100000
namespace Go.Proofs.YtfchchmmjabjnaaDoor.dateExtends
open Go Go.ChangeShapes Go.WideShapes Go.ChangeAt Go.RowKit

theorem reads (os : Os) {H : Type} (enc : TypeId × Value → H) : ∃ places, DataW.whole enc Tryd.prog ((World.doorLaid Tryd.prog 29 os).forCall (fun _ _ => 0) ⟨#[], #[.agg #[.slice none 0 0, .slice none 0 0], .slice none 0 0, .int .i64 0], []⟩).memory Tryd.f20.params.toList Rows.dateExtendsSpec.vars false (#[.agg #[.slice none 0 0, .slice none 0 0], .slice none 0 0, .int .i64 0] : Array Value).toList 8 = some ([.agg [.nil, .nil], .nil, .lit (.int .i64 0)], [], places) :=
  ⟨[], by kernel_rfl⟩
theorem contract (H : Type) (enc : TypeId × Value → H) (W : World) (base : Nat) (args : Array Value) (ds gs : List (DataW H)) (before : List MemPlace)
    (hval : ∀ (j : Nat) t v, Tryd.f20.params[j]? = some t → args[j]? = some v → Value.okWide Tryd.prog W .any base t v)
    (hW : DataW.Whole enc Tryd.prog Tryd.f20.params.toList Rows.dateExtendsSpec.vars false W args.toList ds gs before) (hsz0 : (DataW.weightsEach Tryd.prog (Tryd.f20.params.toList ++ (OpenSpec.ofChange Rows.dateExtendsSpec).bare.plain.varTypes Tryd.prog) (ds ++ gs)).all (· ≤ reachBytes) = true) :
    Calls Tryd.prog 20 args W fun e W' => ∃ v, e = .returned v ∧ Rows.dateExtendsSpec.post enc Tryd.prog Tryd.f20 false true false false W args v W' := by
  have hW' := hW
  obtain ⟨p, q, hA0, hV, rfl, _, _⟩ := hW
  obtain ⟨rfl, rfl⟩ := trodVars_none hV
  simp only [List.append_nil] at hW' hsz0
  have hA : DataW.TrodAll enc Tryd.prog W 0 (fun _ => true) true Tryd.f20.params.toList args.toList ds p := hA0
  rw [Tryd.params20] at hA hval hsz0
  have hsz : (DataW.weightsEach Tryd.prog [25, 22, 3] ds).all (· ≤ reachBytes) = true := hsz0
  clear hsz0
  obtain ⟨v0, vs0, d0, ds0, p0, q0, ha0, rfl, rfl, h0, r0⟩ := trodAll_cons hA
  obtain ⟨v1, vs1, d1, ds1, p1, q1, rfl, rfl, rfl, h1, r1⟩ := trodAll_cons r0
  obtain ⟨v2, vs2, d2, ds2, p2, q2, rfl, rfl, rfl, h2, r2⟩ := trodAll_cons r1
  obtain ⟨rfl, rfl, rfl⟩ := trodAll_nil r2
  obtain rfl : args = #[v0, v1, v2] := by cases args; simp_all
  obtain ⟨A, A', ca, cb, c, rfl, hC, hnA, hnA', hk, hy⟩ := cal_sized (hval 0 25 v0 rfl rfl) h0 (sized_arg hsz (j := 0) rfl rfl)
  obtain ⟨B, n, cap, f, rfl, hT, hcap, hmax, hnB, hsB⟩ := texts_sized (hval 1 22 v1 rfl rfl) h1 (sized_arg hsz (j := 1) rfl rfl)
  obtain ⟨z, rfl, hn2a, hn2b⟩ := int_open (hval 2 3 v2 rfl rfl) h2
  refine (dateExtends_walk works_any A A' ca cb c B n cap f z hnB hsB W hT hC hnA hnA' hk hy).mono fun e W' ⟨he, hx⟩ => ⟨_, he, ?_⟩
  exact law_post (by rw [Tryd.params20]; decide) rfl rfl rfl rfl rfl hA0 hW' hx
theorem lifted (os : Os) (started : os.Started) (H : Type) (enc : TypeId × Value → H) (F : Stop.Interp) :
    ReturnsInHanded {} Tryd.checked os 20 .any ((OpenSpec.ofChange Rows.dateExtendsSpec).preRow enc Tryd.prog Tryd.f20 Rows.dateExtendsRow.domain false Rows.dateExtendsRow.laid) (((OpenSpec.ofChange Rows.dateExtendsSpec).at F).post enc Tryd.prog Tryd.f20 false true false false) := by
  obtain ⟨places, hx⟩ := reads os enc
  refine returnsInHanded_of_row (C := Tryd.checked) (s := (OpenSpec.ofChange Rows.dateExtendsSpec)) own_none started (by kernel_rfl) Tryd.func20
    (witness_row_at (enc := enc) (C := Tryd.checked) false (World.doorLaid Tryd.prog 29 os) #[.agg #[.slice none 0 0, .slice none 0 0], .slice none 0 0, .int .i64 0] rfl (by kernel_rfl) (by kernel_rfl) (by kernel_rfl)
      (OpenSpec.preRow_of_cond 8 hx (by kernel_rfl) (fun k hk => by cases hk) (by kernel_rfl) (laid_met os _))) ?_
  intro W base args ds gs before hval hW _ _ hsz0 _ _ _
  exact contract H enc W base args ds gs before hval hW hsz0
set_option maxHeartbeats 40000000 in
theorem closed : joinedFacts Tryd.prog 20 Tryd.f20 Rows.dateExtendsSpec Rows.dateExtendsRow = true := by
  unfold joinedFacts
  rw [sh_laid, sh_maps, sh_keys, sh_heard, sh_may, sh_lift, sh_make]
  repeat' (with_reducible refine (Bool.and_eq_true_iff).2 ⟨?_, ?_⟩)
  all_goals (as_aux_lemma => kernel_rfl)
theorem said : Rows.DateExtendsSaid :=
  OpenClaim.holds_of_cond 20 Tryd.f20 rfl rfl rfl rfl rfl rfl rfl ⟨rfl, rfl, rfl, rfl, rfl⟩ rfl rfl rfl rfl rfl (by kernel_rfl) Tryd.func20 closed
    (of_decide_eq_true (by kernel_rfl)) (by unfold Func.isWrapper; first | (rw [if_pos (by decide +kernel)]; kernel_rfl) | (rw [if_neg (by decide +kernel)]; exact ⟨rfl, rfl⟩))
    (fun os started H enc _ F => by rw [OpenClaim.pre_eq_preRow]; exact lifted os started H enc F)
theorem plain (f : FuncId) (fn : Func) (hf : Tryd.pinned.checked.prog.funcNamed Rows.dateExtendsRow.func = some f) (hfn : Tryd.pinned.checked.prog.funcs[f]? = some fn) :
    false = Tryd.pinned.checked.prog.looks [] ∧ ∀ (j : Nat) t, fn.params[j]? = some t → Tryd.pinned.checked.prog.wantsStandIn t = false := by
  obtain rfl : f = 20 := Option.some.inj ((show Tryd.prog.funcNamed Rows.dateExtendsRow.func = some 20 by kernel_rfl).symm.trans hf) |>.symm
  obtain rfl : fn = Tryd.f20 := (Option.some.inj (Tryd.func20.symm.trans hfn)).symm
  refine ⟨by kernel_rfl, fun j t ht => ?_⟩
  rw [Tryd.params20] at ht
  have h := Array.mem_of_getElem? ht
  have h0 : ∀ t ∈ (#[25, 22, 3] : Array TypeId), Tryd.prog.wantsStandIn t = false := by
    intro t ht
    simp only [List.mem_toArray, List.mem_cons, List.not_mem_nil, or_false] at ht
    rcases ht with rfl | rfl | rfl <;> kernel_rfl
  exact h0 t h
theorem card : Rows.DateExtendsCardSaid :=
  Claim7.holds_tied_plain_at .later [] _ _ _ _ said (fun _ h => by cases h) (by kernel_rfl) (fun _ h => by cases h) dateExtends_row_tie rfl ⟨rfl, rfl⟩ (by kernel_rfl) rfl plain (by kernel_rfl)
end Go.Proofs.YtfchchmmjabjnaaDoor.dateExtends
