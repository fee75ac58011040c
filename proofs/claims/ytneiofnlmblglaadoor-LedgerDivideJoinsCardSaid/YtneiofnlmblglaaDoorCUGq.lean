/- LedgerDivideJoins: for every input the law returns true, and each argument reads as before; the variables listed in the row are as the program's text lays them. -/
import Derived.Test.YtneiofnlmblglaaDoorCUSd
import Derived.Test.YtneiofnlmblglaaDoorU12
import Derived.Test.YtneiofnlmblglaaDoorCUTq
set_option maxRecDepth 100000
set_option maxHeartbeats 4000000
set_option maxRecDepth 100000
namespace Go.Proofs.YtneiofnlmblglaaDoor.ledgerDivideJoins
open Go Go.ChangeShapes Go.WideShapes Go.ChangeAt Go.RowKit
theorem date8_open {H : Type} {enc : TypeId × Value → H} {w : World} {base : Nat} {spare : Nat → Bool} {held : Bool} {r : Reach} {b0 : Nat} {v : Value} {d : DataW H} {p : List MemPlace} (hv : Value.okWide Tryd.prog w r b0 27 v) (h : DataW.Trod enc Tryd.prog w base spare held 27 v d p) :
  ∃ d : Dt, v = .agg #[.int .i64 d.y, .int .i64 d.m, .bool d.s, .int .i64 d.d] := by
 obtain ⟨cs, rfl, _⟩ := okWide_struct Tryd.underlying27 hv
 obtain ⟨fuel, hf⟩ := h
 obtain ⟨d, hd⟩ := Lu hf
 obtain ⟨cs⟩ := cs
 have hd' : cs = [.int .i64 d.y, .int .i64 d.m, .bool d.s, .int .i64 d.d] := hd
 exact ⟨d, by rw [hd']⟩
theorem reads (os : Os) {H : Type} (enc : TypeId × Value → H) : ∃ places, DataW.whole enc Tryd.prog ((World.doorLaid Tryd.prog 29 os).forCall (fun _ _ => 0) ⟨#[], #[.agg #[.slice none 0 0, .slice none 0 0], .agg #[.string ⟨#[]⟩, .int .i64 0, .int .i64 0, .bool false, .int .i64 0, .int .i64 0, .int .i64 0, .bool false, .int .i64 0, .slice none 0 0, .slice none 0 0, .slice none 0 0], .agg #[.int .i64 0, .int .i64 0, .bool false, .int .i64 0]], []⟩).memory Tryd.f5.params.toList Rows.ledgerDivideJoinsSpec.vars false (#[.agg #[.slice none 0 0, .slice none 0 0], .agg #[.string ⟨#[]⟩, .int .i64 0, .int .i64 0, .bool false, .int .i64 0, .int .i64 0, .int .i64 0, .bool false, .int .i64 0, .slice none 0 0, .slice none 0 0, .slice none 0 0], .agg #[.int .i64 0, .int .i64 0, .bool false, .int .i64 0]] : Array Value).toList 8 = some ([.agg [.nil, .nil], .agg [.lit (.string []), .agg [.lit (.int .i64 0), .lit (.int .i64 0), .lit (.bool false), .lit (.int .i64 0)], .agg [.lit (.int .i64 0), .lit (.int .i64 0), .lit (.bool false), .lit (.int .i64 0)], .nil, .nil, .nil], .agg [.lit (.int .i64 0), .lit (.int .i64 0), .lit (.bool false), .lit (.int .i64 0)]], [], places) :=
 ⟨[], by kernel_rfl⟩
theorem contract (H : Type) (enc : TypeId × Value → H) (W : World) (base : Nat) (args : Array Value) (ds gs : List (DataW H)) (before : List MemPlace)
  (hval : ∀ (j : Nat) t v, Tryd.f5.params[j]? = some t → args[j]? = some v → Value.okWide Tryd.prog W .any base t v)
  (hW : DataW.Whole enc Tryd.prog Tryd.f5.params.toList Rows.ledgerDivideJoinsSpec.vars false W args.toList ds gs before) (hsz0 : (DataW.weightsEach Tryd.prog (Tryd.f5.params.toList ++ (OpenSpec.ofChange Rows.ledgerDivideJoinsSpec).bare.plain.varTypes Tryd.prog) (ds ++ gs)).all (· ≤ reachBytes) = true) (hL : laidMetH Tryd.prog Rows.ledgerDivideJoinsRow.laid W) :
  Calls Tryd.prog 5 args W fun e W' => ∃ v, e = .returned v ∧ Rows.ledgerDivideJoinsSpec.post enc Tryd.prog Tryd.f5 false true false false W args v W' := by
 have hZ : Zl W := Fk hL
 have hW' := hW
 obtain ⟨p, q, hA0, hV, rfl, _, _⟩ := hW
 obtain ⟨rfl, rfl⟩ := trodVars_none hV
 simp only [List.append_nil] at hW' hsz0
 have hA : DataW.TrodAll enc Tryd.prog W 0 (fun _ => true) true Tryd.f5.params.toList args.toList ds p := hA0
 rw [Tryd.params5] at hA hval hsz0
 have hsz : (DataW.weightsEach Tryd.prog [25, 31, 27] ds).all (· ≤ reachBytes) = true := hsz0
 clear hsz0
 obtain ⟨v0, vs0, d0, ds0, p0, q0, ha0, rfl, rfl, h0, r0⟩ := trodAll_cons hA
 obtain ⟨v1, vs1, d1, ds1, p1, q1, rfl, rfl, rfl, h1, r1⟩ := trodAll_cons r0
 obtain ⟨v2, vs2, d2, ds2, p2, q2, rfl, rfl, rfl, h2, r2⟩ := trodAll_cons r1
 obtain ⟨rfl, rfl, rfl⟩ := trodAll_nil r2
 obtain rfl : args = #[v0, v1, v2] := by cases args; simp_all
 obtain ⟨A, A', ca, cb, c, rfl, hC⟩ := Ob (hval 0 25 v0 rfl rfl) h0
 obtain ⟨p, vo, vd, vc, rfl, hP, hPL⟩ := Dv (hval 1 31 v1 rfl rfl) h1 (Gr hsz (j := 1) rfl rfl)
 obtain ⟨d, rfl⟩ := date8_open (hval 2 27 v2 rfl rfl) h2
 refine (ledgerDivideJoins_walk A A' ca cb c p vo vd vc d W hC hP hZ).mono fun e W' ⟨he, hx⟩ => ⟨_, he, ?_⟩
 exact O4 (by rw [Tryd.params5]; decide) rfl rfl rfl rfl rfl hA0 hW' hx
theorem lifted (os : Os) (started : os.Started) (H : Type) (enc : TypeId × Value → H) (F : Stop.Interp) :
  ReturnsInHanded {} Tryd.checked os 5 .any ((OpenSpec.ofChange Rows.ledgerDivideJoinsSpec).preRow enc Tryd.prog Tryd.f5 Rows.ledgerDivideJoinsRow.domain false Rows.ledgerDivideJoinsRow.laid) (((OpenSpec.ofChange Rows.ledgerDivideJoinsSpec).at F).post enc Tryd.prog Tryd.f5 false true false false) := by
 obtain ⟨places, hx⟩ := reads os enc
 refine returnsInHanded_of_row (C := Tryd.checked) (s := (OpenSpec.ofChange Rows.ledgerDivideJoinsSpec)) Gb started (by kernel_rfl) Tryd.func5
  (witness_row_at (enc := enc) (C := Tryd.checked) false (World.doorLaid Tryd.prog 29 os) #[.agg #[.slice none 0 0, .slice none 0 0], .agg #[.string ⟨#[]⟩, .int .i64 0, .int .i64 0, .bool false, .int .i64 0, .int .i64 0, .int .i64 0, .bool false, .int .i64 0, .slice none 0 0, .slice none 0 0, .slice none 0 0], .agg #[.int .i64 0, .int .i64 0, .bool false, .int .i64 0]] rfl (by kernel_rfl) (by kernel_rfl) (by kernel_rfl)
   (OpenSpec.preRow_of_cond 8 hx (by kernel_rfl) (fun k hk => by cases hk) (by kernel_rfl) (laid_met os _))) ?_
 intro W base args ds gs before hval hW _ _ hsz0 hlaid _ _
 exact contract H enc W base args ds gs before hval hW hsz0 hlaid
set_option maxHeartbeats 40000000 in
theorem closed : joinedFacts Tryd.prog 5 Tryd.f5 Rows.ledgerDivideJoinsSpec Rows.ledgerDivideJoinsRow = true := by
 unfold joinedFacts
 rw [sh_laid, sh_maps, sh_keys, sh_heard, sh_may, sh_lift, sh_make]
 repeat' (with_reducible refine (Bool.and_eq_true_iff).2 ⟨?_, ?_⟩)
 all_goals (as_aux_lemma => kernel_rfl)
theorem said : Rows.LedgerDivideJoinsSaid :=
 OpenClaim.holds_of_cond 5 Tryd.f5 rfl rfl rfl rfl rfl rfl rfl ⟨rfl, rfl, rfl, rfl, rfl⟩ rfl rfl rfl rfl rfl (by kernel_rfl) Tryd.func5 closed
  (of_decide_eq_true (by kernel_rfl)) (by unfold Func.isWrapper; first | (rw [if_pos (by decide +kernel)]; kernel_rfl) | (rw [if_neg (by decide +kernel)]; exact ⟨rfl, rfl⟩))
  (fun os started H enc _ F => by rw [OpenClaim.pre_eq_preRow]; exact lifted os started H enc F)
theorem plain (f : FuncId) (fn : Func) (hf : Tryd.pinned.checked.prog.funcNamed Rows.ledgerDivideJoinsRow.func = some f) (hfn : Tryd.pinned.checked.prog.funcs[f]? = some fn) :
  false = Tryd.pinned.checked.prog.looks [] ∧ ∀ (j : Nat) t, fn.params[j]? = some t → Tryd.pinned.checked.prog.wantsStandIn t = false := by
 obtain rfl : f = 5 := Option.some.inj ((show Tryd.prog.funcNamed Rows.ledgerDivideJoinsRow.func = some 5 by kernel_rfl).symm.trans hf) |>.symm
 obtain rfl : fn = Tryd.f5 := (Option.some.inj (Tryd.func5.symm.trans hfn)).symm
 refine ⟨by kernel_rfl, fun j t ht => ?_⟩
 rw [Tryd.params5] at ht
 have h := Array.mem_of_getElem? ht
 have h0 : ∀ t ∈ (#[25, 31, 27] : Array TypeId), Tryd.prog.wantsStandIn t = false := by
  intro t ht
  simp only [List.mem_toArray, List.mem_cons, List.not_mem_nil, or_false] at ht
  rcases ht with rfl | rfl | rfl <;> kernel_rfl
 exact h0 t h
theorem card : Rows.LedgerDivideJoinsCardSaid :=
 Claim7.holds_tied_plain_at .later [] _ _ _ _ said (fun _ h => by cases h) (by kernel_rfl) (fun _ h => by cases h) ledgerDivideJoins_row_tie rfl ⟨rfl, rfl⟩ (by kernel_rfl) rfl plain (by kernel_rfl)
end Go.Proofs.YtneiofnlmblglaaDoor.ledgerDivideJoins