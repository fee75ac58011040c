/- LedgerCarryJoins: for every input the law returns true, and each argument reads as before; the variables listed in the row are as the program's text lays them. -/
import Derived.Test.YtneiofnlmblglaaDoorCUSd
import Derived.Test.YtneiofnlmblglaaDoorU12
import Derived.Test.YtneiofnlmblglaaDoorCUTr
set_option maxRecDepth 100000
set_option maxHeartbeats 4000000
set_option maxRecDepth 100000
namespace Go.Proofs.YtneiofnlmblglaaDoor.ledgerCarryJoins
open Go Go.ChangeShapes Go.WideShapes Go.ChangeAt Go.RowKit
theorem reads (os : Os) {H : Type} (enc : TypeId × Value → H) : ∃ places, DataW.whole enc Tryd.prog ((World.doorLaid Tryd.prog 29 os).forCall (fun _ _ => 0) ⟨#[], #[.agg #[.slice none 0 0, .slice none 0 0], .slice none 0 0], []⟩).memory Tryd.f4.params.toList Rows.ledgerCarryJoinsSpec.vars false (#[.agg #[.slice none 0 0, .slice none 0 0], .slice none 0 0] : Array Value).toList 8 = some ([.agg [.nil, .nil], .nil], [], places) :=
 ⟨[], by kernel_rfl⟩
theorem contract (H : Type) (enc : TypeId × Value → H) (W : World) (base : Nat) (args : Array Value) (ds gs : List (DataW H)) (before : List MemPlace)
  (hval : ∀ (j : Nat) t v, Tryd.f4.params[j]? = some t → args[j]? = some v → Value.okWide Tryd.prog W .any base t v)
  (hW : DataW.Whole enc Tryd.prog Tryd.f4.params.toList Rows.ledgerCarryJoinsSpec.vars false W args.toList ds gs before) (hsz0 : (DataW.weightsEach Tryd.prog (Tryd.f4.params.toList ++ (OpenSpec.ofChange Rows.ledgerCarryJoinsSpec).bare.plain.varTypes Tryd.prog) (ds ++ gs)).all (· ≤ reachBytes) = true) (hL : laidMetH Tryd.prog Rows.ledgerCarryJoinsRow.laid W) :
  Calls Tryd.prog 4 args W fun e W' => ∃ v, e = .returned v ∧ Rows.ledgerCarryJoinsSpec.post enc Tryd.prog Tryd.f4 false true false false W args v W' := by
 have hZ : Zl W := Fk hL
 have hW' := hW
 obtain ⟨p, q, hA0, hV, rfl, _, _⟩ := hW
 obtain ⟨rfl, rfl⟩ := trodVars_none hV
 simp only [List.append_nil] at hW' hsz0
 have hA : DataW.TrodAll enc Tryd.prog W 0 (fun _ => true) true Tryd.f4.params.toList args.toList ds p := hA0
 rw [Tryd.params4] at hA hval hsz0
 have hsz : (DataW.weightsEach Tryd.prog [25, 37] ds).all (· ≤ reachBytes) = true := hsz0
 clear hsz0
 obtain ⟨v0, vs0, d0, ds0, p0, q0, ha0, rfl, rfl, h0, r0⟩ := trodAll_cons hA
 obtain ⟨v1, vs1, d1, ds1, p1, q1, rfl, rfl, rfl, h1, r1⟩ := trodAll_cons r0
 obtain ⟨rfl, rfl, rfl⟩ := trodAll_nil r1
 obtain rfl : args = #[v0, v1] := by cases args; simp_all
 obtain ⟨A, A', ca, cb, c, rfl, hC⟩ := Ob (hval 0 25 v0 rfl rfl) h0
 obtain ⟨L, hPs, hPL, hsz1⟩ := Qdq (hval 1 37 v1 rfl rfl) h1 (Gr hsz (j := 1) rfl rfl)
 refine (ledgerCarryJoins_walk A A' ca cb c v1 L W hC hPs hZ).mono fun e W' ⟨he, hx⟩ => ⟨_, he, ?_⟩
 exact O4 (by rw [Tryd.params4]; decide) rfl rfl rfl rfl rfl hA0 hW' hx
theorem lifted (os : Os) (started : os.Started) (H : Type) (enc : TypeId × Value → H) (F : Stop.Interp) :
  ReturnsInHanded {} Tryd.checked os 4 .any ((OpenSpec.ofChange Rows.ledgerCarryJoinsSpec).preRow enc Tryd.prog Tryd.f4 Rows.ledgerCarryJoinsRow.domain false Rows.ledgerCarryJoinsRow.laid) (((OpenSpec.ofChange Rows.ledgerCarryJoinsSpec).at F).post enc Tryd.prog Tryd.f4 false true false false) := by
 obtain ⟨places, hx⟩ := reads os enc
 refine returnsInHanded_of_row (C := Tryd.checked) (s := (OpenSpec.ofChange Rows.ledgerCarryJoinsSpec)) Gb started (by kernel_rfl) Tryd.func4
  (witness_row_at (enc := enc) (C := Tryd.checked) false (World.doorLaid Tryd.prog 29 os) #[.agg #[.slice none 0 0, .slice none 0 0], .slice none 0 0] rfl (by kernel_rfl) (by kernel_rfl) (by kernel_rfl)
   (OpenSpec.preRow_of_cond 8 hx (by kernel_rfl) (fun k hk => by cases hk) (by kernel_rfl) (laid_met os _))) ?_
 intro W base args ds gs before hval hW _ _ hsz0 hlaid _ _
 exact contract H enc W base args ds gs before hval hW hsz0 hlaid
set_option maxHeartbeats 40000000 in
theorem closed : joinedFacts Tryd.prog 4 Tryd.f4 Rows.ledgerCarryJoinsSpec Rows.ledgerCarryJoinsRow = true := by
 unfold joinedFacts
 rw [sh_laid, sh_maps, sh_keys, sh_heard, sh_may, sh_lift, sh_make]
 repeat' (with_reducible refine (Bool.and_eq_true_iff).2 ⟨?_, ?_⟩)
 all_goals (as_aux_lemma => kernel_rfl)
theorem said : Rows.LedgerCarryJoinsSaid :=
 OpenClaim.holds_of_cond 4 Tryd.f4 rfl rfl rfl rfl rfl rfl rfl ⟨rfl, rfl, rfl, rfl, rfl⟩ rfl rfl rfl rfl rfl (by kernel_rfl) Tryd.func4 closed
  (of_decide_eq_true (by kernel_rfl)) (by unfold Func.isWrapper; first | (rw [if_pos (by decide +kernel)]; kernel_rfl) | (rw [if_neg (by decide +kernel)]; exact ⟨rfl, rfl⟩))
  (fun os started H enc _ F => by rw [OpenClaim.pre_eq_preRow]; exact lifted os started H enc F)
theorem plain (f : FuncId) (fn : Func) (hf : Tryd.pinned.checked.prog.funcNamed Rows.ledgerCarryJoinsRow.func = some f) (hfn : Tryd.pinned.checked.prog.funcs[f]? = some fn) :
  false = Tryd.pinned.checked.prog.looks [] ∧ ∀ (j : Nat) t, fn.params[j]? = some t → Tryd.pinned.checked.prog.wantsStandIn t = false := by
 obtain rfl : f = 4 := Option.some.inj ((show Tryd.prog.funcNamed Rows.ledgerCarryJoinsRow.func = some 4 by kernel_rfl).symm.trans hf) |>.symm
 obtain rfl : fn = Tryd.f4 := (Option.some.inj (Tryd.func4.symm.trans hfn)).symm
 refine ⟨by kernel_rfl, fun j t ht => ?_⟩
 rw [Tryd.params4] at ht
 have h := Array.mem_of_getElem? ht
 have h0 : ∀ t ∈ (#[25, 37] : Array TypeId), Tryd.prog.wantsStandIn t = false := by
  intro t ht
  simp only [List.mem_toArray, List.mem_cons, List.not_mem_nil, or_false] at ht
  rcases ht with rfl | rfl <;> kernel_rfl
 exact h0 t h
theorem card : Rows.LedgerCarryJoinsCardSaid :=
 Claim7.holds_tied_plain_at .later [] _ _ _ _ said (fun _ h => by cases h) (by kernel_rfl) (fun _ h => by cases h) ledgerCarryJoins_row_tie rfl ⟨rfl, rfl⟩ (by kernel_rfl) rfl plain (by kernel_rfl)
end Go.Proofs.YtneiofnlmblglaaDoor.ledgerCarryJoins