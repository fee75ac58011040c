/- LedgerKnown: for every input the law returns true, and each argument reads as before; the variables listed in the row are as the program's text lays them. -/
import Derived.Test.YtoflcheopfppoaaGreatDoorCHSe
import Derived.Test.YtoflcheopfppoaaGreatDoorH11
import Derived.Test.YtoflcheopfppoaaGreatDoorCHNe
set_option maxRecDepth 100000
set_option maxHeartbeats 4000000
set_option maxRecDepth 100000
namespace Go.Proofs.YtoflcheopfppoaaGreatDoor.ledgerKnown
open Go Go.ChangeShapes Go.WideShapes Go.ChangeAt Go.RowKit
theorem reads (os : Os) {H : Type} (enc : TypeId × Value → H) : ∃ places,DataW.whole enc Tryz.prog ((World.doorLaid Tryz.prog 29 os).forCall (fun _ _ => 0) ⟨#[],#[],[]⟩).memory Tryz.f7.params.toList Rows.ledgerKnownSpec.vars false (#[] : Array Value).toList 8 = some ([],[],places) :=
 ⟨[],by kernel_rfl⟩
theorem contract (H : Type) (enc : TypeId × Value → H) (W : World) (base : Nat) (args : Array Value) (ds gs : List (DataW H)) (before : List MemPlace)
  (hval : ∀ (j : Nat) t v,Tryz.f7.params[j]? = some t → args[j]? = some v → Value.okWide Tryz.prog W .any base t v)
  (hW : DataW.Whole enc Tryz.prog Tryz.f7.params.toList Rows.ledgerKnownSpec.vars false W args.toList ds gs before) (hL : laidMetH Tryz.prog Rows.ledgerKnownRow.laid W) :
  Calls Tryz.prog 7 args W fun e W' => ∃ v,e = .returned v ∧ Rows.ledgerKnownSpec.post enc Tryz.prog Tryz.f7 false true false false W args v W':=by
 have hZ : Zw W:=Qmw hL;have hW':=hW;obtain ⟨p,q,hA0,hV,rfl,_,_⟩:=hW;obtain ⟨rfl,rfl⟩:=trodVars_none hV;simp only [List.append_nil] at hW';have hA : DataW.TrodAll enc Tryz.prog W 0 (fun _ => true) true Tryz.f7.params.toList args.toList ds p:=hA0;rw [Tryz.params7] at hA hval;obtain ⟨ha0,rfl,rfl⟩:=trodAll_nil hA;obtain rfl : args = #[]:=by cases args;simp_all
 refine (ledgerKnown_walk W hZ).mono fun e W' ⟨he,hx⟩ => ⟨_,he,?_⟩
 exact Qh0 (by rw [Tryz.params7];decide) rfl rfl rfl rfl rfl hA0 hW' hx
theorem lifted (os : Os) (started : os.Started) (H : Type) (enc : TypeId × Value → H) (F : Stop.Interp) :
  ReturnsInHanded {} Tryz.checked os 7 .any ((OpenSpec.ofChange Rows.ledgerKnownSpec).preRow enc Tryz.prog Tryz.f7 Rows.ledgerKnownRow.domain false Rows.ledgerKnownRow.laid) (((OpenSpec.ofChange Rows.ledgerKnownSpec).at F).post enc Tryz.prog Tryz.f7 false true false false):=by
 obtain ⟨places,hx⟩:=reads os enc
 refine returnsInHanded_of_row (C:=Tryz.checked) (s:=(OpenSpec.ofChange Rows.ledgerKnownSpec)) Qjv started zK Tryz.func7
  (witness_row_at (enc:=enc) (C:=Tryz.checked) false (World.doorLaid Tryz.prog 29 os) #[] rfl zK zK zK
   (OpenSpec.preRow_of_cond 8 hx zK (fun k hk => by cases hk) zK (laid_met os _))) ?_
 intro W base args ds gs before hval hW _ _ _ hlaid _ _;exact contract H enc W base args ds gs before hval hW hlaid
set_option maxHeartbeats 40000000 in
theorem closed : joinedFacts Tryz.prog 7 Tryz.f7 Rows.ledgerKnownSpec Rows.ledgerKnownRow = true:=by
 unfold joinedFacts;rw [sh_laid,sh_maps,sh_keys,sh_heard,sh_may,sh_lift,sh_make]
 repeat' (with_reducible refine (Bool.and_eq_true_iff).2 ⟨?_,?_⟩)
 all_goals (as_aux_lemma => kernel_rfl)
theorem said : Rows.LedgerKnownSaid :=
 OpenClaim.holds_of_cond 7 Tryz.f7 rfl rfl rfl rfl rfl rfl rfl ⟨rfl,rfl,rfl,rfl,rfl⟩ rfl rfl rfl rfl rfl zK Tryz.func7 closed
  (of_decide_eq_true zK) (by unfold Func.isWrapper;first | (rw [if_pos (by decide +kernel)];kernel_rfl) | (rw [if_neg (by decide +kernel)];exact ⟨rfl,rfl⟩))
  (fun os started H enc _ F => by rw [OpenClaim.pre_eq_preRow];exact lifted os started H enc F)
theorem plain (f : FuncId) (fn : Func) (hf : Tryz.pinned.checked.prog.funcNamed Rows.ledgerKnownRow.func = some f) (hfn : Tryz.pinned.checked.prog.funcs[f]? = some fn) :
  false = Tryz.pinned.checked.prog.looks [] ∧ ∀ (j : Nat) t,fn.params[j]? = some t → Tryz.pinned.checked.prog.wantsStandIn t = false:=by
 obtain rfl : f = 7:=Option.some.inj ((show Tryz.prog.funcNamed Rows.ledgerKnownRow.func = some 7 by kernel_rfl).symm.trans hf) |>.symm
 obtain rfl : fn = Tryz.f7:=(Option.some.inj (Tryz.func7.symm.trans hfn)).symm;refine ⟨by kernel_rfl,fun j t ht => ?_⟩;rw [Tryz.params7] at ht;have h:=Array.mem_of_getElem? ht;exact absurd h (by simp)
theorem card : Rows.LedgerKnownCardSaid :=
 Claim7.holds_tied_plain_at .later [] _ _ _ _ said (fun _ h => by cases h) zK (fun _ h => by cases h) ledgerKnown_row_tie rfl ⟨rfl,rfl⟩ zK rfl plain zK
end Go.Proofs.YtoflcheopfppoaaGreatDoor.ledgerKnown