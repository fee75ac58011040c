/- LedgerArchiveAudits: for every input the law returns true, and each argument reads as before; the variables listed in the row are as the program's text lays them. -/
import Derived.Test.YtoflcheopfppoaaGreatDoorCKSe
import Derived.Test.YtoflcheopfppoaaGreatDoorK11
import Derived.Test.YtoflcheopfppoaaGreatDoorCKMp
set_option maxRecDepth 100000
set_option maxHeartbeats 4000000
set_option maxRecDepth 100000
namespace Go.Proofs.YtoflcheopfppoaaGreatDoor.ledgerArchiveAudits
open Go Go.ChangeShapes Go.WideShapes Go.ChangeAt Go.RowKit
theorem reads (os : Os) {H : Type} (enc : TypeId × Value → H) : ∃ places,DataW.whole enc Tryz.prog ((World.doorLaid Tryz.prog 29 os).forCall (fun _ _ => 0) ⟨#[],#[.agg #[.slice none 0 0,.slice none 0 0],.slice none 0 0,.int .i64 0],[]⟩).memory Tryz.f5.params.toList Rows.ledgerArchiveAuditsSpec.vars false (#[.agg #[.slice none 0 0,.slice none 0 0],.slice none 0 0,.int .i64 0] : Array Value).toList 8 = some ([.agg [.nil,.nil],.nil,.lit (.int .i64 0)],[],places) :=
 ⟨[],by kernel_rfl⟩
theorem contract (H : Type) (enc : TypeId × Value → H) (W : World) (base : Nat) (args : Array Value) (ds gs : List (DataW H)) (before : List MemPlace)
  (hval : ∀ (j : Nat) t v,Tryz.f5.params[j]? = some t → args[j]? = some v → Value.okWide Tryz.prog W .any base t v)
  (hW : DataW.Whole enc Tryz.prog Tryz.f5.params.toList Rows.ledgerArchiveAuditsSpec.vars false W args.toList ds gs before) (hsz0 : (DataW.weightsEach Tryz.prog (Tryz.f5.params.toList ++ (OpenSpec.ofChange Rows.ledgerArchiveAuditsSpec).bare.plain.varTypes Tryz.prog) (ds ++ gs)).all (· ≤ reachBytes) = true) (hL : laidMetH Tryz.prog Rows.ledgerArchiveAuditsRow.laid W) :
  Calls Tryz.prog 5 args W fun e W' => ∃ v,e = .returned v ∧ Rows.ledgerArchiveAuditsSpec.post enc Tryz.prog Tryz.f5 false true false false W args v W':=by
 have hZ : Jc W:=Qpf hL;have hW':=hW;obtain ⟨p,q,hA0,hV,rfl,_,_⟩:=hW;obtain ⟨rfl,rfl⟩:=trodVars_none hV;simp only [List.append_nil] at hW' hsz0;have hA : DataW.TrodAll enc Tryz.prog W 0 (fun _ => true) true Tryz.f5.params.toList args.toList ds p:=hA0;rw [Tryz.params5] at hA hval hsz0;have hsz : (DataW.weightsEach Tryz.prog [25,26,3] ds).all (· ≤ reachBytes) = true:=hsz0;clear hsz0;obtain ⟨v0,vs0,d0,ds0,p0,q0,ha0,rfl,rfl,h0,r0⟩:=trodAll_cons hA;obtain ⟨v1,vs1,d1,ds1,p1,q1,rfl,rfl,rfl,h1,r1⟩:=trodAll_cons r0;obtain ⟨v2,vs2,d2,ds2,p2,q2,rfl,rfl,rfl,h2,r2⟩:=trodAll_cons r1;obtain ⟨rfl,rfl,rfl⟩:=trodAll_nil r2;obtain rfl : args = #[v0,v1,v2]:=by cases args;simp_all
 obtain ⟨A,A',ca,cb,c,rfl,hC⟩:=Qf5 (hval 0 25 v0 rfl rfl) h0;obtain ⟨L,hPs,hPL,hsz1⟩:=Qmj (hval 1 26 v1 rfl rfl) h1 (Qnj hsz (j:=1) rfl rfl);obtain ⟨d,rfl,hn2a,hn2b⟩:=Qjo (hval 2 3 v2 rfl rfl) h2;refine (ledgerArchiveAudits_walk A A' ca cb c v1 L d W hC hPs hPL hsz1 hZ).mono fun e W' ⟨he,hx⟩ => ⟨_,he,?_⟩
 exact Qj4 (by rw [Tryz.params5];decide) rfl rfl rfl rfl rfl hA0 hW' hx
theorem lifted (os : Os) (started : os.Started) (H : Type) (enc : TypeId × Value → H) (F : Stop.Interp) :
  ReturnsInHanded {} Tryz.checked os 5 .any ((OpenSpec.ofChange Rows.ledgerArchiveAuditsSpec).preRow enc Tryz.prog Tryz.f5 Rows.ledgerArchiveAuditsRow.domain false Rows.ledgerArchiveAuditsRow.laid) (((OpenSpec.ofChange Rows.ledgerArchiveAuditsSpec).at F).post enc Tryz.prog Tryz.f5 false true false false):=by
 obtain ⟨places,hx⟩:=reads os enc
 refine returnsInHanded_of_row (C:=Tryz.checked) (s:=(OpenSpec.ofChange Rows.ledgerArchiveAuditsSpec)) Ql4 started zK Tryz.func5
  (witness_row_at (enc:=enc) (C:=Tryz.checked) false (World.doorLaid Tryz.prog 29 os) #[.agg #[.slice none 0 0,.slice none 0 0],.slice none 0 0,.int .i64 0] rfl zK zK zK
   (OpenSpec.preRow_of_cond 8 hx zK (fun k hk => by cases hk) zK (laid_met os _))) ?_
 intro W base args ds gs before hval hW _ _ hsz0 hlaid _ _;exact contract H enc W base args ds gs before hval hW hsz0 hlaid
set_option maxHeartbeats 40000000 in
theorem closed : joinedFacts Tryz.prog 5 Tryz.f5 Rows.ledgerArchiveAuditsSpec Rows.ledgerArchiveAuditsRow = true:=by
 unfold joinedFacts;rw [sh_laid,sh_maps,sh_keys,sh_heard,sh_may,sh_lift,sh_make]
 repeat' (with_reducible refine (Bool.and_eq_true_iff).2 ⟨?_,?_⟩)
 all_goals (as_aux_lemma => kernel_rfl)
theorem said : Rows.LedgerArchiveAuditsSaid :=
 OpenClaim.holds_of_cond 5 Tryz.f5 rfl rfl rfl rfl rfl rfl rfl ⟨rfl,rfl,rfl,rfl,rfl⟩ rfl rfl rfl rfl rfl zK Tryz.func5 closed
  (of_decide_eq_true zK) (by unfold Func.isWrapper;first | (rw [if_pos (by decide +kernel)];kernel_rfl) | (rw [if_neg (by decide +kernel)];exact ⟨rfl,rfl⟩))
  (fun os started H enc _ F => by rw [OpenClaim.pre_eq_preRow];exact lifted os started H enc F)
theorem plain (f : FuncId) (fn : Func) (hf : Tryz.pinned.checked.prog.funcNamed Rows.ledgerArchiveAuditsRow.func = some f) (hfn : Tryz.pinned.checked.prog.funcs[f]? = some fn) :
  false = Tryz.pinned.checked.prog.looks [] ∧ ∀ (j : Nat) t,fn.params[j]? = some t → Tryz.pinned.checked.prog.wantsStandIn t = false:=by
 obtain rfl : f = 5:=Option.some.inj ((show Tryz.prog.funcNamed Rows.ledgerArchiveAuditsRow.func = some 5 by kernel_rfl).symm.trans hf) |>.symm
 obtain rfl : fn = Tryz.f5:=(Option.some.inj (Tryz.func5.symm.trans hfn)).symm;refine ⟨by kernel_rfl,fun j t ht => ?_⟩;rw [Tryz.params5] at ht;have h:=Array.mem_of_getElem? ht
 have h0 : ∀ t ∈ (#[25,26,3] : Array TypeId),Tryz.prog.wantsStandIn t = false:=by
  intro t ht;simp only [List.mem_toArray,List.mem_cons,List.not_mem_nil,or_false] at ht;rcases ht with rfl | rfl | rfl <;> kernel_rfl
 exact h0 t h
theorem card : Rows.LedgerArchiveAuditsCardSaid :=
 Claim7.holds_tied_plain_at .later [] _ _ _ _ said (fun _ h => by cases h) zK (fun _ h => by cases h) ledgerArchiveAudits_row_tie rfl ⟨rfl,rfl⟩ zK rfl plain zK
end Go.Proofs.YtoflcheopfppoaaGreatDoor.ledgerArchiveAudits