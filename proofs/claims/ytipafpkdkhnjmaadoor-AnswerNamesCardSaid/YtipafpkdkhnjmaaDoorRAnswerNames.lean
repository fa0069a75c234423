/-
  AnswerNames: whatever the input, the law returns true, and what came in reads as it did; and the card.
-/
import Derived.Test.YtipafpkdkhnjmaaDoorC
import Derived.OpenShut
import Derived.ShutString
import Derived.Below
import Derived.Test.YtipafpkdkhnjmaaDoorP40Names
import Derived.Test.YtipafpkdkhnjmaaDoorTie
import Derived.Test.YtipafpkdkhnjmaaDoorCards
import Derived.SevenTiedAt
namespace Go.Proofs.YtipafpkdkhnjmaaDoor.answerNames
open Go.ChangeShapes Go.WideShapes Go.ChangeAt Go.RowKit Go.V
open Go.ChangeMaps (open_string shut_string)
set_option linter.unusedVariables false
theorem witness_row (os : Os) {H : Type} (enc : TypeId × Value → H) : (OpenSpec.ofChange Rows.answerNamesSpec).preRow enc Tryd.prog Tryd.f7 Rows.answerNamesRow.domain false Rows.answerNamesRow.laid ((c_world os).forCall (fun _ _ => 0) ⟨#[], #[], []⟩).memory #[] := by
  obtain ⟨x, hx⟩ : ∃ x, DataW.whole enc Tryd.prog ((c_world os).forCall (fun _ _ => 0) ⟨#[], #[], []⟩).memory Tryd.f7.params.toList (OpenSpec.ofChange Rows.answerNamesSpec).vars false #[].toList 12 = some x := Option.isSome_iff_exists.1 (by kernel_rfl)
  exact OpenSpec.preRow_of_cond 12 hx (by rfl) (fun k hk => by cases hk) (by kernel_rfl) (c_laid os _)
set_option maxRecDepth 100000 in
theorem lifted (os : Os) (started : os.Started) (H : Type) (enc : TypeId × Value → H) (F : Stop.Interp) :
    ReturnsInHanded {} Tryd.checked os 7 .any ((OpenSpec.ofChange Rows.answerNamesSpec).preRow enc Tryd.prog Tryd.f7 Rows.answerNamesRow.domain false Rows.answerNamesRow.laid) (((OpenSpec.ofChange Rows.answerNamesSpec).at F).post enc Tryd.prog Tryd.f7 false true false false) := by
  refine returnsInHanded_of_row (C := Tryd.checked) (s := (OpenSpec.ofChange Rows.answerNamesSpec)) c_own started (by kernel_rfl) Tryd.func7
    (witness_row_atRef (enc := enc) (C := Tryd.checked) false (c_world os) #[] rfl (by kernel_rfl) (by kernel_rfl) (by kernel_rfl) (witness_row os enc)) ?_
  intro W base args ds gs before hval0 hW _ _ _ hL hsh _
  have hval : ∀ (j : Nat) t v, Tryd.f7.params[j]? = some t → args[j]? = some v → Value.okWide Tryd.prog W .any base t v := hval0
  have hW' := hW
  obtain ⟨p, q, hA0, hV, rfl, _, _⟩ := hW
  have hA : DataW.TrodAll enc Tryd.prog W 0 (fun _ => true) true Tryd.f7.params.toList args.toList ds p := hA0
  rw [Tryd.params7] at hA hval
  obtain ⟨rfl, rfl, rfl⟩ := trodAll_none hA
  obtain ⟨rfl, rfl⟩ := trodVars_none hV
  clear hA0 hval0
  have hS := ((s0tab (s0gf (s0gf s0nil (c_ifc3 hL)) (c_ifc2 hL)) (c_tab1 hL)) : S0 F0 _ W ∧ fpl _ = [])
  refine (pure_of hS (fun hS => law40_AnswerNames_w F0 _  true plain_AnswerNames W hS)).mono fun e W' ⟨he, bel⟩ => ?_
  subst he
  exact ⟨_, rfl, _, _, _, [], _, [], hW', trodAll_mk1 (shut_bool Tryd.underlying4 _), trodAll_mk0, rfl, bel.frame _, fun h => by cases h⟩

theorem over : Rows.answerNamesRow.holds Tryd.pinned (OpenSpec.ofChange Rows.answerNamesSpec) :=
  OpenClaim.holds_of_cond 7 Tryd.f7 rfl rfl rfl rfl rfl rfl rfl ⟨rfl, rfl, rfl, rfl, rfl⟩ rfl rfl rfl rfl rfl (by kernel_rfl) Tryd.func7 (by kernel_rfl)
    (of_decide_eq_true (by kernel_rfl)) (by unfold Func.isWrapper; first | (rw [if_pos (by decide +kernel)]; kernel_rfl) | (rw [if_neg (by decide +kernel)]; exact ⟨rfl, rfl⟩))
    (fun os started H enc _ F => by rw [OpenClaim.pre_eq_preRow]; exact lifted os started H enc F)

theorem proved : Rows.AnswerNamesCardSaid :=
  Claim7.holds_tied_plain_at .later [] [.data, .data, .data, .sentinel, .sentinel] true (true, "f5708d80384b28cff6b26b75592bb26a52aacfeeb662cc3f19e0923825bd4dc0") true over (fun _ h => by cases h) (by kernel_rfl) (fun _ h => by cases h) answerNames_row_tie rfl ⟨rfl, rfl⟩ (by kernel_rfl) rfl
    (fun f fn hf hfn => by
      obtain rfl : f = 7 := (Option.some.inj ((show Tryd.prog.funcNamed "vitrine/vitrinelaw40.AnswerNames" = some 7 by kernel_rfl).symm.trans hf)).symm
      obtain rfl : fn = Tryd.f7 := (Option.some.inj (Tryd.func7.symm.trans hfn)).symm
      refine ⟨by kernel_rfl, fun j t ht => ?_⟩
      have hall : (Tryd.f7.params.toList.all fun t => !Tryd.prog.wantsStandIn t) = true := by kernel_rfl
      have h1 := List.all_eq_true.1 hall t (Array.mem_toList_iff.2 (Array.mem_of_getElem? ht))
      exact (by simpa using h1 : Tryd.prog.wantsStandIn t = false))
    (by kernel_rfl)
#print axioms proved
end Go.Proofs.YtipafpkdkhnjmaaDoor.answerNames
