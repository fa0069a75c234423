/-
  WideNames: whatever the input, the law returns true, and what came in reads as it did; and the card.
-/
import Derived.Test.YtehlikdeobajcaaDoorC
import Derived.OpenShut
import Derived.ShutString
import Derived.Below
import Derived.Test.YtehlikdeobajcaaDoorP31N
import Derived.Test.YtehlikdeobajcaaDoorTie
import Derived.Test.YtehlikdeobajcaaDoorCards
import Derived.SevenTiedAt
namespace Go.Proofs.YtehlikdeobajcaaDoor.wideNames
open Go.ChangeShapes Go.WideShapes Go.ChangeAt Go.RowKit Go.V
open Go.ChangeMaps (open_string shut_string)
set_option linter.unusedVariables false
theorem witness_row (os : Os) {H : Type} (enc : TypeId × Value → H) : (OpenSpec.ofChange Rows.wideNamesSpec).preRow enc Tryd.prog Tryd.f3 Rows.wideNamesRow.domain false Rows.wideNamesRow.laid ((c_world os).forCall (fun _ _ => 0) ⟨#[], #[], []⟩).memory #[] := by
  obtain ⟨x, hx⟩ : ∃ x, DataW.whole enc Tryd.prog ((c_world os).forCall (fun _ _ => 0) ⟨#[], #[], []⟩).memory Tryd.f3.params.toList (OpenSpec.ofChange Rows.wideNamesSpec).vars false #[].toList 12 = some x := Option.isSome_iff_exists.1 (by kernel_rfl)
  exact OpenSpec.preRow_of_cond 12 hx (by rfl) (fun k hk => by cases hk) (by kernel_rfl) (c_laid os _)
set_option maxRecDepth 100000 in
theorem lifted (os : Os) (started : os.Started) (H : Type) (enc : TypeId × Value → H) (F : Stop.Interp) :
    ReturnsInHanded {} Tryd.checked os 3 .any ((OpenSpec.ofChange Rows.wideNamesSpec).preRow enc Tryd.prog Tryd.f3 Rows.wideNamesRow.domain false Rows.wideNamesRow.laid) (((OpenSpec.ofChange Rows.wideNamesSpec).at F).post enc Tryd.prog Tryd.f3 false true false false) := by
  refine returnsInHanded_of_row (C := Tryd.checked) (s := (OpenSpec.ofChange Rows.wideNamesSpec)) c_own started (by kernel_rfl) Tryd.func3
    (witness_row_atRef (enc := enc) (C := Tryd.checked) false (c_world os) #[] rfl (by kernel_rfl) (by kernel_rfl) (by kernel_rfl) (witness_row os enc)) ?_
  intro W base args ds gs before hval0 hW _ _ _ hL hsh _
  have hval : ∀ (j : Nat) t v, Tryd.f3.params[j]? = some t → args[j]? = some v → Value.okWide Tryd.prog W .any base t v := hval0
  have hW' := hW
  obtain ⟨p, q, hA0, hV, rfl, _, _⟩ := hW
  have hA : DataW.TrodAll enc Tryd.prog W 0 (fun _ => true) true Tryd.f3.params.toList args.toList ds p := hA0
  rw [Tryd.params3] at hA hval
  obtain ⟨rfl, rfl, rfl⟩ := trodAll_none hA
  obtain ⟨rfl, rfl⟩ := trodVars_none hV
  clear hA0 hval0
  have hS := ((s0im s0nil (c_gl_strings_asciiSpace hL)) : S0 F0 _ W ∧ fpl _ = [])
  refine (pure_of hS (fun hS => law31_WideNames_w F0 _  true plain_WideNames W hS)).mono fun e W' ⟨he, bel⟩ => ?_
  subst he
  exact ⟨_, rfl, _, _, _, [], _, [], hW', trodAll_mk1 (shut_bool Tryd.underlying4 _), trodAll_mk0, rfl, bel.frame _, fun h => by cases h⟩

theorem over : Rows.wideNamesRow.holds Tryd.pinned (OpenSpec.ofChange Rows.wideNamesSpec) :=
  OpenClaim.holds_of_cond 3 Tryd.f3 rfl rfl rfl rfl rfl rfl rfl ⟨rfl, rfl, rfl, rfl, rfl⟩ rfl rfl rfl rfl rfl (by kernel_rfl) Tryd.func3 (by kernel_rfl)
    (of_decide_eq_true (by kernel_rfl)) (by unfold Func.isWrapper; first | (rw [if_pos (by decide +kernel)]; kernel_rfl) | (rw [if_neg (by decide +kernel)]; exact ⟨rfl, rfl⟩))
    (fun os started H enc _ F => by rw [OpenClaim.pre_eq_preRow]; exact lifted os started H enc F)

theorem proved : Rows.WideNamesCardSaid :=
  Claim7.holds_tied_plain_at .later [] [.listed, .data] true (true, "8b4f105de95681668a4dfc4cd9d738708e50a180ff02536b16d2d0ad846f2dc6") false over (fun _ h => by cases h) (by kernel_rfl) (fun _ h => by cases h) wideNames_row_tie rfl ⟨rfl, rfl⟩ (by kernel_rfl) rfl
    (fun f fn hf hfn => by
      obtain rfl : f = 3 := (Option.some.inj ((show Tryd.prog.funcNamed "vitrine/vitrinelaw31.WideNames" = some 3 by kernel_rfl).symm.trans hf)).symm
      obtain rfl : fn = Tryd.f3 := (Option.some.inj (Tryd.func3.symm.trans hfn)).symm
      refine ⟨by kernel_rfl, fun j t ht => ?_⟩
      have hall : (Tryd.f3.params.toList.all fun t => !Tryd.prog.wantsStandIn t) = true := by kernel_rfl
      have h1 := List.all_eq_true.1 hall t (Array.mem_toList_iff.2 (Array.mem_of_getElem? ht))
      exact (by simpa using h1 : Tryd.prog.wantsStandIn t = false))
    (by kernel_rfl)
#print axioms proved
end Go.Proofs.YtehlikdeobajcaaDoor.wideNames
