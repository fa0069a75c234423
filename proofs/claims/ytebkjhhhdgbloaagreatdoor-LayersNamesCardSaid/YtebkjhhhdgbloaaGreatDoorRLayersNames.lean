/-
  LayersNames: whatever the input, the law returns true, and what came in reads as it did; and the card.
-/
import Derived.Test.YtebkjhhhdgbloaaGreatDoorC
import Derived.OpenShut
import Derived.ShutString
import Derived.Below
import Derived.Test.YtebkjhhhdgbloaaGreatDoorP28N
import Derived.Test.YtebkjhhhdgbloaaGreatDoorTie
import Derived.Test.YtebkjhhhdgbloaaGreatDoorCards
import Derived.SevenTiedAt
import Derived.Test.YtebkjhhhdgbloaaGreatDoorJF
namespace Go.Proofs.YtebkjhhhdgbloaaGreatDoor.layersNames
open Go.ChangeShapes Go.WideShapes Go.ChangeAt Go.RowKit Go.V
open Go.ChangeMaps (open_string shut_string)
set_option linter.unusedVariables false
theorem witness_row (os : Os) {H : Type} (enc : TypeId × Value → H) : (OpenSpec.ofChange Rows.layersNamesSpec).preRow enc Tryz.prog Tryz.f3 Rows.layersNamesRow.domain false Rows.layersNamesRow.laid ((c_world os).forCall (fun _ _ => 0) ⟨#[], #[], []⟩).memory #[] := by
  obtain ⟨x, hx⟩ : ∃ x, DataW.whole enc Tryz.prog ((c_world os).forCall (fun _ _ => 0) ⟨#[], #[], []⟩).memory Tryz.f3.params.toList (OpenSpec.ofChange Rows.layersNamesSpec).vars false #[].toList 12 = some x := Option.isSome_iff_exists.1 (by kernel_rfl)
  exact OpenSpec.preRow_of_cond 12 hx (by rfl) (fun k hk => by cases hk) (by kernel_rfl) (c_laid os _)
set_option maxRecDepth 100000 in
theorem lifted (os : Os) (started : os.Started) (H : Type) (enc : TypeId × Value → H) (F : Stop.Interp) :
    ReturnsInHanded {} Tryz.checked os 3 .any ((OpenSpec.ofChange Rows.layersNamesSpec).preRow enc Tryz.prog Tryz.f3 Rows.layersNamesRow.domain false Rows.layersNamesRow.laid) (((OpenSpec.ofChange Rows.layersNamesSpec).at F).post enc Tryz.prog Tryz.f3 false true false false) := by
  refine returnsInHanded_of_row (C := Tryz.checked) (s := (OpenSpec.ofChange Rows.layersNamesSpec)) c_own started (by kernel_rfl) Tryz.func3
    (witness_row_atRef (enc := enc) (C := Tryz.checked) false (c_world os) #[] rfl (by kernel_rfl) (by kernel_rfl) (by kernel_rfl) (witness_row os enc)) ?_
  intro W base args ds gs before hval0 hW _ _ _ hL hsh _
  have hval : ∀ (j : Nat) t v, Tryz.f3.params[j]? = some t → args[j]? = some v → Value.okWide Tryz.prog W .any base t v := hval0
  have hW' := hW
  obtain ⟨p, q, hA0, hV, rfl, _, _⟩ := hW
  have hA : DataW.TrodAll enc Tryz.prog W 0 (fun _ => true) true Tryz.f3.params.toList args.toList ds p := hA0
  rw [Tryz.params3] at hA hval
  obtain ⟨rfl, rfl, rfl⟩ := trodAll_none hA
  obtain ⟨rfl, rfl⟩ := trodVars_none hV
  clear hA0 hval0
  have hS := ((s0im (s0tab s0nil (c_tab0 hL)) (c_gl_strings_asciiSpace hL)) : S0 F0 _ W ∧ fpl _ = [])
  refine (pure_of hS (fun hS => law28_LayersNames_w F0 _  true plain_LayersNames W hS)).mono fun e W' ⟨he, bel⟩ => ?_
  subst he
  exact ⟨_, rfl, _, _, _, [], _, [], hW', trodAll_mk1 (shut_bool Tryz.underlying4 _), trodAll_mk0, rfl, bel.frame _, fun h => by cases h⟩

theorem over : Rows.layersNamesRow.holds Tryz.pinned (OpenSpec.ofChange Rows.layersNamesSpec) :=
  OpenClaim.holds_of_cond 3 Tryz.f3 rfl rfl rfl rfl rfl rfl rfl ⟨rfl, rfl, rfl, rfl, rfl⟩ rfl rfl rfl rfl rfl (by as_aux_lemma => kernel_rfl) Tryz.func3 jf
    (of_decide_eq_true (by as_aux_lemma => kernel_rfl)) (by unfold Func.isWrapper; first | (rw [if_pos (by decide +kernel)]; kernel_rfl) | (rw [if_neg (by decide +kernel)]; exact ⟨rfl, rfl⟩))
    (fun os started H enc _ F => by rw [OpenClaim.pre_eq_preRow]; exact lifted os started H enc F)

theorem proved : Rows.LayersNamesCardSaid :=
  Claim7.holds_tied_plain_at .later [] [.data, .data, .data, .sentinel, .sentinel, .listed, .data] true (true, "da88347c8c18cb91c4d906f633756364417b2c06de4ba68197d79864207b2c06") true over (fun _ h => by cases h) (by as_aux_lemma => kernel_rfl) (fun _ h => by cases h) layersNames_row_tie rfl ⟨rfl, rfl⟩ (by as_aux_lemma => kernel_rfl) rfl
    (fun f fn hf hfn => by
      obtain rfl : f = 3 := (Option.some.inj ((show Tryz.prog.funcNamed "vitrine/vitrinelaw28.LayersNames" = some 3 by as_aux_lemma => kernel_rfl).symm.trans hf)).symm
      obtain rfl : fn = Tryz.f3 := (Option.some.inj (Tryz.func3.symm.trans hfn)).symm
      refine ⟨by as_aux_lemma => kernel_rfl, fun j t ht => ?_⟩
      have hall : (Tryz.f3.params.toList.all fun t => !Tryz.prog.wantsStandIn t) = true := by as_aux_lemma => kernel_rfl
      have h1 := List.all_eq_true.1 hall t (Array.mem_toList_iff.2 (Array.mem_of_getElem? ht))
      exact (by simpa using h1 : Tryz.prog.wantsStandIn t = false))
    (by as_aux_lemma => kernel_rfl)
#print axioms proved
end Go.Proofs.YtebkjhhhdgbloaaGreatDoor.layersNames
