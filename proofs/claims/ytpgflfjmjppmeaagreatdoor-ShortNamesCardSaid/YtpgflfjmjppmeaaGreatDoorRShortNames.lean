/-
  ShortNames: whatever the input, the law returns true, and what came in reads as it did; and the card.
-/
import Derived.Test.YtpgflfjmjppmeaaGreatDoorC
import Derived.OpenShut
import Derived.ShutString
import Derived.Below
import Derived.Test.YtpgflfjmjppmeaaGreatDoorP27N
import Derived.Test.YtpgflfjmjppmeaaGreatDoorTie
import Derived.Test.YtpgflfjmjppmeaaGreatDoorCards
import Derived.SevenTiedAt
namespace Go.Proofs.YtpgflfjmjppmeaaGreatDoor.shortNames
open Go.ChangeShapes Go.WideShapes Go.ChangeAt Go.RowKit Go.V
open Go.ChangeMaps (open_string shut_string)
set_option linter.unusedVariables false
theorem witness_row (os : Os) {H : Type} (enc : TypeId × Value → H) : (OpenSpec.ofChange Rows.shortNamesSpec).preRow enc Tryz.prog Tryz.f6 Rows.shortNamesRow.domain false Rows.shortNamesRow.laid ((c_world os).forCall (fun _ _ => 0) ⟨#[], #[], []⟩).memory #[] := by
  obtain ⟨x, hx⟩ : ∃ x, DataW.whole enc Tryz.prog ((c_world os).forCall (fun _ _ => 0) ⟨#[], #[], []⟩).memory Tryz.f6.params.toList (OpenSpec.ofChange Rows.shortNamesSpec).vars false #[].toList 12 = some x := Option.isSome_iff_exists.1 (by kernel_rfl)
  exact OpenSpec.preRow_of_cond 12 hx (by rfl) (fun k hk => by cases hk) (by kernel_rfl) (c_laid os _)
set_option maxRecDepth 100000 in
theorem lifted (os : Os) (started : os.Started) (H : Type) (enc : TypeId × Value → H) (F : Stop.Interp) :
    ReturnsInHanded {} Tryz.checked os 6 .any ((OpenSpec.ofChange Rows.shortNamesSpec).preRow enc Tryz.prog Tryz.f6 Rows.shortNamesRow.domain false Rows.shortNamesRow.laid) (((OpenSpec.ofChange Rows.shortNamesSpec).at F).post enc Tryz.prog Tryz.f6 false true false false) := by
  refine returnsInHanded_of_row (C := Tryz.checked) (s := (OpenSpec.ofChange Rows.shortNamesSpec)) c_own started (by kernel_rfl) Tryz.func6
    (witness_row_atRef (enc := enc) (C := Tryz.checked) false (c_world os) #[] rfl (by kernel_rfl) (by kernel_rfl) (by kernel_rfl) (witness_row os enc)) ?_
  intro W base args ds gs before hval0 hW _ _ _ hL hsh _
  have hval : ∀ (j : Nat) t v, Tryz.f6.params[j]? = some t → args[j]? = some v → Value.okWide Tryz.prog W .any base t v := hval0
  have hW' := hW
  obtain ⟨p, q, hA0, hV, rfl, _, _⟩ := hW
  have hA : DataW.TrodAll enc Tryz.prog W 0 (fun _ => true) true Tryz.f6.params.toList args.toList ds p := hA0
  rw [Tryz.params6] at hA hval
  obtain ⟨rfl, rfl, rfl⟩ := trodAll_none hA
  obtain ⟨rfl, rfl⟩ := trodVars_none hV
  clear hA0 hval0
  have hS := ((s0im s0nil (c_gl_strings_asciiSpace hL)) : S0 F0 _ W ∧ fpl _ = [])
  refine (pure_of hS (fun hS => law27_ShortNames_w F0 _  true plain_ShortNames W hS)).mono fun e W' ⟨he, bel⟩ => ?_
  subst he
  exact ⟨_, rfl, _, _, _, [], _, [], hW', trodAll_mk1 (shut_bool Tryz.underlying4 _), trodAll_mk0, rfl, bel.frame _, fun h => by cases h⟩

theorem over : Rows.shortNamesRow.holds Tryz.pinned (OpenSpec.ofChange Rows.shortNamesSpec) :=
  OpenClaim.holds_of_cond 6 Tryz.f6 rfl rfl rfl rfl rfl rfl rfl ⟨rfl, rfl, rfl, rfl, rfl⟩ rfl rfl rfl rfl rfl (by kernel_rfl) Tryz.func6 (by kernel_rfl)
    (of_decide_eq_true (by kernel_rfl)) (by unfold Func.isWrapper; first | (rw [if_pos (by decide +kernel)]; kernel_rfl) | (rw [if_neg (by decide +kernel)]; exact ⟨rfl, rfl⟩))
    (fun os started H enc _ F => by rw [OpenClaim.pre_eq_preRow]; exact lifted os started H enc F)

theorem proved : Rows.ShortNamesCardSaid :=
  Claim7.holds_tied_plain_at .later [] [.data, .data, .data, .sentinel, .sentinel, .listed, .data] true (true, "2efdc81d0b45ba4bd2655f72c8ca8b6707d7859a7cac8ba879c0b24ac99d16ab") true over (fun _ h => by cases h) (by kernel_rfl) (fun _ h => by cases h) shortNames_row_tie rfl ⟨rfl, rfl⟩ (by kernel_rfl) rfl
    (fun f fn hf hfn => by
      obtain rfl : f = 6 := (Option.some.inj ((show Tryz.prog.funcNamed "vitrine/vitrinelaw27.ShortNames" = some 6 by kernel_rfl).symm.trans hf)).symm
      obtain rfl : fn = Tryz.f6 := (Option.some.inj (Tryz.func6.symm.trans hfn)).symm
      refine ⟨by kernel_rfl, fun j t ht => ?_⟩
      have hall : (Tryz.f6.params.toList.all fun t => !Tryz.prog.wantsStandIn t) = true := by kernel_rfl
      have h1 := List.all_eq_true.1 hall t (Array.mem_toList_iff.2 (Array.mem_of_getElem? ht))
      exact (by simpa using h1 : Tryz.prog.wantsStandIn t = false))
    (by kernel_rfl)
#print axioms proved
end Go.Proofs.YtpgflfjmjppmeaaGreatDoor.shortNames
