/-
  ShortValues: whatever the input, the law returns true, and what came in reads as it did; and the card.
-/
import Derived.Test.YtpgflfjmjppmeaaGreatDoorCU
import Derived.OpenShut
import Derived.ShutString
import Derived.Below
import Derived.Test.YtpgflfjmjppmeaaGreatDoorP27V
import Derived.Test.YtpgflfjmjppmeaaGreatDoorTie
import Derived.Test.YtpgflfjmjppmeaaGreatDoorCards
import Derived.SevenTiedAt
namespace Go.Proofs.YtpgflfjmjppmeaaGreatDoor.shortValuesUpto
open Go.ChangeShapes Go.WideShapes Go.ChangeAt Go.RowKit Go.V
open Go.ChangeMaps (open_string shut_string)
set_option linter.unusedVariables false
theorem witness_row (os : Os) {H : Type} (enc : TypeId × Value → H) : (Rows.OpenSpec.upto Rows.shortValuesSpec).preRow enc Tryz.prog Tryz.f7 Rows.shortValuesUptoRow.domain false Rows.shortValuesUptoRow.laid ((c_world os).forCall (fun _ _ => 0) ⟨#[], #[.agg #[.string ⟨#[]⟩, .slice none 0 0, .bool false]], []⟩).memory #[.agg #[.string ⟨#[]⟩, .slice none 0 0, .bool false]] := by
  obtain ⟨x, hx⟩ : ∃ x, DataW.whole enc Tryz.prog ((c_world os).forCall (fun _ _ => 0) ⟨#[], #[.agg #[.string ⟨#[]⟩, .slice none 0 0, .bool false]], []⟩).memory Tryz.f7.params.toList (Rows.OpenSpec.upto Rows.shortValuesSpec).vars false #[.agg #[.string ⟨#[]⟩, .slice none 0 0, .bool false]].toList 12 = some x := Option.isSome_iff_exists.1 (by kernel_rfl)
  have hs : (DataW.whole enc Tryz.prog ((c_world os).forCall (fun _ _ => 0) ⟨#[], #[.agg #[.string ⟨#[]⟩, .slice none 0 0, .bool false]], []⟩).memory Tryz.f7.params.toList (Rows.OpenSpec.upto Rows.shortValuesSpec).vars false #[.agg #[.string ⟨#[]⟩, .slice none 0 0, .bool false]].toList 12).map (fun x => Rows.uptoSmall H (x.1 ++ x.2.1)) = some true := by kernel_rfl
  rw [hx] at hs
  exact OpenSpec.preRow_of_cond 12 hx (by rfl) (fun k hk => by cases hk; exact Option.some.inj hs) (by kernel_rfl) (c_laid os _)
set_option maxRecDepth 100000 in
theorem lifted (os : Os) (started : os.Started) (H : Type) (enc : TypeId × Value → H) (F : Stop.Interp) :
    ReturnsInHanded {} Tryz.checked os 7 .any ((Rows.OpenSpec.upto Rows.shortValuesSpec).preRow enc Tryz.prog Tryz.f7 Rows.shortValuesUptoRow.domain false Rows.shortValuesUptoRow.laid) (((Rows.OpenSpec.upto Rows.shortValuesSpec).at F).post enc Tryz.prog Tryz.f7 false true false false) := by
  refine returnsInHanded_of_row (C := Tryz.checked) (s := (Rows.OpenSpec.upto Rows.shortValuesSpec)) c_own started (by kernel_rfl) Tryz.func7
    (witness_row_atRef (enc := enc) (C := Tryz.checked) false (c_world os) #[.agg #[.string ⟨#[]⟩, .slice none 0 0, .bool false]] rfl (by kernel_rfl) (by kernel_rfl) (by kernel_rfl) (witness_row os enc)) ?_
  intro W base args ds gs before hval0 hW _ hcond _ hL hsh _
  have hval : ∀ (j : Nat) t v, Tryz.f7.params[j]? = some t → args[j]? = some v → Value.okWide Tryz.prog W .any base t v := hval0
  have hW' := hW
  obtain ⟨p, q, hA0, hV, rfl, _, _⟩ := hW
  have hA : DataW.TrodAll enc Tryz.prog W 0 (fun _ => true) true Tryz.f7.params.toList args.toList ds p := hA0
  rw [Tryz.params7] at hA hval
  obtain ⟨v0, vs0, d0, ds0, p0, q0, hargs, rfl, rfl, h0, r0⟩ := trodAll_cons hA
  obtain ⟨rfl, rfl, rfl⟩ := trodAll_nil r0
  obtain rfl : args = #[v0] := by cases args; simp_all
  obtain ⟨rfl, rfl⟩ := trodVars_none hV
  have k0 := h0
  have lt0 : ∀ x ∈ p0, x.block < W.heap.size := by obtain ⟨n, hn⟩ := k0; exact DataW.trod_lt n _ _ _ hn
  obtain ⟨⟨c0⟩, rfl, _⟩ := okWide_struct Tryz.underlying38 (hval 0 38 v0 rfl rfl)
  obtain ⟨fu0, hf0⟩ := h0
  obtain ⟨x0, g0, e0, i0, w0, b0⟩ := opn_TDecl _ _ _ hf0
  have e0' : c0 = tyDecl.enc x0 g0 := e0
  subst e0'
  clear hA0 hval0
  have hS := ((s0im (s0im s0nil (c_gl_strings_asciiSpace hL)) (tyDecl_i0 i0)) : S0 F0 _ W ∧ fpl _ = [])
  have hb := of_decide_eq_true (hcond _ rfl)
  simp only [List.append_nil, Rows.uptoBulkAll] at hb
  have b0 : bk_TDecl x0 ≤ Rows.uptoBulk d0 := b0
  have hB : bk_TDecl x0 + 0 ≤ 1048576 := by omega
  refine (pure_of hS (fun hS => law27_ShortValues_w F0 _ x0 true (plain_ShortValues x0 w0 hB) W hS)).mono fun e W' ⟨he, bel⟩ => ?_
  subst he
  exact ⟨_, rfl, _, _, _, [], _, [], hW', trodAll_mk1 (shut_bool Tryz.underlying4 _), (trodAll_cons_mk (Below.trod c_laidOut (by kernel_rfl) (of_decide_eq_true (by kernel_rfl)) k0 bel lt0) trodAll_mk0), rfl, bel.frame _, fun h => by cases h⟩

theorem over : Rows.shortValuesUptoRow.holds Tryz.pinned (Rows.OpenSpec.upto Rows.shortValuesSpec) :=
  OpenClaim.holds_of_cond 7 Tryz.f7 rfl rfl rfl rfl rfl rfl rfl ⟨rfl, rfl, rfl, rfl, rfl⟩ rfl rfl rfl rfl rfl (by kernel_rfl) Tryz.func7 (by kernel_rfl)
    (of_decide_eq_true (by kernel_rfl)) (by unfold Func.isWrapper; first | (rw [if_pos (by decide +kernel)]; kernel_rfl) | (rw [if_neg (by decide +kernel)]; exact ⟨rfl, rfl⟩))
    (fun os started H enc _ F => by rw [OpenClaim.pre_eq_preRow]; exact lifted os started H enc F)

theorem proved : Rows.ShortValuesUptoCardSaid :=
  Claim7.holds_tied_plain_at .later [] [.data, .data, .data, .sentinel, .sentinel, .listed, .data] true (true, "2efdc81d0b45ba4bd2655f72c8ca8b6707d7859a7cac8ba879c0b24ac99d16ab") true over (fun _ h => by cases h) (by kernel_rfl) (fun _ h => by cases h) shortValuesUpto_row_tie rfl ⟨rfl, rfl⟩ (by kernel_rfl) rfl
    (fun f fn hf hfn => by
      obtain rfl : f = 7 := (Option.some.inj ((show Tryz.prog.funcNamed "vitrine/vitrinelaw27.ShortValues" = some 7 by kernel_rfl).symm.trans hf)).symm
      obtain rfl : fn = Tryz.f7 := (Option.some.inj (Tryz.func7.symm.trans hfn)).symm
      refine ⟨by kernel_rfl, fun j t ht => ?_⟩
      have hall : (Tryz.f7.params.toList.all fun t => !Tryz.prog.wantsStandIn t) = true := by kernel_rfl
      have h1 := List.all_eq_true.1 hall t (Array.mem_toList_iff.2 (Array.mem_of_getElem? ht))
      exact (by simpa using h1 : Tryz.prog.wantsStandIn t = false))
    (by kernel_rfl)
#print axioms proved
end Go.Proofs.YtpgflfjmjppmeaaGreatDoor.shortValuesUpto
