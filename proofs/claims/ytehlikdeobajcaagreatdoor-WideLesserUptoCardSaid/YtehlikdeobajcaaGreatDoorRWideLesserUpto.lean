/-
  WideLesser: whatever the input, the law returns true, and what came in reads as it did; and the card.
-/
import Derived.Test.YtehlikdeobajcaaGreatDoorCU
import Derived.OpenShut
import Derived.ShutString
import Derived.Below
import Derived.Test.YtehlikdeobajcaaGreatDoorP31Lesser
import Derived.Test.YtehlikdeobajcaaGreatDoorTie
import Derived.Test.YtehlikdeobajcaaGreatDoorCards
import Derived.SevenTiedAt
namespace Go.Proofs.YtehlikdeobajcaaGreatDoor.wideLesserUpto
open Go.ChangeShapes Go.WideShapes Go.ChangeAt Go.RowKit Go.V
open Go.ChangeMaps (open_string shut_string)
set_option linter.unusedVariables false
theorem witness_row (os : Os) {H : Type} (enc : TypeId × Value → H) : (Rows.OpenSpec.upto Rows.wideLesserSpec).preRow enc Tryz.prog Tryz.f5 Rows.wideLesserUptoRow.domain false Rows.wideLesserUptoRow.laid ((c_world os).forCall (fun _ _ => 0) ⟨#[], #[.slice none 0 0, .int .u8 0], []⟩).memory #[.slice none 0 0, .int .u8 0] := by
  obtain ⟨x, hx⟩ : ∃ x, DataW.whole enc Tryz.prog ((c_world os).forCall (fun _ _ => 0) ⟨#[], #[.slice none 0 0, .int .u8 0], []⟩).memory Tryz.f5.params.toList (Rows.OpenSpec.upto Rows.wideLesserSpec).vars false #[.slice none 0 0, .int .u8 0].toList 12 = some x := Option.isSome_iff_exists.1 (by kernel_rfl)
  have hs : (DataW.whole enc Tryz.prog ((c_world os).forCall (fun _ _ => 0) ⟨#[], #[.slice none 0 0, .int .u8 0], []⟩).memory Tryz.f5.params.toList (Rows.OpenSpec.upto Rows.wideLesserSpec).vars false #[.slice none 0 0, .int .u8 0].toList 12).map (fun x => Rows.uptoSmall H (x.1 ++ x.2.1)) = some true := by kernel_rfl
  rw [hx] at hs
  exact OpenSpec.preRow_of_cond 12 hx (by rfl) (fun k hk => by cases hk; exact Option.some.inj hs) (by kernel_rfl) (c_laid os _)
set_option maxRecDepth 100000 in
theorem lifted (os : Os) (started : os.Started) (H : Type) (enc : TypeId × Value → H) (F : Stop.Interp) :
    ReturnsInHanded {} Tryz.checked os 5 .any ((Rows.OpenSpec.upto Rows.wideLesserSpec).preRow enc Tryz.prog Tryz.f5 Rows.wideLesserUptoRow.domain false Rows.wideLesserUptoRow.laid) (((Rows.OpenSpec.upto Rows.wideLesserSpec).at F).post enc Tryz.prog Tryz.f5 false true false false) := by
  refine returnsInHanded_of_row (C := Tryz.checked) (s := (Rows.OpenSpec.upto Rows.wideLesserSpec)) c_own started (by kernel_rfl) Tryz.func5
    (witness_row_atRef (enc := enc) (C := Tryz.checked) false (c_world os) #[.slice none 0 0, .int .u8 0] rfl (by kernel_rfl) (by kernel_rfl) (by kernel_rfl) (witness_row os enc)) ?_
  intro W base args ds gs before hval0 hW _ hcond _ hL hsh _
  have hval : ∀ (j : Nat) t v, Tryz.f5.params[j]? = some t → args[j]? = some v → Value.okWide Tryz.prog W .any base t v := hval0
  have hW' := hW
  obtain ⟨p, q, hA0, hV, rfl, _, _⟩ := hW
  have hA : DataW.TrodAll enc Tryz.prog W 0 (fun _ => true) true Tryz.f5.params.toList args.toList ds p := hA0
  rw [Tryz.params5] at hA hval
  obtain ⟨v0, vs0, d0, ds0, p0, q0, hargs, rfl, rfl, h0, r0⟩ := trodAll_cons hA
  obtain ⟨v1, vs1, d1, ds1, p1, q1, rfl, rfl, rfl, h1, r1⟩ := trodAll_cons r0
  obtain ⟨rfl, rfl, rfl⟩ := trodAll_nil r1
  obtain rfl : args = #[v0, v1] := by cases args; simp_all
  obtain ⟨rfl, rfl⟩ := trodVars_none hV
  have k0 := h0
  have lt0 : ∀ x ∈ p0, x.block < W.heap.size := by obtain ⟨n, hn⟩ := k0; exact DataW.trod_lt n _ _ _ hn
  obtain ⟨a0, l0, c0, rfl⟩ := okWide_slice Tryz.underlying22 (hval 0 22 v0 rfl rfl)
  obtain ⟨fu0, hf0⟩ := h0
  obtain ⟨x0, g0, e0, i0, w0, b0⟩ := (opb_slice Tryz.underlying22 (by kernel_rfl) (by kernel_rfl) opn_TDeclared) _ _ _ hf0
  have e0' : [Value.slice a0 l0 c0] = [Value.slice (g0 0).a x0.length (g0 0).c] := e0
  cases e0'
  have k1 := h1
  have lt1 : ∀ x ∈ p1, x.block < W.heap.size := by obtain ⟨n, hn⟩ := k1; exact DataW.trod_lt n _ _ _ hn
  obtain ⟨x1, rfl, rfl, rfl, w1⟩ := open_int Tryz.underlying5 (hval 1 5 v1 rfl rfl) h1
  clear hA0 hval0
  have hS := ((s0im (s0im s0nil (c_gl_strings_asciiSpace hL)) (sl_inn i0)) : S0 F0 _ W ∧ fpl _ = [])
  have hb := of_decide_eq_true (hcond _ rfl)
  simp only [List.append_nil, Rows.uptoBulkAll] at hb
  have b0 : bkL bk_TDeclared x0 ≤ Rows.uptoBulk d0 := b0
  have b1 : 1 ≤ Rows.uptoBulk (H := H) (.lit (.int .u8 x1)) := one_le _
  have hB : bkL bk_TDeclared x0 + 1 + 0 ≤ 1048576 := by omega
  refine (pure_of hS (fun hS => law31_WideLesser_w F0 _ x0 x1 true (plain_WideLesser x0 x1 w0 w1 hB) W hS)).mono fun e W' ⟨he, bel⟩ => ?_
  subst he
  exact ⟨_, rfl, _, _, _, [], _, [], hW', trodAll_mk1 (shut_bool Tryz.underlying4 _), (trodAll_cons_mk (Below.trod c_laidOut (by kernel_rfl) (of_decide_eq_true (by kernel_rfl)) k0 bel lt0) (trodAll_cons_mk (Below.trod c_laidOut (by kernel_rfl) (of_decide_eq_true (by kernel_rfl)) k1 bel lt1) trodAll_mk0)), rfl, bel.frame _, fun h => by cases h⟩

theorem over : Rows.wideLesserUptoRow.holds Tryz.pinned (Rows.OpenSpec.upto Rows.wideLesserSpec) :=
  OpenClaim.holds_of_cond 5 Tryz.f5 rfl rfl rfl rfl rfl rfl rfl ⟨rfl, rfl, rfl, rfl, rfl⟩ rfl rfl rfl rfl rfl (by kernel_rfl) Tryz.func5 (by kernel_rfl)
    (of_decide_eq_true (by kernel_rfl)) (by unfold Func.isWrapper; first | (rw [if_pos (by decide +kernel)]; kernel_rfl) | (rw [if_neg (by decide +kernel)]; exact ⟨rfl, rfl⟩))
    (fun os started H enc _ F => by rw [OpenClaim.pre_eq_preRow]; exact lifted os started H enc F)

theorem proved : Rows.WideLesserUptoCardSaid :=
  Claim7.holds_tied_plain_at .later [] [.listed, .data] true (true, "7a5d1c74066c66f5e1d777c99753f9db4123d631b04045f0b4242ee0724393d1") false over (fun _ h => by cases h) (by kernel_rfl) (fun _ h => by cases h) wideLesserUpto_row_tie rfl ⟨rfl, rfl⟩ (by kernel_rfl) rfl
    (fun f fn hf hfn => by
      obtain rfl : f = 5 := (Option.some.inj ((show Tryz.prog.funcNamed "vitrine/vitrinelaw31.WideLesser" = some 5 by kernel_rfl).symm.trans hf)).symm
      obtain rfl : fn = Tryz.f5 := (Option.some.inj (Tryz.func5.symm.trans hfn)).symm
      refine ⟨by kernel_rfl, fun j t ht => ?_⟩
      have hall : (Tryz.f5.params.toList.all fun t => !Tryz.prog.wantsStandIn t) = true := by kernel_rfl
      have h1 := List.all_eq_true.1 hall t (Array.mem_toList_iff.2 (Array.mem_of_getElem? ht))
      exact (by simpa using h1 : Tryz.prog.wantsStandIn t = false))
    (by kernel_rfl)
#print axioms proved
end Go.Proofs.YtehlikdeobajcaaGreatDoor.wideLesserUpto
