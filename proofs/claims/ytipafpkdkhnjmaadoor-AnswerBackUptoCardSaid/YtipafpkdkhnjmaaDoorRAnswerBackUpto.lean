/-
  AnswerBack: whatever the input, the law returns true, and what came in reads as it did; and the card.
-/
import Derived.Test.YtipafpkdkhnjmaaDoorCU
import Derived.OpenShut
import Derived.ShutString
import Derived.Below
import Derived.Test.YtipafpkdkhnjmaaDoorP40Back
import Derived.Test.YtipafpkdkhnjmaaDoorTie
import Derived.Test.YtipafpkdkhnjmaaDoorCards
import Derived.SevenTiedAt
namespace Go.Proofs.YtipafpkdkhnjmaaDoor.answerBackUpto
open Go.ChangeShapes Go.WideShapes Go.ChangeAt Go.RowKit Go.V
open Go.ChangeMaps (open_string shut_string)
set_option linter.unusedVariables false
theorem witness_row (os : Os) {H : Type} (enc : TypeId × Value → H) : (Rows.OpenSpec.upto Rows.answerBackSpec).preRow enc Tryd.prog Tryd.f6 Rows.answerBackUptoRow.domain false Rows.answerBackUptoRow.laid ((c_world os).forCall (fun _ _ => 0) ⟨#[], #[.slice none 0 0, .string ⟨#[]⟩], []⟩).memory #[.slice none 0 0, .string ⟨#[]⟩] := by
  obtain ⟨x, hx⟩ : ∃ x, DataW.whole enc Tryd.prog ((c_world os).forCall (fun _ _ => 0) ⟨#[], #[.slice none 0 0, .string ⟨#[]⟩], []⟩).memory Tryd.f6.params.toList (Rows.OpenSpec.upto Rows.answerBackSpec).vars false #[.slice none 0 0, .string ⟨#[]⟩].toList 12 = some x := Option.isSome_iff_exists.1 (by kernel_rfl)
  have hs : (DataW.whole enc Tryd.prog ((c_world os).forCall (fun _ _ => 0) ⟨#[], #[.slice none 0 0, .string ⟨#[]⟩], []⟩).memory Tryd.f6.params.toList (Rows.OpenSpec.upto Rows.answerBackSpec).vars false #[.slice none 0 0, .string ⟨#[]⟩].toList 12).map (fun x => Rows.uptoSmall H (x.1 ++ x.2.1)) = some true := by kernel_rfl
  rw [hx] at hs
  exact OpenSpec.preRow_of_cond 12 hx (by rfl) (fun k hk => by cases hk; exact Option.some.inj hs) (by kernel_rfl) (c_laid os _)
set_option maxRecDepth 100000 in
theorem lifted (os : Os) (started : os.Started) (H : Type) (enc : TypeId × Value → H) (F : Stop.Interp) :
    ReturnsInHanded {} Tryd.checked os 6 .any ((Rows.OpenSpec.upto Rows.answerBackSpec).preRow enc Tryd.prog Tryd.f6 Rows.answerBackUptoRow.domain false Rows.answerBackUptoRow.laid) (((Rows.OpenSpec.upto Rows.answerBackSpec).at F).post enc Tryd.prog Tryd.f6 false true false false) := by
  refine returnsInHanded_of_row (C := Tryd.checked) (s := (Rows.OpenSpec.upto Rows.answerBackSpec)) c_own started (by kernel_rfl) Tryd.func6
    (witness_row_atRef (enc := enc) (C := Tryd.checked) false (c_world os) #[.slice none 0 0, .string ⟨#[]⟩] rfl (by kernel_rfl) (by kernel_rfl) (by kernel_rfl) (witness_row os enc)) ?_
  intro W base args ds gs before hval0 hW _ hcond _ hL hsh _
  have hval : ∀ (j : Nat) t v, Tryd.f6.params[j]? = some t → args[j]? = some v → Value.okWide Tryd.prog W .any base t v := hval0
  have hW' := hW
  obtain ⟨p, q, hA0, hV, rfl, _, _⟩ := hW
  have hA : DataW.TrodAll enc Tryd.prog W 0 (fun _ => true) true Tryd.f6.params.toList args.toList ds p := hA0
  rw [Tryd.params6] at hA hval
  obtain ⟨v0, vs0, d0, ds0, p0, q0, hargs, rfl, rfl, h0, r0⟩ := trodAll_cons hA
  obtain ⟨v1, vs1, d1, ds1, p1, q1, rfl, rfl, rfl, h1, r1⟩ := trodAll_cons r0
  obtain ⟨rfl, rfl, rfl⟩ := trodAll_nil r1
  obtain rfl : args = #[v0, v1] := by cases args; simp_all
  obtain ⟨rfl, rfl⟩ := trodVars_none hV
  have k0 := h0
  have lt0 : ∀ x ∈ p0, x.block < W.heap.size := by obtain ⟨n, hn⟩ := k0; exact DataW.trod_lt n _ _ _ hn
  obtain ⟨a0, l0, c0, rfl⟩ := okWide_slice Tryd.underlying41 (hval 0 41 v0 rfl rfl)
  obtain ⟨fu0, hf0⟩ := h0
  obtain ⟨x0, g0, e0, i0, w0, b0⟩ := (opb_slice Tryd.underlying41 (by kernel_rfl) (by kernel_rfl) opn_TAnswer) _ _ _ hf0
  have e0' : [Value.slice a0 l0 c0] = [Value.slice (g0 0).a x0.length (g0 0).c] := e0
  cases e0'
  have k1 := h1
  have lt1 : ∀ x ∈ p1, x.block < W.heap.size := by obtain ⟨n, hn⟩ := k1; exact DataW.trod_lt n _ _ _ hn
  obtain ⟨x1, rfl, rfl, rfl, w1⟩ := open_string Tryd.underlying9 (hval 1 9 v1 rfl rfl) h1
  clear hA0 hval0
  have hS := ((s0im (s0tab (s0gf (s0gf s0nil (c_ifc3 hL)) (c_ifc2 hL)) (c_tab1 hL)) (sl_inn i0)) : S0 F0 _ W ∧ fpl _ = [])
  have hb := of_decide_eq_true (hcond _ rfl)
  simp only [List.append_nil, Rows.uptoBulkAll] at hb
  have b0 : bkL bk_TAnswer x0 ≤ Rows.uptoBulk d0 := b0
  have b1 : x1.data.toList.length + 1 ≤ Rows.uptoBulk (H := H) (.lit (.string x1.data.toList)) := Nat.le_of_eq (bulk_str _).symm
  have hB : bkL bk_TAnswer x0 + (x1.data.toList.length + 1) + 0 ≤ 1048576 := by omega
  refine (pure_of hS (fun hS => law40_AnswerBack_w F0 _ x0 (x1.data.toList) true (plain_AnswerBack x0 (x1.data.toList) w0 w1 hB) W hS)).mono fun e W' ⟨he, bel⟩ => ?_
  subst he
  exact ⟨_, rfl, _, _, _, [], _, [], hW', trodAll_mk1 (shut_bool Tryd.underlying4 _), (trodAll_cons_mk (Below.trod c_laidOut (by kernel_rfl) (of_decide_eq_true (by kernel_rfl)) k0 bel lt0) (trodAll_cons_mk (Below.trod c_laidOut (by kernel_rfl) (of_decide_eq_true (by kernel_rfl)) k1 bel lt1) trodAll_mk0)), rfl, bel.frame _, fun h => by cases h⟩

theorem over : Rows.answerBackUptoRow.holds Tryd.pinned (Rows.OpenSpec.upto Rows.answerBackSpec) :=
  OpenClaim.holds_of_cond 6 Tryd.f6 rfl rfl rfl rfl rfl rfl rfl ⟨rfl, rfl, rfl, rfl, rfl⟩ rfl rfl rfl rfl rfl (by kernel_rfl) Tryd.func6 (by kernel_rfl)
    (of_decide_eq_true (by kernel_rfl)) (by unfold Func.isWrapper; first | (rw [if_pos (by decide +kernel)]; kernel_rfl) | (rw [if_neg (by decide +kernel)]; exact ⟨rfl, rfl⟩))
    (fun os started H enc _ F => by rw [OpenClaim.pre_eq_preRow]; exact lifted os started H enc F)

theorem proved : Rows.AnswerBackUptoCardSaid :=
  Claim7.holds_tied_plain_at .later [] [.data, .data, .data, .sentinel, .sentinel] true (true, "f5708d80384b28cff6b26b75592bb26a52aacfeeb662cc3f19e0923825bd4dc0") true over (fun _ h => by cases h) (by kernel_rfl) (fun _ h => by cases h) answerBackUpto_row_tie rfl ⟨rfl, rfl⟩ (by kernel_rfl) rfl
    (fun f fn hf hfn => by
      obtain rfl : f = 6 := (Option.some.inj ((show Tryd.prog.funcNamed "vitrine/vitrinelaw40.AnswerBack" = some 6 by kernel_rfl).symm.trans hf)).symm
      obtain rfl : fn = Tryd.f6 := (Option.some.inj (Tryd.func6.symm.trans hfn)).symm
      refine ⟨by kernel_rfl, fun j t ht => ?_⟩
      have hall : (Tryd.f6.params.toList.all fun t => !Tryd.prog.wantsStandIn t) = true := by kernel_rfl
      have h1 := List.all_eq_true.1 hall t (Array.mem_toList_iff.2 (Array.mem_of_getElem? ht))
      exact (by simpa using h1 : Tryd.prog.wantsStandIn t = false))
    (by kernel_rfl)
#print axioms proved
end Go.Proofs.YtipafpkdkhnjmaaDoor.answerBackUpto
