/-
  TopText: whatever the input, the law returns true, and what came in reads as it did; and the card.
-/
import Derived.Test.YtpobihiejncdgaaGreatDoorC
import Derived.OpenShut
import Derived.ShutString
import Derived.Below
import Derived.Test.YtpobihiejncdgaaGreatDoorP3
import Derived.Test.YtpobihiejncdgaaGreatDoorTie
import Derived.Test.YtpobihiejncdgaaGreatDoorCards
import Derived.SevenTiedAt
import Derived.Test.YtpobihiejncdgaaGreatDoorJF
namespace Go.Proofs.YtpobihiejncdgaaGreatDoor.topText
open Go.ChangeShapes Go.WideShapes Go.ChangeAt Go.RowKit Go.V
open Go.ChangeMaps (open_string shut_string)
set_option linter.unusedVariables false
theorem aj8(os:Os){H:Type}(enc:TypeId×Value→H):(OpenSpec.ofChange Rows.topTextSpec).preRow enc Tryz.prog Tryz.f3 Rows.topTextRow.domain false Rows.topTextRow.laid ((OJ os).forCall (fun _ _=>0) ⟨#[],#[.string ⟨#[]⟩],[]⟩).memory #[.string ⟨#[]⟩]:=by
  obtain⟨x,hx⟩:∃x,DataW.whole enc Tryz.prog ((OJ os).forCall (fun _ _=>0) ⟨#[],#[.string ⟨#[]⟩],[]⟩).memory Tryz.f3.params.toList (OpenSpec.ofChange Rows.topTextSpec).vars false #[.string ⟨#[]⟩].toList 12=some x:=Option.isSome_iff_exists.1 (by kernel_rfl)
  exact OpenSpec.preRow_of_cond 12 hx (by rfl) (fun k hk=>by cases hk) (by kernel_rfl) (aj5 os _)
set_option maxRecDepth 100000 in
theorem lifted(os:Os)(started:os.Started)(H:Type)(enc:TypeId×Value→H)(F:Stop.Interp):
    ReturnsInHanded {} Tryz.checked os 3 .any ((OpenSpec.ofChange Rows.topTextSpec).preRow enc Tryz.prog Tryz.f3 Rows.topTextRow.domain false Rows.topTextRow.laid) (((OpenSpec.ofChange Rows.topTextSpec).at F).post enc Tryz.prog Tryz.f3 false true false false):=by
  refine returnsInHanded_of_row (C:=Tryz.checked) (s:=(OpenSpec.ofChange Rows.topTextSpec)) aj3 started (by kernel_rfl) Tryz.func3
    (witness_row_atRef (enc:=enc) (C:=Tryz.checked) false (OJ os) #[.string ⟨#[]⟩] rfl (by kernel_rfl) (by kernel_rfl) (by kernel_rfl) (aj8 os enc)) ?_
  intro W base args ds gs before a3C hW _ _ _ hL uu _
  have A6:∀(j:Nat) t v,Tryz.f3.params[j]?=some t→args[j]?=some v→Value.okWide Tryz.prog W .any base t v:=a3C
  have hW':=hW
  obtain⟨p,q,hA0,hV,rfl,_,_⟩:=hW
  have hA:DataW.TrodAll enc Tryz.prog W 0 (fun _=>true) true Tryz.f3.params.toList args.toList ds p:=hA0
  rw[Tryz.params3]at hA A6
  obtain⟨v0,vs0,d0,ds0,p0,q0,ak3,rfl,rfl,h0,r0⟩:=trodAll_cons hA
  obtain⟨rfl,rfl,rfl⟩:=trodAll_nil r0
  obtain rfl:args=#[v0]:=by cases args;simp_all
  obtain⟨rfl,rfl⟩:=trodVars_none hV
  have k0:=h0
  have ym:∀x∈p0,x.block<W.heap.size:=by obtain⟨n,hn⟩:=k0;exact DataW.trod_lt n _ _ _ hn
  obtain⟨x0,rfl,rfl,rfl,w0⟩:=open_string Tryz.underlying9 (A6 0 9 v0 rfl rfl) h0
  clear hA0 a3C
  have hS:=((lF (qo (cj bz (aj6 hL)) (aj7 hL)) (by obtain⟨m,hm⟩:=Tryz.a5G.s1_3 W uu;exact⟨⟨m,hm⟩,Y9 hm⟩)):S0 F0 _ W∧aG _=[])
  refine(a7K hS (fun hS=>a0d F0 _ (x0.data.toList) true (aj2 (x0.data.toList) w0) W hS)).mono fun e W' ⟨he,bel⟩=>?_
  subst he
  exact⟨_,rfl,_,_,_,[],_,[],hW',trodAll_mk1 (shut_bool Tryz.underlying4 _),(trodAll_cons_mk (Below.trod aj4 (by kernel_rfl) (of_decide_eq_true (by kernel_rfl)) k0 bel ym) trodAll_mk0),rfl,bel.frame _,fun h=>by cases h⟩

theorem over:Rows.topTextRow.holds Tryz.pinned (OpenSpec.ofChange Rows.topTextSpec):=
  OpenClaim.holds_of_cond 3 Tryz.f3 rfl rfl rfl rfl rfl rfl rfl ⟨rfl,rfl,rfl,rfl,rfl⟩ rfl rfl rfl rfl rfl (by as_aux_lemma=>kernel_rfl) Tryz.func3 jf
    (of_decide_eq_true (by as_aux_lemma=>kernel_rfl)) (by unfold Func.isWrapper;first|(rw[if_pos (by decide+kernel)];kernel_rfl)|(rw[if_neg (by decide+kernel)];exact⟨rfl,rfl⟩))
    (fun os started H enc _ F=>by rw[OpenClaim.pre_eq_preRow];exact lifted os started H enc F)

theorem proved:Rows.TopTextCardSaid:=
  Claim7.holds_tied_plain_at .later [] [.data,.data,.data,.data,.pinned] true (true, "e3603f039c8c131059131932301788fb39d8688119dc7e363a49ce8d2115d26f") true over (fun _ h=>by cases h) (by as_aux_lemma=>kernel_rfl) (fun _ h=>by cases h) topText_row_tie rfl ⟨rfl,rfl⟩ (by as_aux_lemma=>kernel_rfl) rfl
    (fun f fn hf hfn=>by
      obtain rfl:f=3:=(Option.some.inj ((show Tryz.prog.funcNamed "vitrine/vitrinetop.TopText" =some 3 by as_aux_lemma=>kernel_rfl).symm.trans hf)).symm
      obtain rfl:fn=Tryz.f3:=(Option.some.inj (Tryz.func3.symm.trans hfn)).symm
      refine⟨by as_aux_lemma=>kernel_rfl,fun j t ht=>?_⟩
      have yP:(Tryz.f3.params.toList.all fun t=>!Tryz.prog.wantsStandIn t)=true:=by as_aux_lemma=>kernel_rfl
      have h1:=List.all_eq_true.1 yP t (Array.mem_toList_iff.2 (Array.mem_of_getElem? ht))
      exact(by simpa using h1:Tryz.prog.wantsStandIn t=false))
    (by as_aux_lemma=>kernel_rfl)
#print axioms proved
end Go.Proofs.YtpobihiejncdgaaGreatDoor.topText
