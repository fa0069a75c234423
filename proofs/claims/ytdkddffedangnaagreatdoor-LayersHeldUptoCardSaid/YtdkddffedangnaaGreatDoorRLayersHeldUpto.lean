/-
  LayersHeld: whatever the input, the law returns true, and what came in reads as it did; and the card.
-/
import Derived.Test.YtdkddffedangnaaGreatDoorCU
import Derived.OpenShut
import Derived.ShutString
import Derived.Below
import Derived.Test.YtdkddffedangnaaGreatDoorQ4
import Derived.Test.YtdkddffedangnaaGreatDoorTie
import Derived.Test.YtdkddffedangnaaGreatDoorCards
import Derived.SevenTiedAt
import Derived.Test.YtdkddffedangnaaGreatDoorJF
namespace Go.Proofs.YtdkddffedangnaaGreatDoor.layersHeldUpto
open Go.ChangeShapes Go.WideShapes Go.ChangeAt Go.RowKit Go.V
open Go.ChangeMaps (open_string shut_string)
set_option linter.unusedVariables false
theorem alB(os:Os){H:Type}(enc:TypeId×Value→H):(Rows.OpenSpec.upto Rows.layersHeldSpec).preRow enc Tryz.prog Tryz.f3 Rows.layersHeldUptoRow.domain false Rows.layersHeldUptoRow.laid ((Oh os).forCall (fun _ _=>0) ⟨#[],#[.slice none 0 0,.agg #[.int .i64 0]],[]⟩).memory #[.slice none 0 0,.agg #[.int .i64 0]]:=by
  obtain⟨x,hx⟩:∃x,DataW.whole enc Tryz.prog ((Oh os).forCall (fun _ _=>0) ⟨#[],#[.slice none 0 0,.agg #[.int .i64 0]],[]⟩).memory Tryz.f3.params.toList (Rows.OpenSpec.upto Rows.layersHeldSpec).vars false #[.slice none 0 0,.agg #[.int .i64 0]].toList 12=some x:=Option.isSome_iff_exists.1 (by kernel_rfl)
  have hs:(DataW.whole enc Tryz.prog ((Oh os).forCall (fun _ _=>0) ⟨#[],#[.slice none 0 0,.agg #[.int .i64 0]],[]⟩).memory Tryz.f3.params.toList (Rows.OpenSpec.upto Rows.layersHeldSpec).vars false #[.slice none 0 0,.agg #[.int .i64 0]].toList 12).map (fun x=>Rows.uptoSmall H (x.1++x.2.1))=some true:=by kernel_rfl
  rw[hx]at hs
  exact OpenSpec.preRow_of_cond 12 hx (by rfl) (fun k hk=>by cases hk;exact Option.some.inj hs) (by kernel_rfl) (al9 os _)
set_option maxRecDepth 100000 in
theorem lifted(os:Os)(started:os.Started)(H:Type)(enc:TypeId×Value→H)(F:Stop.Interp):
    ReturnsInHanded {} Tryz.checked os 3 .any ((Rows.OpenSpec.upto Rows.layersHeldSpec).preRow enc Tryz.prog Tryz.f3 Rows.layersHeldUptoRow.domain false Rows.layersHeldUptoRow.laid) (((Rows.OpenSpec.upto Rows.layersHeldSpec).at F).post enc Tryz.prog Tryz.f3 false true false false):=by
  refine returnsInHanded_of_row (C:=Tryz.checked) (s:=(Rows.OpenSpec.upto Rows.layersHeldSpec)) al8 started (by kernel_rfl) Tryz.func3
    (witness_row_atRef (enc:=enc) (C:=Tryz.checked) false (Oh os) #[.slice none 0 0,.agg #[.int .i64 0]] rfl (by kernel_rfl) (by kernel_rfl) (by kernel_rfl) (alB os enc)) ?_
  intro W base args ds gs before a6a hW _ alC _ hL OT _
  have ZM:∀(j:Nat) t v,Tryz.f3.params[j]?=some t→args[j]?=some v→Value.okWide Tryz.prog W .any base t v:=a6a
  have hW':=hW
  obtain⟨p,q,hA0,hV,rfl,_,_⟩:=hW
  have hA:DataW.TrodAll enc Tryz.prog W 0 (fun _=>true) true Tryz.f3.params.toList args.toList ds p:=hA0
  rw[Tryz.params3]at hA ZM
  obtain⟨v0,vs0,d0,ds0,p0,q0,amq,rfl,rfl,h0,r0⟩:=trodAll_cons hA
  obtain⟨v1,vs1,d1,ds1,p1,q1,rfl,rfl,rfl,h1,r1⟩:=trodAll_cons r0
  obtain⟨rfl,rfl,rfl⟩:=trodAll_nil r1
  obtain rfl:args=#[v0,v1]:=by cases args;simp_all
  obtain⟨rfl,rfl⟩:=trodVars_none hV
  have k0:=h0
  have lt0:∀x∈p0,x.block<W.heap.size:=by obtain⟨n,hn⟩:=k0;exact DataW.trod_lt n _ _ _ hn
  obtain⟨a0,l0,c0,rfl⟩:=okWide_slice Tryz.underlying22 (ZM 0 22 v0 rfl rfl)
  obtain⟨fu0,hf0⟩:=h0
  obtain⟨x0,g0,e0,i0,w0,b0⟩:=(BM Tryz.underlying22 (by kernel_rfl) (by kernel_rfl) aly) _ _ _ hf0
  have e0':[Value.slice a0 l0 c0]=[Value.slice (g0 0).a x0.length (g0 0).c]:=e0
  cases e0'
  have k1:=h1
  have GK:∀x∈p1,x.block<W.heap.size:=by obtain⟨n,hn⟩:=k1;exact DataW.trod_lt n _ _ _ hn
  obtain⟨⟨c1⟩,rfl,_⟩:=okWide_struct Tryz.underlying24 (ZM 1 24 v1 rfl rfl)
  obtain⟨fu1,hf1⟩:=h1
  obtain⟨x1,g1,e1,i1,w1,b1⟩:=alA _ _ _ hf1
  have qm:c1=a1p.enc x1 g1:=e1
  subst qm
  clear hA0 a6a
  have hS:=((aA (aA (lY aU (alb hL)) (ala hL)) (fH i0)):S0 F0 _ W∧aD _=[])
  have hb:=of_decide_eq_true (alC _ rfl)
  simp only[List.append_nil,Rows.uptoBulkAll]at hb
  have b0:j0 ZK x0≤Rows.uptoBulk d0:=b0
  have b1:ZL x1≤Rows.uptoBulk d1:=b1
  have hB:j0 ZK x0+ZL x1+0≤1048576:=by omega
  refine(a7x hS (fun hS=>a4S F0 _ x0 x1 true (al7 x0 x1 w0 w1 hB) W hS)).mono fun e W' ⟨he,ZN⟩=>?_
  subst he
  exact⟨_,rfl,_,_,_,[],_,[],hW',trodAll_mk1 (shut_bool Tryz.underlying4 _),(trodAll_cons_mk (Below.trod a67 (by kernel_rfl) (of_decide_eq_true (by kernel_rfl)) k0 ZN lt0) (trodAll_cons_mk (Below.trod a67 (by kernel_rfl) (of_decide_eq_true (by kernel_rfl)) k1 ZN GK) trodAll_mk0)),rfl,ZN.frame _,fun h=>by cases h⟩

theorem over:Rows.layersHeldUptoRow.holds Tryz.pinned (Rows.OpenSpec.upto Rows.layersHeldSpec):=
  OpenClaim.holds_of_cond 3 Tryz.f3 rfl rfl rfl rfl rfl rfl rfl ⟨rfl,rfl,rfl,rfl,rfl⟩ rfl rfl rfl rfl rfl (by as_aux_lemma=>kernel_rfl) Tryz.func3 jf
    (of_decide_eq_true (by as_aux_lemma=>kernel_rfl)) (by unfold Func.isWrapper;first|(rw[if_pos (by decide+kernel)];kernel_rfl)|(rw[if_neg (by decide+kernel)];exact⟨rfl,rfl⟩))
    (fun os started H enc _ F=>by rw[OpenClaim.pre_eq_preRow];exact lifted os started H enc F)

theorem proved:Rows.LayersHeldUptoCardSaid:=
  Claim7.holds_tied_plain_at .later [] [.data,.data,.data,.sentinel,.sentinel,.listed,.data] true (true, "a1bac8f7370b0b42f417e341828902d093d82f273663d07780b28e0ef04cf48b") true over (fun _ h=>by cases h) (by as_aux_lemma=>kernel_rfl) (fun _ h=>by cases h) layersHeldUpto_row_tie rfl ⟨rfl,rfl⟩ (by as_aux_lemma=>kernel_rfl) rfl
    (fun f fn hf hfn=>by
      obtain rfl:f=3:=(Option.some.inj ((show Tryz.prog.funcNamed "vitrine/vitrinelaw28.LayersHeld" =some 3 by as_aux_lemma=>kernel_rfl).symm.trans hf)).symm
      obtain rfl:fn=Tryz.f3:=(Option.some.inj (Tryz.func3.symm.trans hfn)).symm
      refine⟨by as_aux_lemma=>kernel_rfl,fun j t ht=>?_⟩
      have A5:(Tryz.f3.params.toList.all fun t=>!Tryz.prog.wantsStandIn t)=true:=by as_aux_lemma=>kernel_rfl
      have h1:=List.all_eq_true.1 A5 t (Array.mem_toList_iff.2 (Array.mem_of_getElem? ht))
      exact(by simpa using h1:Tryz.prog.wantsStandIn t=false))
    (by as_aux_lemma=>kernel_rfl)
#print axioms proved
end Go.Proofs.YtdkddffedangnaaGreatDoor.layersHeldUpto
