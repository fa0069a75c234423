/-
  LayersHolds: whatever the input, the law returns true, and what came in reads as it did; and the card.
-/
import Derived.Test.YtnjmihahnjohoaaGreatDoorCU
import Derived.OpenShut
import Derived.ShutString
import Derived.Below
import Derived.Test.YtnjmihahnjohoaaGreatDoorQ4
import Derived.Test.YtnjmihahnjohoaaGreatDoorTie
import Derived.Test.YtnjmihahnjohoaaGreatDoorCards
import Derived.SevenTiedAt
import Derived.Test.YtnjmihahnjohoaaGreatDoorJF
namespace Go.Proofs.YtnjmihahnjohoaaGreatDoor.layersHoldsUpto
open Go.ChangeShapes Go.WideShapes Go.ChangeAt Go.RowKit Go.V
open Go.ChangeMaps (open_string shut_string)
set_option linter.unusedVariables false
theorem ago(os:Os){H:Type}(enc:TypeId×Value→H):(Rows.OpenSpec.upto Rows.layersHoldsSpec).preRow enc Tryz.prog Tryz.f3 Rows.layersHoldsUptoRow.domain false Rows.layersHoldsUptoRow.laid ((Ml os).forCall (fun _ _=>0) ⟨#[],#[.agg #[.int .u8 0,.slice none 0 0,.slice none 0 0,.int .u8 0,.string ⟨#[]⟩,.int .i64 0,.string ⟨#[]⟩,.slice none 0 0,.bool false,.slice none 0 0,.slice none 0 0,.slice none 0 0],.slice none 0 0,.agg #[.int .i64 0]],[]⟩).memory #[.agg #[.int .u8 0,.slice none 0 0,.slice none 0 0,.int .u8 0,.string ⟨#[]⟩,.int .i64 0,.string ⟨#[]⟩,.slice none 0 0,.bool false,.slice none 0 0,.slice none 0 0,.slice none 0 0],.slice none 0 0,.agg #[.int .i64 0]]:=by
  obtain⟨x,hx⟩:∃x,DataW.whole enc Tryz.prog ((Ml os).forCall (fun _ _=>0) ⟨#[],#[.agg #[.int .u8 0,.slice none 0 0,.slice none 0 0,.int .u8 0,.string ⟨#[]⟩,.int .i64 0,.string ⟨#[]⟩,.slice none 0 0,.bool false,.slice none 0 0,.slice none 0 0,.slice none 0 0],.slice none 0 0,.agg #[.int .i64 0]],[]⟩).memory Tryz.f3.params.toList (Rows.OpenSpec.upto Rows.layersHoldsSpec).vars false #[.agg #[.int .u8 0,.slice none 0 0,.slice none 0 0,.int .u8 0,.string ⟨#[]⟩,.int .i64 0,.string ⟨#[]⟩,.slice none 0 0,.bool false,.slice none 0 0,.slice none 0 0,.slice none 0 0],.slice none 0 0,.agg #[.int .i64 0]].toList 12=some x:=Option.isSome_iff_exists.1 (by kernel_rfl)
  have hs:(DataW.whole enc Tryz.prog ((Ml os).forCall (fun _ _=>0) ⟨#[],#[.agg #[.int .u8 0,.slice none 0 0,.slice none 0 0,.int .u8 0,.string ⟨#[]⟩,.int .i64 0,.string ⟨#[]⟩,.slice none 0 0,.bool false,.slice none 0 0,.slice none 0 0,.slice none 0 0],.slice none 0 0,.agg #[.int .i64 0]],[]⟩).memory Tryz.f3.params.toList (Rows.OpenSpec.upto Rows.layersHoldsSpec).vars false #[.agg #[.int .u8 0,.slice none 0 0,.slice none 0 0,.int .u8 0,.string ⟨#[]⟩,.int .i64 0,.string ⟨#[]⟩,.slice none 0 0,.bool false,.slice none 0 0,.slice none 0 0,.slice none 0 0],.slice none 0 0,.agg #[.int .i64 0]].toList 12).map (fun x=>Rows.uptoSmall H (x.1++x.2.1))=some true:=by kernel_rfl
  rw[hx]at hs
  exact OpenSpec.preRow_of_cond 12 hx (by rfl) (fun k hk=>by cases hk;exact Option.some.inj hs) (by kernel_rfl) (afZ os _)
set_option maxRecDepth 100000 in
theorem lifted(os:Os)(started:os.Started)(H:Type)(enc:TypeId×Value→H)(F:Stop.Interp):
    ReturnsInHanded {} Tryz.checked os 3 .any ((Rows.OpenSpec.upto Rows.layersHoldsSpec).preRow enc Tryz.prog Tryz.f3 Rows.layersHoldsUptoRow.domain false Rows.layersHoldsUptoRow.laid) (((Rows.OpenSpec.upto Rows.layersHoldsSpec).at F).post enc Tryz.prog Tryz.f3 false true false false):=by
  refine returnsInHanded_of_row (C:=Tryz.checked) (s:=(Rows.OpenSpec.upto Rows.layersHoldsSpec)) afY started (by kernel_rfl) Tryz.func3
    (witness_row_atRef (enc:=enc) (C:=Tryz.checked) false (Ml os) #[.agg #[.int .u8 0,.slice none 0 0,.slice none 0 0,.int .u8 0,.string ⟨#[]⟩,.int .i64 0,.string ⟨#[]⟩,.slice none 0 0,.bool false,.slice none 0 0,.slice none 0 0,.slice none 0 0],.slice none 0 0,.agg #[.int .i64 0]] rfl (by kernel_rfl) (by kernel_rfl) (by kernel_rfl) (ago os enc)) ?_
  intro W base args ds gs before a2C hW _ agp _ hL MT _
  have PV:∀(j:Nat) t v,Tryz.f3.params[j]?=some t→args[j]?=some v→Value.okWide Tryz.prog W .any base t v:=a2C
  have hW':=hW
  obtain⟨p,q,hA0,hV,rfl,_,_⟩:=hW
  have hA:DataW.TrodAll enc Tryz.prog W 0 (fun _=>true) true Tryz.f3.params.toList args.toList ds p:=hA0
  rw[Tryz.params3]at hA PV
  obtain⟨v0,vs0,d0,ds0,p0,q0,ahe,rfl,rfl,h0,r0⟩:=trodAll_cons hA
  obtain⟨v1,vs1,d1,ds1,p1,q1,rfl,rfl,rfl,h1,r1⟩:=trodAll_cons r0
  obtain⟨v2,vs2,d2,ds2,p2,q2,rfl,rfl,rfl,h2,r2⟩:=trodAll_cons r1
  obtain⟨rfl,rfl,rfl⟩:=trodAll_nil r2
  obtain rfl:args=#[v0,v1,v2]:=by cases args;simp_all
  obtain⟨rfl,rfl⟩:=trodVars_none hV
  have k0:=h0
  have lt0:∀x∈p0,x.block<W.heap.size:=by obtain⟨n,hn⟩:=k0;exact DataW.trod_lt n _ _ _ hn
  obtain⟨⟨c0⟩,rfl,_⟩:=okWide_struct Tryz.underlying33 (PV 0 33 v0 rfl rfl)
  obtain⟨fu0,hf0⟩:=h0
  obtain⟨x0,g0,e0,i0,w0,b0⟩:=a2A _ _ _ hf0
  have e0':c0=cb.aT x0 g0:=e0
  subst e0'
  have k1:=h1
  have lt1:∀x∈p1,x.block<W.heap.size:=by obtain⟨n,hn⟩:=k1;exact DataW.trod_lt n _ _ _ hn
  obtain⟨a1,l1,c1,rfl⟩:=okWide_slice Tryz.underlying34 (PV 1 34 v1 rfl rfl)
  obtain⟨fu1,hf1⟩:=h1
  obtain⟨x1,g1,e1,i1,w1,b1⟩:=(zk Tryz.underlying34 (by kernel_rfl) (by kernel_rfl) agl) _ _ _ hf1
  have My:[Value.slice a1 l1 c1]=[Value.slice (g1 0).a x1.length (g1 0).c]:=e1
  cases My
  have k2:=h2
  have lt2:∀x∈p2,x.block<W.heap.size:=by obtain⟨n,hn⟩:=k2;exact DataW.trod_lt n _ _ _ hn
  obtain⟨⟨c2⟩,rfl,_⟩:=okWide_struct Tryz.underlying36 (PV 2 36 v2 rfl rfl)
  obtain⟨fu2,hf2⟩:=h2
  obtain⟨x2,g2,e2,i2,w2,b2⟩:=agn _ _ _ hf2
  have e2':c2=Y5.aT x2 g2:=e2
  subst e2'
  clear hA0 a2C
  have hS:=((aw (aw (aw (aw (aw (aw (aw (aw aS (ag0 hL)) (tO i1)) (zq i0)) (BU i0)) (sQ i0)) (sP i0)) (sO i0)) (zp i0)):S0 F0 _ W∧aH _=[])
  have hb:=of_decide_eq_true (agp _ rfl)
  simp only[List.append_nil,Rows.uptoBulkAll]at hb
  have b0:zR x0≤Rows.uptoBulk d0:=b0
  have b1:il Wd x1≤Rows.uptoBulk d1:=b1
  have b2:We x2≤Rows.uptoBulk d2:=b2
  have hB:zR x0+il Wd x1+We x2+0≤1048576:=by omega
  refine(a3Z hS (fun hS=>a0C F0 _ x0 x1 x2 true (afX x0 x1 x2 w0 w1 w2 hB) W hS)).mono fun e W' ⟨he,PW⟩=>?_
  subst he
  exact⟨_,rfl,_,_,_,[],_,[],hW',trodAll_mk1 (shut_bool Tryz.underlying4 _),(trodAll_cons_mk (Below.trod Wb (by kernel_rfl) (of_decide_eq_true (by kernel_rfl)) k0 PW lt0) (trodAll_cons_mk (Below.trod Wb (by kernel_rfl) (of_decide_eq_true (by kernel_rfl)) k1 PW lt1) (trodAll_cons_mk (Below.trod Wb (by kernel_rfl) (of_decide_eq_true (by kernel_rfl)) k2 PW lt2) trodAll_mk0))),rfl,PW.frame _,fun h=>by cases h⟩

theorem over:Rows.layersHoldsUptoRow.holds Tryz.pinned (Rows.OpenSpec.upto Rows.layersHoldsSpec):=
  OpenClaim.holds_of_cond 3 Tryz.f3 rfl rfl rfl rfl rfl rfl rfl ⟨rfl,rfl,rfl,rfl,rfl⟩ rfl rfl rfl rfl rfl (by as_aux_lemma=>kernel_rfl) Tryz.func3 jf
    (of_decide_eq_true (by as_aux_lemma=>kernel_rfl)) (by unfold Func.isWrapper;first|(rw[if_pos (by decide+kernel)];kernel_rfl)|(rw[if_neg (by decide+kernel)];exact⟨rfl,rfl⟩))
    (fun os started H enc _ F=>by rw[OpenClaim.pre_eq_preRow];exact lifted os started H enc F)

theorem proved:Rows.LayersHoldsUptoCardSaid:=
  Claim7.holds_tied_plain_at .later [] [.data,.data,.data,.sentinel,.sentinel,.listed,.data] true (true, "1dc4f30732c733e182af7dd866a125f13575db2ed5ac337df0747e72042a5d45") true over (fun _ h=>by cases h) (by as_aux_lemma=>kernel_rfl) (fun _ h=>by cases h) layersHoldsUpto_row_tie rfl ⟨rfl,rfl⟩ (by as_aux_lemma=>kernel_rfl) rfl
    (fun f fn hf hfn=>by
      obtain rfl:f=3:=(Option.some.inj ((show Tryz.prog.funcNamed "vitrine/vitrinelaw28.LayersHolds" =some 3 by as_aux_lemma=>kernel_rfl).symm.trans hf)).symm
      obtain rfl:fn=Tryz.f3:=(Option.some.inj (Tryz.func3.symm.trans hfn)).symm
      refine⟨by as_aux_lemma=>kernel_rfl,fun j t ht=>?_⟩
      have BH:(Tryz.f3.params.toList.all fun t=>!Tryz.prog.wantsStandIn t)=true:=by as_aux_lemma=>kernel_rfl
      have h1:=List.all_eq_true.1 BH t (Array.mem_toList_iff.2 (Array.mem_of_getElem? ht))
      exact(by simpa using h1:Tryz.prog.wantsStandIn t=false))
    (by as_aux_lemma=>kernel_rfl)
#print axioms proved
end Go.Proofs.YtnjmihahnjohoaaGreatDoor.layersHoldsUpto
