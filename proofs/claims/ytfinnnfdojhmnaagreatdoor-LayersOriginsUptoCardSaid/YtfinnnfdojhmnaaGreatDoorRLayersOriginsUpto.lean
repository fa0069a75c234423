/-
  LayersOrigins: whatever the input, the law returns true, and what came in reads as it did; and the card.
-/
import Derived.Test.YtfinnnfdojhmnaaGreatDoorCU
import Derived.OpenShut
import Derived.ShutString
import Derived.Below
import Derived.Test.YtfinnnfdojhmnaaGreatDoorQ4
import Derived.Test.YtfinnnfdojhmnaaGreatDoorTie
import Derived.Test.YtfinnnfdojhmnaaGreatDoorCards
import Derived.SevenTiedAt
import Derived.Test.YtfinnnfdojhmnaaGreatDoorJF
namespace Go.Proofs.YtfinnnfdojhmnaaGreatDoor.layersOriginsUpto
open Go.ChangeShapes Go.WideShapes Go.ChangeAt Go.RowKit Go.V
open Go.ChangeMaps (open_string shut_string)
set_option linter.unusedVariables false
theorem aj7(os:Os){H:Type}(enc:TypeId×Value→H):(Rows.OpenSpec.upto Rows.layersOriginsSpec).preRow enc Tryz.prog Tryz.f3 Rows.layersOriginsUptoRow.domain false Rows.layersOriginsUptoRow.laid ((Ml os).forCall (fun _ _=>0) ⟨#[],#[.slice none 0 0,.agg #[.int .u8 0,.slice none 0 0],.agg #[.int .i64 0],.int .u8 0],[]⟩).memory #[.slice none 0 0,.agg #[.int .u8 0,.slice none 0 0],.agg #[.int .i64 0],.int .u8 0]:=by
  obtain⟨x,hx⟩:∃x,DataW.whole enc Tryz.prog ((Ml os).forCall (fun _ _=>0) ⟨#[],#[.slice none 0 0,.agg #[.int .u8 0,.slice none 0 0],.agg #[.int .i64 0],.int .u8 0],[]⟩).memory Tryz.f3.params.toList (Rows.OpenSpec.upto Rows.layersOriginsSpec).vars false #[.slice none 0 0,.agg #[.int .u8 0,.slice none 0 0],.agg #[.int .i64 0],.int .u8 0].toList 12=some x:=Option.isSome_iff_exists.1 (by kernel_rfl)
  have hs:(DataW.whole enc Tryz.prog ((Ml os).forCall (fun _ _=>0) ⟨#[],#[.slice none 0 0,.agg #[.int .u8 0,.slice none 0 0],.agg #[.int .i64 0],.int .u8 0],[]⟩).memory Tryz.f3.params.toList (Rows.OpenSpec.upto Rows.layersOriginsSpec).vars false #[.slice none 0 0,.agg #[.int .u8 0,.slice none 0 0],.agg #[.int .i64 0],.int .u8 0].toList 12).map (fun x=>Rows.uptoSmall H (x.1++x.2.1))=some true:=by kernel_rfl
  rw[hx]at hs
  exact OpenSpec.preRow_of_cond 12 hx (by rfl) (fun k hk=>by cases hk;exact Option.some.inj hs) (by kernel_rfl) (aiI os _)
set_option maxRecDepth 100000 in
theorem lifted(os:Os)(started:os.Started)(H:Type)(enc:TypeId×Value→H)(F:Stop.Interp):
    ReturnsInHanded {} Tryz.checked os 3 .any ((Rows.OpenSpec.upto Rows.layersOriginsSpec).preRow enc Tryz.prog Tryz.f3 Rows.layersOriginsUptoRow.domain false Rows.layersOriginsUptoRow.laid) (((Rows.OpenSpec.upto Rows.layersOriginsSpec).at F).post enc Tryz.prog Tryz.f3 false true false false):=by
  refine returnsInHanded_of_row (C:=Tryz.checked) (s:=(Rows.OpenSpec.upto Rows.layersOriginsSpec)) aiH started (by kernel_rfl) Tryz.func3
    (witness_row_atRef (enc:=enc) (C:=Tryz.checked) false (Ml os) #[.slice none 0 0,.agg #[.int .u8 0,.slice none 0 0],.agg #[.int .i64 0],.int .u8 0] rfl (by kernel_rfl) (by kernel_rfl) (by kernel_rfl) (aj7 os enc)) ?_
  intro W base args ds gs before a4x hW _ aj8 _ hL MZ _
  have Mo:∀(j:Nat) t v,Tryz.f3.params[j]?=some t→args[j]?=some v→Value.okWide Tryz.prog W .any base t v:=a4x
  have hW':=hW
  obtain⟨p,q,hA0,hV,rfl,_,_⟩:=hW
  have hA:DataW.TrodAll enc Tryz.prog W 0 (fun _=>true) true Tryz.f3.params.toList args.toList ds p:=hA0
  rw[Tryz.params3]at hA Mo
  obtain⟨v0,vs0,d0,ds0,p0,q0,ajU,rfl,rfl,h0,r0⟩:=trodAll_cons hA
  obtain⟨v1,vs1,d1,ds1,p1,q1,rfl,rfl,rfl,h1,r1⟩:=trodAll_cons r0
  obtain⟨v2,vs2,d2,ds2,p2,q2,rfl,rfl,rfl,h2,r2⟩:=trodAll_cons r1
  obtain⟨v3,vs3,d3,ds3,p3,q3,rfl,rfl,rfl,h3,r3⟩:=trodAll_cons r2
  obtain⟨rfl,rfl,rfl⟩:=trodAll_nil r3
  obtain rfl:args=#[v0,v1,v2,v3]:=by cases args;simp_all
  obtain⟨rfl,rfl⟩:=trodVars_none hV
  have k0:=h0
  have lt0:∀x∈p0,x.block<W.heap.size:=by obtain⟨n,hn⟩:=k0;exact DataW.trod_lt n _ _ _ hn
  obtain⟨a0,l0,c0,rfl⟩:=okWide_slice Tryz.underlying22 (Mo 0 22 v0 rfl rfl)
  obtain⟨fu0,hf0⟩:=h0
  obtain⟨x0,g0,e0,i0,w0,b0⟩:=(Bb Tryz.underlying22 (by kernel_rfl) (by kernel_rfl) a4w) _ _ _ hf0
  have e0':[Value.slice a0 l0 c0]=[Value.slice (g0 0).a x0.length (g0 0).c]:=e0
  cases e0'
  have k1:=h1
  have Iw:∀x∈p1,x.block<W.heap.size:=by obtain⟨n,hn⟩:=k1;exact DataW.trod_lt n _ _ _ hn
  obtain⟨⟨c1⟩,rfl,_⟩:=okWide_struct Tryz.underlying27 (Mo 1 27 v1 rfl rfl)
  obtain⟨fu1,hf1⟩:=h1
  obtain⟨x1,g1,e1,i1,w1,b1⟩:=a4w _ _ _ hf1
  have tH:c1=dG.enc x1 g1:=e1
  subst tH
  have k2:=h2
  have lt2:∀x∈p2,x.block<W.heap.size:=by obtain⟨n,hn⟩:=k2;exact DataW.trod_lt n _ _ _ hn
  obtain⟨⟨c2⟩,rfl,_⟩:=okWide_struct Tryz.underlying29 (Mo 2 29 v2 rfl rfl)
  obtain⟨fu2,Si⟩:=h2
  obtain⟨x2,g2,e2,i2,w2,b2⟩:=aj6 _ _ _ Si
  have Mk:c2=a0s.enc x2 g2:=e2
  subst Mk
  have k3:=h3
  have lt3:∀x∈p3,x.block<W.heap.size:=by obtain⟨n,hn⟩:=k3;exact DataW.trod_lt n _ _ _ hn
  obtain⟨x3,rfl,rfl,rfl,w3⟩:=open_int Tryz.underlying5 (Mo 3 5 v3 rfl rfl) h3
  clear hA0 a4x
  have hS:=((aK (aK (aK (lm bc (aiK hL)) (aiJ hL)) (FX i1)) (fk i0)):S0 F0 _ W∧ay _=[])
  have hb:=of_decide_eq_true (aj8 _ rfl)
  simp only[List.append_nil,Rows.uptoBulkAll]at hb
  have b0:iK Mn x0≤Rows.uptoBulk d0:=b0
  have b1:Mn x1≤Rows.uptoBulk d1:=b1
  have b2:Yj x2≤Rows.uptoBulk d2:=b2
  have b3:1≤Rows.uptoBulk (H:=H) (.lit (.int .u8 x3)):=one_le _
  have hB:iK Mn x0+Mn x1+Yj x2+1+0≤1048576:=by omega
  refine(a5U hS (fun hS=>a3a F0 _ x0 x1 x2 x3 true (aiG x0 x1 x2 x3 w0 w1 w2 w3 hB) W hS)).mono fun e W' ⟨he,Mq⟩=>?_
  subst he
  exact⟨_,rfl,_,_,_,[],_,[],hW',trodAll_mk1 (shut_bool Tryz.underlying4 _),(trodAll_cons_mk (Below.trod QQ (by kernel_rfl) (of_decide_eq_true (by kernel_rfl)) k0 Mq lt0) (trodAll_cons_mk (Below.trod QQ (by kernel_rfl) (of_decide_eq_true (by kernel_rfl)) k1 Mq Iw) (trodAll_cons_mk (Below.trod QQ (by kernel_rfl) (of_decide_eq_true (by kernel_rfl)) k2 Mq lt2) (trodAll_cons_mk (Below.trod QQ (by kernel_rfl) (of_decide_eq_true (by kernel_rfl)) k3 Mq lt3) trodAll_mk0)))),rfl,Mq.frame _,fun h=>by cases h⟩

theorem over:Rows.layersOriginsUptoRow.holds Tryz.pinned (Rows.OpenSpec.upto Rows.layersOriginsSpec):=
  OpenClaim.holds_of_cond 3 Tryz.f3 rfl rfl rfl rfl rfl rfl rfl ⟨rfl,rfl,rfl,rfl,rfl⟩ rfl rfl rfl rfl rfl (by as_aux_lemma=>kernel_rfl) Tryz.func3 jf
    (of_decide_eq_true (by as_aux_lemma=>kernel_rfl)) (by unfold Func.isWrapper;first|(rw[if_pos (by decide+kernel)];kernel_rfl)|(rw[if_neg (by decide+kernel)];exact⟨rfl,rfl⟩))
    (fun os started H enc _ F=>by rw[OpenClaim.pre_eq_preRow];exact lifted os started H enc F)

theorem proved:Rows.LayersOriginsUptoCardSaid:=
  Claim7.holds_tied_plain_at .later [] [.data,.data,.data,.sentinel,.sentinel,.listed,.data] true (true, "f7a0aff2baac24ff5e9f52c7c339273ade44f033ce6c6c57dd94a00a87ee652a") true over (fun _ h=>by cases h) (by as_aux_lemma=>kernel_rfl) (fun _ h=>by cases h) layersOriginsUpto_row_tie rfl ⟨rfl,rfl⟩ (by as_aux_lemma=>kernel_rfl) rfl
    (fun f fn hf hfn=>by
      obtain rfl:f=3:=(Option.some.inj ((show Tryz.prog.funcNamed "vitrine/vitrinelaw28.LayersOrigins" =some 3 by as_aux_lemma=>kernel_rfl).symm.trans hf)).symm
      obtain rfl:fn=Tryz.f3:=(Option.some.inj (Tryz.func3.symm.trans hfn)).symm
      refine⟨by as_aux_lemma=>kernel_rfl,fun j t ht=>?_⟩
      have za:(Tryz.f3.params.toList.all fun t=>!Tryz.prog.wantsStandIn t)=true:=by as_aux_lemma=>kernel_rfl
      have h1:=List.all_eq_true.1 za t (Array.mem_toList_iff.2 (Array.mem_of_getElem? ht))
      exact(by simpa using h1:Tryz.prog.wantsStandIn t=false))
    (by as_aux_lemma=>kernel_rfl)
#print axioms proved
end Go.Proofs.YtfinnnfdojhmnaaGreatDoor.layersOriginsUpto
