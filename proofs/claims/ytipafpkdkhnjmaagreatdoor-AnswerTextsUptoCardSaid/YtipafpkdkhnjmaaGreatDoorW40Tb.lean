/-
  What the Go functions compute, as Lean functions, and that a call returns just that. Printed by a program.
-/
import Derived.Test.YtipafpkdkhnjmaaGreatDoorRows
import Derived.Test.YtipafpkdkhnjmaaGreatDoorA
import Derived.Test.YtipafpkdkhnjmaaGreatDoorIA
import Derived.Test.YtipafpkdkhnjmaaGreatDoorRN
import Derived.Test.YtipafpkdkhnjmaaGreatDoorM
import Derived.Test.YtipafpkdkhnjmaaGreatDoorW40Ta
set_option linter.unusedVariables false
set_option maxRecDepth 20000
set_option maxHeartbeats 4000000
namespace Go.Proofs.YtipafpkdkhnjmaaGreatDoor
open Go.V Go.RowKit

theorem answer_read_w  (M : Av) (m : Nat) (s : Str) (r : TAnswer × Bool) (hm : answer_read m s = some r) (w : World) (hS : S0 M [Ent.gifc 2,Ent.gifc 3] w) : Calls Tryz.prog 44 ⟨[vS s]⟩ w (fun e w' => ∃ v,e = .returned v ∧ ∃ (g901 : Gh) (g903 : Gh),v = vW [vG [vI r.1.Err,vI r.1.Num,vL g901 r.1.Texts,vL g903 r.1.Numbers],vB r.2] ∧ SH M (fpl [Ent.gifc 2,Ent.gifc 3]) w [eI tS r.1.Texts g901,eO 3 (tI .i64) r.1.Numbers g903] w'):=by
 rw [answer_read] at hm
 have hS0 : SH M (fpl [Ent.gifc 2,Ent.gifc 3]) w [Ent.gifc 2,Ent.gifc 3] w:=hS
 generalize hX : fpl [Ent.gifc 2,Ent.gifc 3] = X at hS0 ⊢
 clear hS hX
 have hS:=hS0
 clear hS0
 refine calls_entryP Tryz.func44 rfl Tryz.ntmps44 rfl fun _ H => ?_
 apply w_seq
 apply wl_start
 have hd:=hS.hand [] [0,1] rfl rfl
 refine m_stp [2,0] [(0,[],vS s)] H rfl rfl rfl rfl (o_alloc [vI 0,vI 0,vO,vO] (z:=vG [vI 0,vI 0,vO,vO]) hd (by kernel_rfl) rfl) (fun _ => rfl) fun _ _ v H3 hq => ?_
 clear H hd
 obtain ⟨b1,rfl,hq⟩:=hq
 replace hS : SH M X w [eB b1 [vI 0,vI 0,vO,vO],Ent.gifc 2,Ent.gifc 3] _:=hS.join [] [0,1] rfl rfl hq
 clear hq
 refine wl_batch 1 2 [] [0,2] (fS [0,2] [vS s,vP b1]) [] H3 (by decide) (by kernel_rfl) trivial fun _ _ H5 hb => ?_
 replace hS:=hS.below hb
 clear H3 hb
 apply wl_end rfl
 apply w_seq
 apply wl_start
 have hd:=hS.hand [] [0,1,2] rfl rfl
 refine m_stp [4,0,2] (fS [0,2] [vS s,vP b1]) H5 rfl rfl rfl rfl (o_alloc [vI 0,vI 0,vO,vO] (z:=vG [vI 0,vI 0,vO,vO]) hd (by kernel_rfl) rfl) (fun _ => rfl) fun _ _ v H8 hq => ?_
 clear H5 hd
 obtain ⟨b6,rfl,hq⟩:=hq
 replace hS : SH M X w [eB b6 [vI 0,vI 0,vO,vO],eB b1 [vI 0,vI 0,vO,vO],Ent.gifc 2,Ent.gifc 3] _:=hS.join [] [0,1,2] rfl rfl hq
 clear hq
 apply wl_end rfl
 apply w_seq
 apply wl_start
 refine wl_batch 0 1 [] [2,4,13] (fS [2,4,13] [vP b1,vP b6,vS s]) [] H8 (by decide) (by kernel_rfl) trivial fun _ _ H10 hb => ?_
 replace hS:=hS.below hb
 clear H8 hb
 have hd:=hS.hand [] [0,1,2,3] rfl rfl
 refine m_stp [5,2,4,13] (fS [2,4,13] [vP b1,vP b6,vS s]) H10 rfl rfl rfl rfl (o_alloc [vN] (z:=vN) hd (by kernel_rfl) rfl) (fun _ => rfl) fun _ _ v H13 hq => ?_
 clear H10 hd
 obtain ⟨b11,rfl,hq⟩:=hq
 replace hS : SH M X w [eB b11 [vN],eB b6 [vI 0,vI 0,vO,vO],eB b1 [vI 0,vI 0,vO,vO],Ent.gifc 2,Ent.gifc 3] _:=hS.join [] [0,1,2,3] rfl rfl hq
 clear hq
 have hd:=hS.hand [0] [1,2,3,4] rfl rfl
 refine m_stp0 [2,4,5] (fS [2,4,5] [vP b1,vP b6,vP b11]) H13 rfl rfl rfl (o_store [vS s] H13 hd rfl rfl (by kernel_rfl) rfl rfl rfl) rfl fun _ _ H15 hq => ?_
 clear H13 hd
 obtain ⟨_,hq⟩:=hq
 replace hS : SH M X w [eB b11 [vS s],eB b6 [vI 0,vI 0,vO,vO],eB b1 [vI 0,vI 0,vO,vO],Ent.gifc 2,Ent.gifc 3] _:=hS.join [0] [1,2,3,4] rfl rfl hq
 clear hq
 apply wl_end rfl
 apply w_seq
 apply wl_start
 refine wl_batch 0 1 [] [2,4,5,14] (fS [2,4,5,14] [vP b1,vP b6,vP b11,.func (.func 58) ⟨[]⟩ ⟨[vP b11]⟩]) [] H15 (by decide) (by kernel_rfl) trivial fun _ _ H17 hb => ?_
 replace hS:=hS.below hb
 clear H15 hb
 have hd:=hS.hand [] [0,1,2,3,4] rfl rfl
 refine m_stp [6,2,4,5,14] (fS [2,4,5,14] [vP b1,vP b6,vP b11,.func (.func 58) ⟨[]⟩ ⟨[vP b11]⟩]) H17 rfl rfl rfl rfl (o_alloc [.nilFunc] (z:=.nilFunc) hd (by kernel_rfl) rfl) (fun _ => rfl) fun _ _ v H20 hq => ?_
 clear H17 hd
 obtain ⟨b18,rfl,hq⟩:=hq
 replace hS : SH M X w [eB b18 [.nilFunc],eB b11 [vS s],eB b6 [vI 0,vI 0,vO,vO],eB b1 [vI 0,vI 0,vO,vO],Ent.gifc 2,Ent.gifc 3] _:=hS.join [] [0,1,2,3,4] rfl rfl hq
 clear hq
 have hd:=hS.hand [0] [1,2,3,4,5] rfl rfl
 refine m_stp0 [2,4,5,6] (fS [2,4,5,6] [vP b1,vP b6,vP b11,vP b18]) H20 rfl rfl rfl (o_store [.func (.func 58) ⟨[]⟩ ⟨[vP b11]⟩] H20 hd rfl rfl (by kernel_rfl) rfl rfl rfl) rfl fun _ _ H22 hq => ?_
 clear H20 hd
 obtain ⟨_,hq⟩:=hq
 replace hS : SH M X w [eB b18 [.func (.func 58) ⟨[]⟩ ⟨[vP b11]⟩],eB b11 [vS s],eB b6 [vI 0,vI 0,vO,vO],eB b1 [vI 0,vI 0,vO,vO],Ent.gifc 2,Ent.gifc 3] _:=hS.join [0] [1,2,3,4,5] rfl rfl hq
 clear hq
 apply wl_end rfl
 apply w_seq
 apply wl_start
 refine wl_batch 0 1 [] [2,4,5,6,15] (fS [2,4,5,6,15] [vP b1,vP b6,vP b11,vP b18,.func (.func 60) ⟨[]⟩ ⟨[vP b11]⟩]) [] H22 (by decide) (by kernel_rfl) trivial fun _ _ H24 hb => ?_
 replace hS:=hS.below hb
 clear H22 hb
 have hd:=hS.hand [] [0,1,2,3,4,5] rfl rfl
 refine m_stp [7,2,4,5,6,15] (fS [2,4,5,6,15] [vP b1,vP b6,vP b11,vP b18,.func (.func 60) ⟨[]⟩ ⟨[vP b11]⟩]) H24 rfl rfl rfl rfl (o_alloc [.nilFunc] (z:=.nilFunc) hd (by kernel_rfl) rfl) (fun _ => rfl) fun _ _ v H27 hq => ?_
 clear H24 hd
 obtain ⟨b25,rfl,hq⟩:=hq
 replace hS : SH M X w [eB b25 [.nilFunc],eB b18 [.func (.func 58) ⟨[]⟩ ⟨[vP b11]⟩],eB b11 [vS s],eB b6 [vI 0,vI 0,vO,vO],eB b1 [vI 0,vI 0,vO,vO],Ent.gifc 2,Ent.gifc 3] _:=hS.join [] [0,1,2,3,4,5] rfl rfl hq
 clear hq
 have hd:=hS.hand [0] [1,2,3,4,5,6] rfl rfl
 refine m_stp0 [2,4,5,6,7] (fS [2,4,5,6,7] [vP b1,vP b6,vP b11,vP b18,vP b25]) H27 rfl rfl rfl (o_store [.func (.func 60) ⟨[]⟩ ⟨[vP b11]⟩] H27 hd rfl rfl (by kernel_rfl) rfl rfl rfl) rfl fun _ _ H29 hq => ?_
 clear H27 hd
 obtain ⟨_,hq⟩:=hq
 replace hS : SH M X w [eB b25 [.func (.func 60) ⟨[]⟩ ⟨[vP b11]⟩],eB b18 [.func (.func 58) ⟨[]⟩ ⟨[vP b11]⟩],eB b11 [vS s],eB b6 [vI 0,vI 0,vO,vO],eB b1 [vI 0,vI 0,vO,vO],Ent.gifc 2,Ent.gifc 3] _:=hS.join [0] [1,2,3,4,5,6] rfl rfl hq
 clear hq
 apply wl_end rfl
 refine s_reg [] [2,4,5,6,7,8] (fS [2,4,5,6,7,8] [vP b1,vP b6,vP b11,vP b18,vP b25,.func (.func 63) ⟨[]⟩ ⟨[vP b18]⟩]) [] H29 (by kernel_rfl) trivial fun _ _ H31 hb => ?_
 replace hS:=hS.below hb
 clear H29 hb
 apply w_seq
 apply wl_start
 refine wl_batch 0 1 [(.func (.func 60) ⟨[]⟩ ⟨[vP b11]⟩)] [2,4,5,6,7,8,18] (fS [2,4,5,6,7,8,18] [vP b1,vP b6,vP b11,vP b18,vP b25,.func (.func 63) ⟨[]⟩ ⟨[vP b18]⟩,.func (.func 60) ⟨[]⟩ ⟨[vP b11]⟩]) [rA b25 0 (.func (.func 60) ⟨[]⟩ ⟨[vP b11]⟩)] H31 (by decide) (by kernel_rfl) ⟨((hS.bk 0 rfl).at1 rfl),trivial⟩ fun _ _ H33 hb => ?_
 replace hS:=hS.below hb
 clear H31 hb
 obtain ⟨y34,hy34,hm⟩:=bindE hm
 have hd:=hS.hand [2,5,6] [0,1,3,4,5,6] rfl rfl
 refine m_stp [19,2,4,5,6,7,8] (fS [2,4,5,6,7,8] [vP b1,vP b6,vP b11,vP b18,vP b25,.func (.func 63) ⟨[]⟩ ⟨[vP b18]⟩]) H33 rfl rfl rfl rfl (o_callx H33 rfl rfl (answer_read_2_ok (b_u0:=b11) _ _ hy34 _ _ hd)) (fun _ => rfl) fun _ _ v H36 hq => ?_
 clear H33 hd
 obtain ⟨rfl,hq⟩:=hq
 replace hS : SH M X w [eB b11 [vS y34.2.2],eB b25 [.func (.func 60) ⟨[]⟩ ⟨[vP b11]⟩],eB b18 [.func (.func 58) ⟨[]⟩ ⟨[vP b11]⟩],eB b6 [vI 0,vI 0,vO,vO],eB b1 [vI 0,vI 0,vO,vO],Ent.gifc 2,Ent.gifc 3] _:=hS.join [2,5,6] [0,1,3,4,5,6] rfl rfl hq
 clear hq
 refine wl_batch 2 7 [] [2,4,5,6,7,8,9,10] (fS [2,4,5,6,7,8,9,10] [vP b1,vP b6,vP b11,vP b18,vP b25,.func (.func 63) ⟨[]⟩ ⟨[vP b18]⟩,vI y34.1,vB y34.2.1]) [] H36 (by decide) (by kernel_rfl) trivial fun _ _ H38 hb => ?_
 replace hS:=hS.below hb
 clear H36 hb
 apply wl_end rfl
 apply w_seq
 obtain ⟨z39,hz,hm⟩:=bindE hm
 refine w_cut (fun a' w' => Fr 66 (fS [2,4,5,6,7,8,9,28] [vP b1,vP b6,vP b11,vP b18,vP b25,.func (.func 63) ⟨[]⟩ ⟨[vP b18]⟩,vI y34.1,vB z39.1]) a' ∧ SH M X w [eB b11 [vS z39.2],eB b25 [.func (.func 60) ⟨[]⟩ ⟨[vP b11]⟩],eB b18 [.func (.func 58) ⟨[]⟩ ⟨[vP b11]⟩],eB b6 [vI 0,vI 0,vO,vO],eB b1 [vI 0,vI 0,vO,vO],Ent.gifc 2,Ent.gifc 3] w') ?_ ?_
 ·replace hm:=hz
  apply wl_start
  obtain ⟨x40,hx40,hm⟩:=letE hm
  refine wl_batch 0 3 [] [2,4,5,6,7,8,9,24] (fS [2,4,5,6,7,8,9,24] [vP b1,vP b6,vP b11,vP b18,vP b25,.func (.func 63) ⟨[]⟩ ⟨[vP b18]⟩,vI y34.1,vB x40]) [] H38 (by decide) (by subst hx40; kernel_rfl) trivial fun _ _ H42 hb => ?_
  replace hS:=hS.below hb
  clear H38 hb
  cases x40
  case true =>
   replace hm:=bT rfl hm
   refine m_skipG 24 [25,2,4,5,6,7,8,9,24] (fS [25,2,4,5,6,7,8,9,24] [undef,vP b1,vP b6,vP b11,vP b18,vP b25,.func (.func 63) ⟨[]⟩ ⟨[vP b18]⟩,vI y34.1,vT]) H42 rfl rfl rfl rfl rfl rfl fun _ H43 => ?_
   clear H42
   refine m_skipG 24 [26,2,4,5,6,7,8,9,24] (fS [26,2,4,5,6,7,8,9,24] [undef,vP b1,vP b6,vP b11,vP b18,vP b25,.func (.func 63) ⟨[]⟩ ⟨[vP b18]⟩,vI y34.1,vT]) H43 rfl rfl rfl rfl rfl rfl fun _ H44 => ?_
   clear H43
   refine m_skipG 24 [27,2,4,5,6,7,8,9,24] (fS [27,2,4,5,6,7,8,9,24] [undef,vP b1,vP b6,vP b11,vP b18,vP b25,.func (.func 63) ⟨[]⟩ ⟨[vP b18]⟩,vI y34.1,vT]) H44 rfl rfl rfl rfl rfl rfl fun _ H45 => ?_
   clear H44
   refine wl_batch 6 7 [] [2,4,5,6,7,8,9,28] (fS [2,4,5,6,7,8,9,28] [vP b1,vP b6,vP b11,vP b18,vP b25,.func (.func 63) ⟨[]⟩ ⟨[vP b18]⟩,vI y34.1,vT]) [] H45 (by decide) (by kernel_rfl) trivial fun _ _ H47 hb => ?_
   replace hS:=hS.below hb
   clear H45 hb
   apply wl_end rfl
   obtain rfl:=someE hm
   exact ⟨FrG.keep (ks:=[2,4,5,6,7,8,9,28]) H47 (by kernel_rfl),hS⟩
  replace hm:=bF rfl hm
  refine wl_batchM 3 4 [(.func (.func 58) ⟨[]⟩ ⟨[vP b11]⟩)] [(2,0),(4,0),(5,0),(6,0),(7,0),(8,0),(9,0),(24,0),(25,1)] (fS [2,4,5,6,7,8,9,24,25] [vP b1,vP b6,vP b11,vP b18,vP b25,.func (.func 63) ⟨[]⟩ ⟨[vP b18]⟩,vI y34.1,vF,.func (.func 58) ⟨[]⟩ ⟨[vP b11]⟩]) [fun wz => (false = false ∧ True → V.at1 ⟨b18,0,none⟩ (.func (.func 58) ⟨[]⟩ ⟨[vP b11]⟩) wz)] H42 (by decide) (by kernel_rfl) ⟨fun hg => (hS.bk 2 rfl).at1 rfl,trivial⟩ fun _ _ H49 hb => ?_
  replace hS:=hS.below hb
  clear H42 hb
  obtain ⟨y50,hy50,hm⟩:=bindE hm
  have hd:=hS.hand [0] [1,2,3,4,5,6] rfl rfl
  refine m_stpG 24 [26,2,4,5,6,7,8,9,24] (fS [2,4,5,6,7,8,9,24] [vP b1,vP b6,vP b11,vP b18,vP b25,.func (.func 63) ⟨[]⟩ ⟨[vP b18]⟩,vI y34.1,vF]) H49 rfl rfl rfl rfl (o_callx H49 rfl rfl (answer_read_1_ok (b_u0:=b11) _ _ _ hy50 _ _ hd)) (fun _ => rfl) fun _ _ v H52 hq => ?_
  clear H49 hd
  obtain ⟨rfl,hq⟩:=hq
  replace hS : SH M X w [eB b11 [vS y50.2],eB b25 [.func (.func 60) ⟨[]⟩ ⟨[vP b11]⟩],eB b18 [.func (.func 58) ⟨[]⟩ ⟨[vP b11]⟩],eB b6 [vI 0,vI 0,vO,vO],eB b1 [vI 0,vI 0,vO,vO],Ent.gifc 2,Ent.gifc 3] _:=hS.join [0] [1,2,3,4,5,6] rfl rfl hq
  clear hq
  refine wl_batch 5 7 [] [2,4,5,6,7,8,9,28] (fS [2,4,5,6,7,8,9,28] [vP b1,vP b6,vP b11,vP b18,vP b25,.func (.func 63) ⟨[]⟩ ⟨[vP b18]⟩,vI y34.1,vB (!y50.1)]) [] H52 (by decide) (by kernel_rfl) trivial fun _ _ H54 hb => ?_
  replace hS:=hS.below hb
  clear H52 hb
  apply wl_end rfl
  obtain rfl:=someE hm
  exact ⟨FrG.keep (ks:=[2,4,5,6,7,8,9,28]) H54 (by kernel_rfl),hS⟩
 ·rintro _ _ ⟨H,hS⟩
  refine w_if H rfl (fun hc => ?c159) (fun hc => ?_)
  case c159 =>
   replace hm:=bT hc hm
   apply w_seq
   apply wl_start
   refine wl_batch 0 1 [(vG [vI 0,vI 0,vO,vO])] [2,29] (fS [2,29] [vP b1,vG [vI 0,vI 0,vO,vO]]) [rN b6 0 [vI 0,vI 0,vO,vO]] H (by decide) (by kernel_rfl) ⟨((hS.bk 3 rfl).atD rfl),trivial⟩ fun _ _ H56 hb => ?_
   replace hS:=hS.below hb
   clear H hb
   have hd:=hS.hand [4] [0,1,2,3,5,6] rfl rfl
   refine m_stp0 [2] [(2,[],vP b1)] H56 rfl rfl rfl (o_store [vI 0,vI 0,vO,vO] H56 hd rfl rfl (by kernel_rfl) rfl rfl rfl) rfl fun _ _ H58 hq => ?_
   clear H56 hd
   obtain ⟨_,hq⟩:=hq
   replace hS : SH M X w [eB b1 [vI 0,vI 0,vO,vO],eB b11 [vS z39.2],eB b25 [.func (.func 60) ⟨[]⟩ ⟨[vP b11]⟩],eB b18 [.func (.func 58) ⟨[]⟩ ⟨[vP b11]⟩],eB b6 [vI 0,vI 0,vO,vO],Ent.gifc 2,Ent.gifc 3] _:=hS.join [4] [0,1,2,3,5,6] rfl rfl hq
   clear hq
   refine wl_batch 2 3 [] [2,3] (fS [2,3] [vP b1,vF]) [] H58 (by decide) (by kernel_rfl) trivial fun _ _ H60 hb => ?_
   replace hS:=hS.below hb
   clear H58 hb
   apply wl_end rfl
   replace hS : SH M X w [eB b1 [vI 0,vI 0,vO,vO],Ent.gifc 2,Ent.gifc 3] _:=hS.sel [0,5,6] rfl
   apply w_ret
   obtain rfl:=someE hm
   replace hS : SH M X w [eO 9 tS ([] : List Str) (.nil),eB b1 [vI 0,vI 0,vO,vO],Ent.gifc 2,Ent.gifc 3] _:=hS.addNil 9 tS
   replace hS : SH M X w [eI tS ([] : List Str) (.nil),eB b1 [vI 0,vI 0,vO,vO],Ent.gifc 2,Ent.gifc 3] _:=SH.frz1 (hS.sel [0,1,2,3] rfl)
   replace hS : SH M X w [eO 3 (tI .i64) ([] : List Int) (.nil),eI tS ([] : List Str) (.nil),eB b1 [vI 0,vI 0,vO,vO],Ent.gifc 2,Ent.gifc 3] _:=hS.addNil 3 (tI .i64)
   exact retR2 H60 rfl (oneRes_agg rfl (hS.bk 2 rfl) Tryz.underlying43 rfl (by kernel_rfl)) rfl ⟨_,rfl,Gh.nil,Gh.nil,rfl,(hS.sel [1,0] rfl)⟩
  replace hm:=bF hc hm
  apply w_skip
  apply w_seq
  apply wl_start
  refine wl_batch 0 2 [] [2,4,5,6,7,8,30,31] (fS [2,4,5,6,7,8,30,31] [vP b1,vP b6,vP b11,vP b18,vP b25,.func (.func 63) ⟨[]⟩ ⟨[vP b18]⟩,vI y34.1,vP b6]) [] H (by decide) (by kernel_rfl) trivial fun _ _ H64 hb => ?_
  replace hS:=hS.below hb
  clear H hb
  have hd:=hS.hand [3] [0,1,2,4,5,6] rfl rfl
  refine m_stp0 [2,4,5,6,7,8] (fS [2,4,5,6,7,8] [vP b1,vP b6,vP b11,vP b18,vP b25,.func (.func 63) ⟨[]⟩ ⟨[vP b18]⟩]) H64 rfl rfl rfl (o_store [vI y34.1,vI 0,vO,vO] H64 hd rfl rfl (by kernel_rfl) rfl rfl rfl) rfl fun _ _ H66 hq => ?_
  clear H64 hd
  obtain ⟨_,hq⟩:=hq
  replace hS : SH M X w [eB b6 [vI y34.1,vI 0,vO,vO],eB b11 [vS z39.2],eB b25 [.func (.func 60) ⟨[]⟩ ⟨[vP b11]⟩],eB b18 [.func (.func 58) ⟨[]⟩ ⟨[vP b11]⟩],eB b1 [vI 0,vI 0,vO,vO],Ent.gifc 2,Ent.gifc 3] _:=hS.join [3] [0,1,2,4,5,6] rfl rfl hq
  clear hq
  apply wl_end rfl
  apply w_seq
  apply w_seq
  apply wl_start
  refine wl_batch 0 1 [(.func (.func 60) ⟨[]⟩ ⟨[vP b11]⟩)] [2,4,5,6,7,8,33] (fS [2,4,5,6,7,8,33] [vP b1,vP b6,vP b11,vP b18,vP b25,.func (.func 63) ⟨[]⟩ ⟨[vP b18]⟩,.func (.func 60) ⟨[]⟩ ⟨[vP b11]⟩]) [rA b25 0 (.func (.func 60) ⟨[]⟩ ⟨[vP b11]⟩)] H66 (by decide) (by kernel_rfl) ⟨((hS.bk 2 rfl).at1 rfl),trivial⟩ fun _ _ H68 hb => ?_
  replace hS:=hS.below hb
  clear H66 hb
  obtain ⟨y69,hy69,hm⟩:=bindE hm
  have hd:=hS.hand [1,5,6] [0,2,3,4,5,6] rfl rfl
  refine m_stp [34,2,4,5,6,7,8] (fS [2,4,5,6,7,8] [vP b1,vP b6,vP b11,vP b18,vP b25,.func (.func 63) ⟨[]⟩ ⟨[vP b18]⟩]) H68 rfl rfl rfl rfl (o_callx H68 rfl rfl (answer_read_2_ok (b_u0:=b11) _ _ hy69 _ _ hd)) (fun _ => rfl) fun _ _ v H71 hq => ?_
  clear H68 hd
  obtain ⟨rfl,hq⟩:=hq
  replace hS : SH M X w [eB b11 [vS y69.2.2],eB b6 [vI y34.1,vI 0,vO,vO],eB b25 [.func (.func 60) ⟨[]⟩ ⟨[vP b11]⟩],eB b18 [.func (.func 58) ⟨[]⟩ ⟨[vP b11]⟩],eB b1 [vI 0,vI 0,vO,vO],Ent.gifc 2,Ent.gifc 3] _:=hS.join [1,5,6] [0,2,3,4,5,6] rfl rfl hq
  clear hq
  refine wl_batch 2 6 [] [2,4,5,6,7,8,35,36,37] (fS [2,4,5,6,7,8,35,36,37] [vP b1,vP b6,vP b11,vP b18,vP b25,.func (.func 63) ⟨[]⟩ ⟨[vP b18]⟩,vI y69.1,vB y69.2.1,vA b6 1]) [] H71 (by decide) (by kernel_rfl) trivial fun _ _ H73 hb => ?_
  replace hS:=hS.below hb
  clear H71 hb
  have hd:=hS.hand [1] [0,2,3,4,5,6] rfl rfl
  refine m_stp0 [2,4,5,6,7,8,36] (fS [2,4,5,6,7,8,36] [vP b1,vP b6,vP b11,vP b18,vP b25,.func (.func 63) ⟨[]⟩ ⟨[vP b18]⟩,vB y69.2.1]) H73 rfl rfl rfl (o_store [vI y34.1,vI y69.1,vO,vO] H73 hd rfl rfl (by kernel_rfl) rfl rfl rfl) rfl fun _ _ H75 hq => ?_
  clear H73 hd
  obtain ⟨_,hq⟩:=hq
  replace hS : SH M X w [eB b6 [vI y34.1,vI y69.1,vO,vO],eB b11 [vS y69.2.2],eB b25 [.func (.func 60) ⟨[]⟩ ⟨[vP b11]⟩],eB b18 [.func (.func 58) ⟨[]⟩ ⟨[vP b11]⟩],eB b1 [vI 0,vI 0,vO,vO],Ent.gifc 2,Ent.gifc 3] _:=hS.join [1] [0,2,3,4,5,6] rfl rfl hq
  clear hq
  refine wl_batch 7 8 [] [2,4,5,6,7,8,10] (fS [2,4,5,6,7,8,10] [vP b1,vP b6,vP b11,vP b18,vP b25,.func (.func 63) ⟨[]⟩ ⟨[vP b18]⟩,vB y69.2.1]) [] H75 (by decide) (by kernel_rfl) trivial fun _ _ H77 hb => ?_
  replace hS:=hS.below hb
  clear H75 hb
  apply wl_end rfl
  obtain ⟨z78,hz,hm⟩:=bindE hm
  refine w_cut (fun a' w' => Fr 66 (fS [2,4,5,6,7,8,44] [vP b1,vP b6,vP b11,vP b18,vP b25,.func (.func 63) ⟨[]⟩ ⟨[vP b18]⟩,vB z78.1]) a' ∧ SH M X w [eB b6 [vI y34.1,vI y69.1,vO,vO],eB b11 [vS z78.2],eB b25 [.func (.func 60) ⟨[]⟩ ⟨[vP b11]⟩],eB b18 [.func (.func 58) ⟨[]⟩ ⟨[vP b11]⟩],eB b1 [vI 0,vI 0,vO,vO],Ent.gifc 2,Ent.gifc 3] w') ?_ ?_
  ·replace hm:=hz
   apply wl_start
   obtain ⟨x79,hx79,hm⟩:=letE hm
   refine wl_batch 0 3 [] [2,4,5,6,7,8,40] (fS [2,4,5,6,7,8,40] [vP b1,vP b6,vP b11,vP b18,vP b25,.func (.func 63) ⟨[]⟩ ⟨[vP b18]⟩,vB x79]) [] H77 (by decide) (by subst hx79; kernel_rfl) trivial fun _ _ H81 hb => ?_
   replace hS:=hS.below hb
   clear H77 hb
   cases x79
   case true =>
    replace hm:=bT rfl hm
    refine m_skipG 40 [41,2,4,5,6,7,8,40] (fS [41,2,4,5,6,7,8,40] [undef,vP b1,vP b6,vP b11,vP b18,vP b25,.func (.func 63) ⟨[]⟩ ⟨[vP b18]⟩,vT]) H81 rfl rfl rfl rfl rfl rfl fun _ H82 => ?_
    clear H81
    refine m_skipG 40 [42,2,4,5,6,7,8,40] (fS [42,2,4,5,6,7,8,40] [undef,vP b1,vP b6,vP b11,vP b18,vP b25,.func (.func 63) ⟨[]⟩ ⟨[vP b18]⟩,vT]) H82 rfl rfl rfl rfl rfl rfl fun _ H83 => ?_
    clear H82
    refine m_skipG 40 [43,2,4,5,6,7,8,40] (fS [43,2,4,5,6,7,8,40] [undef,vP b1,vP b6,vP b11,vP b18,vP b25,.func (.func 63) ⟨[]⟩ ⟨[vP b18]⟩,vT]) H83 rfl rfl rfl rfl rfl rfl fun _ H84 => ?_
    clear H83
    refine wl_batch 6 7 [] [2,4,5,6,7,8,44] (fS [2,4,5,6,7,8,44] [vP b1,vP b6,vP b11,vP b18,vP b25,.func (.func 63) ⟨[]⟩ ⟨[vP b18]⟩,vT]) [] H84 (by decide) (by kernel_rfl) trivial fun _ _ H86 hb => ?_
    replace hS:=hS.below hb
    clear H84 hb
    apply wl_end rfl
    obtain rfl:=someE hm
    exact ⟨FrG.keep (ks:=[2,4,5,6,7,8,44]) H86 (by kernel_rfl),hS⟩
   replace hm:=bF rfl hm
   refine wl_batchM 3 4 [(.func (.func 58) ⟨[]⟩ ⟨[vP b11]⟩)] [(2,0),(4,0),(5,0),(6,0),(7,0),(8,0),(40,0),(41,1)] (fS [2,4,5,6,7,8,40,41] [vP b1,vP b6,vP b11,vP b18,vP b25,.func (.func 63) ⟨[]⟩ ⟨[vP b18]⟩,vF,.func (.func 58) ⟨[]⟩ ⟨[vP b11]⟩]) [fun wz => (false = false ∧ True → V.at1 ⟨b18,0,none⟩ (.func (.func 58) ⟨[]⟩ ⟨[vP b11]⟩) wz)] H81 (by decide) (by kernel_rfl) ⟨fun hg => (hS.bk 3 rfl).at1 rfl,trivial⟩ fun _ _ H88 hb => ?_
   replace hS:=hS.below hb
   clear H81 hb
   obtain ⟨y89,hy89,hm⟩:=bindE hm
   have hd:=hS.hand [1] [0,2,3,4,5,6] rfl rfl
   refine m_stpG 40 [42,2,4,5,6,7,8,40] (fS [2,4,5,6,7,8,40] [vP b1,vP b6,vP b11,vP b18,vP b25,.func (.func 63) ⟨[]⟩ ⟨[vP b18]⟩,vF]) H88 rfl rfl rfl rfl (o_callx H88 rfl rfl (answer_read_1_ok (b_u0:=b11) _ _ _ hy89 _ _ hd)) (fun _ => rfl) fun _ _ v H91 hq => ?_
   clear H88 hd
   obtain ⟨rfl,hq⟩:=hq
   replace hS : SH M X w [eB b11 [vS y89.2],eB b6 [vI y34.1,vI y69.1,vO,vO],eB b25 [.func (.func 60) ⟨[]⟩ ⟨[vP b11]⟩],eB b18 [.func (.func 58) ⟨[]⟩ ⟨[vP b11]⟩],eB b1 [vI 0,vI 0,vO,vO],Ent.gifc 2,Ent.gifc 3] _:=hS.join [1] [0,2,3,4,5,6] rfl rfl hq
   clear hq
   refine wl_batch 5 7 [] [2,4,5,6,7,8,44] (fS [2,4,5,6,7,8,44] [vP b1,vP b6,vP b11,vP b18,vP b25,.func (.func 63) ⟨[]⟩ ⟨[vP b18]⟩,vB (!y89.1)]) [] H91 (by decide) (by kernel_rfl) trivial fun _ _ H93 hb => ?_
   replace hS:=hS.below hb
   clear H91 hb
   apply wl_end rfl
   obtain rfl:=someE hm
   replace hS : SH M X w [eB b6 [vI y34.1,vI y69.1,vO,vO],eB b11 [vS y89.2],eB b25 [.func (.func 60) ⟨[]⟩ ⟨[vP b11]⟩],eB b18 [.func (.func 58) ⟨[]⟩ ⟨[vP b11]⟩],eB b1 [vI 0,vI 0,vO,vO],Ent.gifc 2,Ent.gifc 3] _:=hS.sel [1,0,2,3,4,5,6] rfl
   exact ⟨FrG.keep (ks:=[2,4,5,6,7,8,44]) H93 (by kernel_rfl),hS⟩
  ·rintro _ _ ⟨H,hS⟩
   refine w_if H rfl (fun hc => ?c157) (fun hc => ?_)
   case c157 =>
    replace hm:=bT hc hm
    apply w_seq
    apply wl_start
    refine wl_batch 0 1 [(vG [vI y34.1,vI y69.1,vO,vO])] [2,45] (fS [2,45] [vP b1,vG [vI y34.1,vI y69.1,vO,vO]]) [rN b6 0 [vI y34.1,vI y69.1,vO,vO]] H (by decide) (by kernel_rfl) ⟨((hS.bk 0 rfl).atD rfl),trivial⟩ fun _ _ H95 hb => ?_
    replace hS:=hS.below hb
    clear H hb
    have hd:=hS.hand [4] [0,1,2,3,5,6] rfl rfl
    refine m_stp0 [2] [(2,[],vP b1)] H95 rfl rfl rfl (o_store [vI y34.1,vI y69.1,vO,vO] H95 hd rfl rfl (by kernel_rfl) rfl rfl rfl) rfl fun _ _ H97 hq => ?_
    clear H95 hd
    obtain ⟨_,hq⟩:=hq
    replace hS : SH M X w [eB b1 [vI y34.1,vI y69.1,vO,vO],eB b6 [vI y34.1,vI y69.1,vO,vO],eB b11 [vS z78.2],eB b25 [.func (.func 60) ⟨[]⟩ ⟨[vP b11]⟩],eB b18 [.func (.func 58) ⟨[]⟩ ⟨[vP b11]⟩],Ent.gifc 2,Ent.gifc 3] _:=hS.join [4] [0,1,2,3,5,6] rfl rfl hq
    clear hq
    refine wl_batch 2 3 [] [2,3] (fS [2,3] [vP b1,vF]) [] H97 (by decide) (by kernel_rfl) trivial fun _ _ H99 hb => ?_
    replace hS:=hS.below hb
    clear H97 hb
    apply wl_end rfl
    replace hS : SH M X w [eB b1 [vI y34.1,vI y69.1,vO,vO],Ent.gifc 2,Ent.gifc 3] _:=hS.sel [0,5,6] rfl
    apply w_ret
    obtain rfl:=someE hm
    replace hS : SH M X w [eO 9 tS ([] : List Str) (.nil),eB b1 [vI y34.1,vI y69.1,vO,vO],Ent.gifc 2,Ent.gifc 3] _:=hS.addNil 9 tS
    replace hS : SH M X w [eI tS ([] : List Str) (.nil),eB b1 [vI y34.1,vI y69.1,vO,vO],Ent.gifc 2,Ent.gifc 3] _:=SH.frz1 (hS.sel [0,1,2,3] rfl)
    replace hS : SH M X w [eO 3 (tI .i64) ([] : List Int) (.nil),eI tS ([] : List Str) (.nil),eB b1 [vI y34.1,vI y69.1,vO,vO],Ent.gifc 2,Ent.gifc 3] _:=hS.addNil 3 (tI .i64)
    exact retR2 H99 rfl (oneRes_agg rfl (hS.bk 2 rfl) Tryz.underlying43 rfl (by kernel_rfl)) rfl ⟨_,rfl,Gh.nil,Gh.nil,rfl,(hS.sel [1,0] rfl)⟩
   replace hm:=bF hc hm
   apply w_skip
   apply w_seq
   apply wl_start
   refine wl_batch 0 2 [] [2,4,5,6,7,8,46,47] (fS [2,4,5,6,7,8,46,47] [vP b1,vP b6,vP b11,vP b18,vP b25,.func (.func 63) ⟨[]⟩ ⟨[vP b18]⟩,.func (.func 63) ⟨[]⟩ ⟨[vP b18]⟩,.func (.func 64) ⟨[]⟩ ⟨[vP b18,vP b11,vP b6]⟩]) [] H (by decide) (by kernel_rfl) trivial fun _ _ H103 hb => ?_
   replace hS:=hS.below hb
   clear H hb
   replace hS : SH M X w [eO 9 tS ([] : List Str) (.nil),eB b6 [vI y34.1,vI y69.1,vO,vO],eB b11 [vS z78.2],eB b25 [.func (.func 60) ⟨[]⟩ ⟨[vP b11]⟩],eB b18 [.func (.func 58) ⟨[]⟩ ⟨[vP b11]⟩],eB b1 [vI 0,vI 0,vO,vO],Ent.gifc 2,Ent.gifc 3] _:=hS.addNil 9 tS
   replace hS : SH M X w [eO 3 (tI .i64) ([] : List Int) (.nil),eO 9 tS ([] : List Str) (.nil),eB b6 [vI y34.1,vI y69.1,.slice Gh.nil.a (([] : List Str).length) Gh.nil.c,vO],eB b11 [vS z78.2],eB b25 [.func (.func 60) ⟨[]⟩ ⟨[vP b11]⟩],eB b18 [.func (.func 58) ⟨[]⟩ ⟨[vP b11]⟩],eB b1 [vI 0,vI 0,vO,vO],Ent.gifc 2,Ent.gifc 3] _:=hS.addNil 3 (tI .i64)
   replace hS : SH M X w [eI (tI .i64) ([] : List Int) (.nil),eO 9 tS ([] : List Str) (.nil),eB b6 [vI y34.1,vI y69.1,.slice Gh.nil.a (([] : List Str).length) Gh.nil.c,vO],eB b11 [vS z78.2],eB b25 [.func (.func 60) ⟨[]⟩ ⟨[vP b11]⟩],eB b18 [.func (.func 58) ⟨[]⟩ ⟨[vP b11]⟩],eB b1 [vI 0,vI 0,vO,vO],Ent.gifc 2,Ent.gifc 3] _:=SH.frz1 (hS.sel [0,1,2,3,4,5,6,7,8] rfl)
   obtain ⟨y106,hy106,hm⟩:=bindE hm
   have hd:=hS.hand [5,3,2,1,0] [0,4,6,7,8] rfl rfl
   refine m_stp [48,2,4,5,6,7,8] (fS [2,4,5,6,7,8] [vP b1,vP b6,vP b11,vP b18,vP b25,.func (.func 63) ⟨[]⟩ ⟨[vP b18]⟩]) H103 rfl rfl rfl rfl (o_callx H103 rfl rfl (answer_read_3_ok (b_one_c0:=b18) (b_one_c0_c0:=b11) (b_one_c2:=b6) (g_one_c2_Texts:=Gh.nil) (g_one_c2_Numbers:=Gh.nil) m _ _ _ _ _ _ hy106 _ _ hd)) (fun _ => rfl) fun _ _ v H110 hq => ?_
   clear H103 hd
   obtain ⟨g107,rfl,hq⟩:=hq
   replace hS : SH M X w [eB b18 [.func (.func 58) ⟨[]⟩ ⟨[vP b11]⟩],eB b11 [vS y106.2.1],eB b6 [vI y34.1,vI y69.1,vL g107 y106.2.2,vO],eO 9 tS y106.2.2 g107,eI (tI .i64) ([] : List Int) (.nil),eB b25 [.func (.func 60) ⟨[]⟩ ⟨[vP b11]⟩],eB b1 [vI 0,vI 0,vO,vO],Ent.gifc 2,Ent.gifc 3] _:=hS.join [5,3,2,1,0] [0,4,6,7,8] rfl rfl hq
   clear hq
   refine wl_batch 3 4 [] [2,4,5,6,7,8,11] (fS [2,4,5,6,7,8,11] [vP b1,vP b6,vP b11,vP b18,vP b25,.func (.func 63) ⟨[]⟩ ⟨[vP b18]⟩,vB y106.1]) [] H110 (by decide) (by kernel_rfl) trivial fun _ _ H112 hb => ?_
   replace hS:=hS.below hb
   clear H110 hb
   apply wl_end rfl
   replace hS : SH M X w [eB b18 [.func (.func 58) ⟨[]⟩ ⟨[vP b11]⟩],eB b11 [vS y106.2.1],eB b6 [vI y34.1,vI y69.1,vL g107 y106.2.2,vO],eO 9 tS y106.2.2 g107,eB b25 [.func (.func 60) ⟨[]⟩ ⟨[vP b11]⟩],eB b1 [vI 0,vI 0,vO,vO],Ent.gifc 2,Ent.gifc 3] _:=hS.sel [0,1,2,3,5,6,7,8] rfl
   apply w_seq
   obtain ⟨z113,hz,hm⟩:=bindE hm
   refine w_cut (fun a' w' => Fr 66 (fS [2,4,5,7,8,55] [vP b1,vP b6,vP b11,vP b25,.func (.func 63) ⟨[]⟩ ⟨[vP b18]⟩,vB z113.1]) a' ∧ SH M X w [eB b18 [.func (.func 58) ⟨[]⟩ ⟨[vP b11]⟩],eB b11 [vS z113.2],eB b6 [vI y34.1,vI y69.1,vL g107 y106.2.2,vO],eO 9 tS y106.2.2 g107,eB b25 [.func (.func 60) ⟨[]⟩ ⟨[vP b11]⟩],eB b1 [vI 0,vI 0,vO,vO],Ent.gifc 2,Ent.gifc 3] w') ?_ ?_
   ·replace hm:=hz
    apply wl_start
    obtain ⟨x114,hx114,hm⟩:=letE hm
    refine wl_batch 0 3 [] [2,4,5,6,7,8,51] (fS [2,4,5,6,7,8,51] [vP b1,vP b6,vP b11,vP b18,vP b25,.func (.func 63) ⟨[]⟩ ⟨[vP b18]⟩,vB x114]) [] H112 (by decide) (by subst hx114; kernel_rfl) trivial fun _ _ H116 hb => ?_
    replace hS:=hS.below hb
    clear H112 hb
    cases x114
    case true =>
     replace hm:=bT rfl hm
     refine m_skipG 51 [52,2,4,5,7,8,51] (fS [52,2,4,5,7,8,51] [undef,vP b1,vP b6,vP b11,vP b25,.func (.func 63) ⟨[]⟩ ⟨[vP b18]⟩,vT]) H116 rfl rfl rfl rfl rfl rfl fun _ H117 => ?_
     clear H116
     refine m_skipG 51 [53,2,4,5,7,8,51] (fS [53,2,4,5,7,8,51] [undef,vP b1,vP b6,vP b11,vP b25,.func (.func 63) ⟨[]⟩ ⟨[vP b18]⟩,vT]) H117 rfl rfl rfl rfl rfl rfl fun _ H118 => ?_
     clear H117
     refine m_skipG 51 [54,2,4,5,7,8,51] (fS [54,2,4,5,7,8,51] [undef,vP b1,vP b6,vP b11,vP b25,.func (.func 63) ⟨[]⟩ ⟨[vP b18]⟩,vT]) H118 rfl rfl rfl rfl rfl rfl fun _ H119 => ?_
     clear H118
     refine wl_batch 6 7 [] [2,4,5,7,8,55] (fS [2,4,5,7,8,55] [vP b1,vP b6,vP b11,vP b25,.func (.func 63) ⟨[]⟩ ⟨[vP b18]⟩,vT]) [] H119 (by decide) (by kernel_rfl) trivial fun _ _ H121 hb => ?_
     replace hS:=hS.below hb
     clear H119 hb
     apply wl_end rfl
     obtain rfl:=someE hm
     exact ⟨FrG.keep (ks:=[2,4,5,7,8,55]) H121 (by kernel_rfl),hS⟩
    replace hm:=bF rfl hm
    refine wl_batchM 3 4 [(.func (.func 58) ⟨[]⟩ ⟨[vP b11]⟩)] [(2,0),(4,0),(5,0),(7,0),(8,0),(51,0),(52,1)] (fS [2,4,5,7,8,51,52] [vP b1,vP b6,vP b11,vP b25,.func (.func 63) ⟨[]⟩ ⟨[vP b18]⟩,vF,.func (.func 58) ⟨[]⟩ ⟨[vP b11]⟩]) [fun wz => (false = false ∧ True → V.at1 ⟨b18,0,none⟩ (.func (.func 58) ⟨[]⟩ ⟨[vP b11]⟩) wz)] H116 (by decide) (by kernel_rfl) ⟨fun hg => (hS.bk 0 rfl).at1 rfl,trivial⟩ fun _ _ H123 hb => ?_
    replace hS:=hS.below hb
    clear H116 hb
    obtain ⟨y124,hy124,hm⟩:=bindE hm
    have hd:=hS.hand [1] [0,2,3,4,5,6,7] rfl rfl
    refine m_stpG 51 [53,2,4,5,7,8,51] (fS [2,4,5,7,8,51] [vP b1,vP b6,vP b11,vP b25,.func (.func 63) ⟨[]⟩ ⟨[vP b18]⟩,vF]) H123 rfl rfl rfl rfl (o_callx H123 rfl rfl (answer_read_1_ok (b_u0:=b11) _ _ _ hy124 _ _ hd)) (fun _ => rfl) fun _ _ v H126 hq => ?_
    clear H123 hd
    obtain ⟨rfl,hq⟩:=hq
    replace hS : SH M X w [eB b11 [vS y124.2],eB b18 [.func (.func 58) ⟨[]⟩ ⟨[vP b11]⟩],eB b6 [vI y34.1,vI y69.1,vL g107 y106.2.2,vO],eO 9 tS y106.2.2 g107,eB b25 [.func (.func 60) ⟨[]⟩ ⟨[vP b11]⟩],eB b1 [vI 0,vI 0,vO,vO],Ent.gifc 2,Ent.gifc 3] _:=hS.join [1] [0,2,3,4,5,6,7] rfl rfl hq
    clear hq
    refine wl_batch 5 7 [] [2,4,5,7,8,55] (fS [2,4,5,7,8,55] [vP b1,vP b6,vP b11,vP b25,.func (.func 63) ⟨[]⟩ ⟨[vP b18]⟩,vB (!y124.1)]) [] H126 (by decide) (by kernel_rfl) trivial fun _ _ H128 hb => ?_
    replace hS:=hS.below hb
    clear H126 hb
    apply wl_end rfl
    obtain rfl:=someE hm
    replace hS : SH M X w [eB b18 [.func (.func 58) ⟨[]⟩ ⟨[vP b11]⟩],eB b11 [vS y124.2],eB b6 [vI y34.1,vI y69.1,vL g107 y106.2.2,vO],eO 9 tS y106.2.2 g107,eB b25 [.func (.func 60) ⟨[]⟩ ⟨[vP b11]⟩],eB b1 [vI 0,vI 0,vO,vO],Ent.gifc 2,Ent.gifc 3] _:=hS.sel [1,0,2,3,4,5,6,7] rfl
    exact ⟨FrG.keep (ks:=[2,4,5,7,8,55]) H128 (by kernel_rfl),hS⟩
   ·rintro _ _ ⟨H,hS⟩
    refine w_if H rfl (fun hc => ?c155) (fun hc => ?_)
    case c155 =>
     replace hm:=bT hc hm
     apply w_seq
     apply wl_start
     refine wl_batch 0 1 [(vG [vI y34.1,vI y69.1,vL g107 y106.2.2,vO])] [2,56] (fS [2,56] [vP b1,vG [vI y34.1,vI y69.1,vL g107 y106.2.2,vO]]) [rN b6 0 [vI y34.1,vI y69.1,vL g107 y106.2.2,vO]] H (by decide) (by kernel_rfl) ⟨((hS.bk 2 rfl).atD rfl),trivial⟩ fun _ _ H130 hb => ?_
     replace hS:=hS.below hb
     clear H hb
     have hd:=hS.hand [5] [0,1,2,3,4,6,7] rfl rfl
     refine m_stp0 [2] [(2,[],vP b1)] H130 rfl rfl rfl (o_store [vI y34.1,vI y69.1,vL g107 y106.2.2,vO] H130 hd rfl rfl (by kernel_rfl) rfl rfl rfl) rfl fun _ _ H132 hq => ?_
     clear H130 hd
     obtain ⟨_,hq⟩:=hq
     replace hS : SH M X w [eB b1 [vI y34.1,vI y69.1,vL g107 y106.2.2,vO],eB b18 [.func (.func 58) ⟨[]⟩ ⟨[vP b11]⟩],eB b11 [vS z113.2],eB b6 [vI y34.1,vI y69.1,vL g107 y106.2.2,vO],eO 9 tS y106.2.2 g107,eB b25 [.func (.func 60) ⟨[]⟩ ⟨[vP b11]⟩],Ent.gifc 2,Ent.gifc 3] _:=hS.join [5] [0,1,2,3,4,6,7] rfl rfl hq
     clear hq
     refine wl_batch 2 3 [] [2,3] (fS [2,3] [vP b1,vF]) [] H132 (by decide) (by kernel_rfl) trivial fun _ _ H134 hb => ?_
     replace hS:=hS.below hb
     clear H132 hb
     apply wl_end rfl
     replace hS : SH M X w [eB b1 [vI y34.1,vI y69.1,vL g107 y106.2.2,vO],eO 9 tS y106.2.2 g107,Ent.gifc 2,Ent.gifc 3] _:=hS.sel [0,4,6,7] rfl
     apply w_ret
     obtain rfl:=someE hm
     replace hS : SH M X w [eI tS y106.2.2 g107,eB b1 [vI y34.1,vI y69.1,vL g107 y106.2.2,vO],Ent.gifc 2,Ent.gifc 3] _:=SH.frz1 (hS.sel [1,0,2,3] rfl)
     replace hS : SH M X w [eO 3 (tI .i64) ([] : List Int) (.nil),eI tS y106.2.2 g107,eB b1 [vI y34.1,vI y69.1,vL g107 y106.2.2,vO],Ent.gifc 2,Ent.gifc 3] _:=hS.addNil 3 (tI .i64)
     exact retR2 H134 rfl (oneRes_agg rfl (hS.bk 2 rfl) Tryz.underlying43 rfl (by kernel_rfl)) rfl ⟨_,rfl,g107,Gh.nil,rfl,(hS.sel [1,0] rfl)⟩
    replace hm:=bF hc hm
    apply w_skip
    apply w_seq
    apply wl_start
    refine wl_batch 0 2 [] [2,4,5,57,58] (fS [2,4,5,57,58] [vP b1,vP b6,vP b11,.func (.func 63) ⟨[]⟩ ⟨[vP b18]⟩,.func (.func 66) ⟨[]⟩ ⟨[vP b25,vP b6]⟩]) [] H (by decide) (by kernel_rfl) trivial fun _ _ H137 hb => ?_
    replace hS:=hS.below hb
    clear H hb
    replace hS : SH M X w [eI tS y106.2.2 g107,eB b18 [.func (.func 58) ⟨[]⟩ ⟨[vP b11]⟩],eB b11 [vS z113.2],eB b6 [vI y34.1,vI y69.1,vL g107 y106.2.2,vO],eB b25 [.func (.func 60) ⟨[]⟩ ⟨[vP b11]⟩],eB b1 [vI 0,vI 0,vO,vO],Ent.gifc 2,Ent.gifc 3] _:=SH.frz1 (hS.sel [3,0,1,2,4,5,6,7] rfl)
    replace hS : SH M X w [eO 3 (tI .i64) ([] : List Int) (.nil),eI tS y106.2.2 g107,eB b18 [.func (.func 58) ⟨[]⟩ ⟨[vP b11]⟩],eB b11 [vS z113.2],eB b6 [vI y34.1,vI y69.1,vL g107 y106.2.2,vO],eB b25 [.func (.func 60) ⟨[]⟩ ⟨[vP b11]⟩],eB b1 [vI 0,vI 0,vO,vO],Ent.gifc 2,Ent.gifc 3] _:=hS.addNil 3 (tI .i64)
    obtain ⟨y139,hy139,hm⟩:=bindE hm
    have hd:=hS.hand [5,3,4,1,0,2,7,8] [1,6,7,8] rfl rfl
    refine m_stp [59,2,4,5] (fS [2,4,5] [vP b1,vP b6,vP b11]) H137 rfl rfl rfl rfl (o_callx H137 rfl rfl (answer_read_3_2_ok (b_one_c0:=b25) (b_one_c0_c0:=b11) (b_one_c1:=b6) (g_one_c1_Texts:=g107) (g_one_c1_Numbers:=Gh.nil) (b_u0:=b18) m _ _ _ _ _ _ hy139 _ _ hd)) (fun _ => rfl) fun _ _ v H143 hq => ?_
    clear H137 hd
    obtain ⟨g140,rfl,hq⟩:=hq
    replace hS : SH M X w [eB b25 [.func (.func 60) ⟨[]⟩ ⟨[vP b11]⟩],eB b11 [vS y139.2.1],eB b6 [vI y34.1,vI y69.1,vL g107 y106.2.2,vL g140 y139.2.2],eO 3 (tI .i64) y139.2.2 g140,eB b18 [.func (.func 58) ⟨[]⟩ ⟨[vP b11]⟩],eI tS y106.2.2 g107,eB b1 [vI 0,vI 0,vO,vO],Ent.gifc 2,Ent.gifc 3] _:=hS.join [5,3,4,1,0,2,7,8] [1,6,7,8] rfl rfl hq
    clear hq
    refine wl_batch 3 4 [] [2,4,5,12] (fS [2,4,5,12] [vP b1,vP b6,vP b11,vB y139.1]) [] H143 (by decide) (by kernel_rfl) trivial fun _ _ H145 hb => ?_
    replace hS:=hS.below hb
    clear H143 hb
    apply wl_end rfl
    replace hS : SH M X w [eB b11 [vS y139.2.1],eB b6 [vI y34.1,vI y69.1,vL g107 y106.2.2,vL g140 y139.2.2],eO 3 (tI .i64) y139.2.2 g140,eI tS y106.2.2 g107,eB b1 [vI 0,vI 0,vO,vO],Ent.gifc 2,Ent.gifc 3] _:=hS.sel [1,2,3,5,6,7,8] rfl
    generalize hz_z146 : y139.1 = z146 at H145 hm
    cases z146
    case false =>
     replace hm:=bF rfl hm
     refine s_drawG (base:=(fS [2,4,5,12] [vP b1,vP b6,vP b11,vF])) (L:=[eB b11 [vS y139.2.1],eB b6 [vI y34.1,vI y69.1,vL g107 y106.2.2,vL g140 y139.2.2],eO 3 (tI .i64) y139.2.2 g140,eI tS y106.2.2 g107,eB b1 [vI 0,vI 0,vO,vO],Ent.gifc 2,Ent.gifc 3]) 8 7 (fun yg151 => [vG [vI y34.1,vI y69.1,vL g107 y106.2.2,vL g140 y139.2.2],vF,vF,undef,undef,vF,undef,vF]) (fun yg151 => [[],[],[],[],[],[],[eB b1 [vI y34.1,vI y69.1,vL g107 y106.2.2,vL g140 y139.2.2]],[]]) [[9,10,11],[],[],[],[],[],[10,11,12],[]] [[],[],[],[],[],[],[12],[]] [[0],[1],[1,2],[1,2,3],[1,2,4],[1,2,4,5],[0,6],[1,2,4,5,7]] [] (FrG.keep (ks:=[2,4,5,12]) H145 (by kernel_rfl)) (fun _ _ h => by cases h) (by kernel_rfl) hS (by kernel_rfl) rfl rfl (by kernel_rfl) (by kernel_rfl) (by kernel_rfl) ?hloc_yg151 ?hstep_yg151 fun _ _ yg151 H153 hv hS => ?hK_yg151
     case hloc_yg151 => exact ⟨(fun _ _ _ _ => ⟨rfl,rfl⟩),(fun _ _ _ _ => ⟨rfl,rfl⟩),(fun _ _ _ _ => ⟨rfl,rfl⟩),(fun _ _ _ _ => ⟨rfl,rfl⟩),(fun _ _ _ _ => ⟨rfl,rfl⟩),(fun _ _ _ _ => ⟨rfl,rfl⟩),(fun _ _ _ _ => ⟨rfl,rfl⟩),(fun _ _ _ _ => ⟨rfl,rfl⟩),trivial⟩
     case hstep_yg151 =>
      refine ⟨Or.inr ⟨trivial,?_⟩,Or.inr ⟨trivial,?_⟩,Or.inr ⟨trivial,?_⟩,Or.inl ⟨by kernel_rfl,Or.inl fun _ => rfl,fun _ => ⟨rfl,rfl⟩,rfl⟩,Or.inl ⟨by kernel_rfl,Or.inl fun _ => rfl,fun _ => ⟨rfl,rfl⟩,rfl⟩,Or.inr ⟨trivial,?_⟩,Or.inr ⟨trivial,?_⟩,Or.inr ⟨trivial,?_⟩,trivial⟩
      ·intro o ho a w yg151 M Hb hv hO hS
       obtain rfl:=someE ho
       exact Stp.mono (o_evs [(vG [vI y34.1,vI y69.1,vL g107 y106.2.2,vL g140 y139.2.2])] (vG [vI y34.1,vI y69.1,vL g107 y106.2.2,vL g140 y139.2.2]) (some (rN b6 0 [vI y34.1,vI y69.1,vL g107 y106.2.2,vL g140 y139.2.2])) [] Hb rfl (by kernel_rfl) (fun q e => by cases e; exact ((hS.bk 0 rfl).atD rfl))) fun _ _ hq => ⟨gL [],fun _ _ => hq.1,(hS.below hq.2.below).sel [0,1,2] rfl⟩
      ·intro o ho a w yg151 M Hb hv hO hS
       obtain rfl:=someE ho
       exact Stp.mono (o_evs [] (vF) none [] Hb rfl (by kernel_rfl) (fun q e => by cases e)) fun _ _ hq => ⟨gL [],fun _ _ => hq.1,(hS.below hq.2.below).sel [] rfl⟩
      ·intro o ho a w yg151 M Hb hv hO hS
       obtain rfl:=someE ho
       exact Stp.mono (o_evs [] (vF) none [] ((Hb).add (hv 1 (by decide) (by decide) 61 rfl)) rfl (by kernel_rfl) (fun q e => by cases e)) fun _ _ hq => ⟨gL [],fun _ _ => hq.1,(hS.below hq.2.below).sel [] rfl⟩
      ·intro o ho a w yg151 M Hb hv hO hS
       obtain rfl:=someE ho
       exact Stp.mono (o_evs [] (vF) none [] (((Hb).add (hv 2 (by decide) (by decide) 62 rfl)).add (hv 4 (by decide) (by decide) 64 rfl)) rfl (by kernel_rfl) (fun q e => by cases e)) fun _ _ hq => ⟨gL [],fun _ _ => hq.1,(hS.below hq.2.below).sel [] rfl⟩
      ·intro o ho a w yg151 M Hb hv hO hS0
       obtain rfl:=someE ho
       have H : Fr 66 ([(60,[],vG [vI y34.1,vI y69.1,vL g107 y106.2.2,vL g140 y139.2.2])] ++ (fS [2,4,5,12] [vP b1,vP b6,vP b11,vF])) _:=(Hb).add (hv 0 (by decide) (by decide) 60 rfl)
       obtain ⟨X,hX⟩ : ∃ X,X = fpl [eO 3 (tI .i64) y139.2.2 g140,eI tS y106.2.2 g107,eB b1 [vI 0,vI 0,vO,vO]]:=⟨_,rfl⟩
       have hS : SH M X w [eO 3 (tI .i64) y139.2.2 g140,eI tS y106.2.2 g107,eB b1 [vI 0,vI 0,vO,vO]] w:=by rw [hX]; exact hS0
       have hd:=hS.hand [2] [0,1] rfl rfl
       refine Stp.mono (o_store [vI y34.1,vI y69.1,vL g107 y106.2.2,vL g140 y139.2.2] H hd rfl rfl (by kernel_rfl) rfl rfl rfl) ?_
       rintro v w2 hq
       replace hS : SH M X w [eB b1 [vI y34.1,vI y69.1,vL g107 y106.2.2,vL g140 y139.2.2],eO 3 (tI .i64) y139.2.2 g140,eI tS y106.2.2 g107] _:=hS.join [2] [0,1] rfl rfl hq
       clear hq
       rw [hX] at hS
       exact ⟨gL [],(fun _ h => by cases h),hS.sel [0,1,2] rfl⟩
      ·intro o ho a w yg151 M Hb hv hO hS
       obtain rfl:=someE ho
       exact Stp.mono (o_evs [] (vF) none [] ((Hb).add (hv 5 (by decide) (by decide) 65 rfl)) rfl (by kernel_rfl) (fun q e => by cases e)) fun _ _ hq => ⟨gL [],fun _ _ => hq.1,(hS.below hq.2.below).sel [] rfl⟩
     have H154 : Fr 66 (fS [3,2] [vF,vP b1]) _:=(FrG.add (FrG.keep (ks:=[2]) H153 (by kernel_rfl)) (hv 7 3 rfl))
     replace hS : SH M X w [eB b1 [vI y34.1,vI y69.1,vL g107 y106.2.2,vL g140 y139.2.2],eB b11 [vS y139.2.1],eB b6 [vI y34.1,vI y69.1,vL g107 y106.2.2,vL g140 y139.2.2],eO 3 (tI .i64) y139.2.2 g140,eI tS y106.2.2 g107,Ent.gifc 2,Ent.gifc 3] _:=hS
     clear hv H153
     replace hS : SH M X w [eB b1 [vI y34.1,vI y69.1,vL g107 y106.2.2,vL g140 y139.2.2],eO 3 (tI .i64) y139.2.2 g140,eI tS y106.2.2 g107,Ent.gifc 2,Ent.gifc 3] _:=hS.sel [0,3,4,5,6] rfl
     apply w_ret
     obtain rfl:=someE hm
     exact retR2 H154 rfl (oneRes_agg rfl (hS.bk 0 rfl) Tryz.underlying43 rfl (by kernel_rfl)) rfl ⟨_,rfl,g107,g140,rfl,(hS.sel [2,1] rfl)⟩
    replace hm:=bT rfl hm
    refine s_drawS (base:=(fS [2,4,5,12] [vP b1,vP b6,vP b11,vT])) (L:=[eB b11 [vS y139.2.1],eB b6 [vI y34.1,vI y69.1,vL g107 y106.2.2,vL g140 y139.2.2],eO 3 (tI .i64) y139.2.2 g140,eI tS y106.2.2 g107,eB b1 [vI 0,vI 0,vO,vO],Ent.gifc 2,Ent.gifc 3]) 8 7 (fun yg147 => [vG [vI y34.1,vI y69.1,vL g107 y106.2.2,vL g140 y139.2.2],vT,vT,vS y139.2.1,vB (y139.2.1 == []),vB (y139.2.1 == []),undef,vB (y139.2.1 == [])]) (fun yg147 => [[],[],[],[],[],[],[eB b1 [vI y34.1,vI y69.1,vL g107 y106.2.2,vL g140 y139.2.2]],[]]) [[9,10,11],[],[],[8],[],[],[10,11,12],[]] [[],[],[],[],[],[],[12],[]] [[0],[1],[1,2],[1,2,3],[1,2,3,4],[1,2,3,4,5],[0,6],[1,2,3,4,5,7]] [] (FrG.keep (ks:=[2,4,5,12]) H145 (by kernel_rfl)) (fun _ _ h => by cases h) (by kernel_rfl) hS (by kernel_rfl) rfl rfl (by kernel_rfl) (by kernel_rfl) (by kernel_rfl) ⟨trivial,trivial,trivial,⟨by kernel_rfl,fun _ => rfl⟩,⟨by kernel_rfl,fun _ => rfl⟩,trivial,trivial,trivial,trivial⟩ ?hloc_yg147 ?hstep_yg147 fun _ _ yg147 H149 hv hS => ?hK_yg147
    case hloc_yg147 => exact ⟨(fun _ _ _ _ => ⟨rfl,rfl⟩),(fun _ _ _ _ => ⟨rfl,rfl⟩),(fun _ _ _ _ => ⟨rfl,rfl⟩),(fun _ _ _ _ => ⟨rfl,rfl⟩),(fun _ _ _ _ => ⟨rfl,rfl⟩),(fun _ _ _ _ => ⟨rfl,rfl⟩),(fun _ _ _ _ => ⟨rfl,rfl⟩),(fun _ _ _ _ => ⟨rfl,rfl⟩),trivial⟩
    case hstep_yg147 =>
     refine ⟨?_,?_,?_,?_,?_,?_,?_,?_,trivial⟩
     ·intro o ho a w yg147 M Hb hv hO hS
      obtain rfl:=someE ho
      exact Stp.mono (o_evs [(vG [vI y34.1,vI y69.1,vL g107 y106.2.2,vL g140 y139.2.2])] (vG [vI y34.1,vI y69.1,vL g107 y106.2.2,vL g140 y139.2.2]) (some (rN b6 0 [vI y34.1,vI y69.1,vL g107 y106.2.2,vL g140 y139.2.2])) [] Hb rfl (by kernel_rfl) (fun q e => by cases e; exact ((hS.bk 0 rfl).atD rfl))) fun _ _ hq => ⟨gL [],fun _ _ => hq.1,(hS.below hq.2.below).sel [0,1,2] rfl⟩
     ·intro o ho a w yg147 M Hb hv hO hS
      obtain rfl:=someE ho
      exact Stp.mono (o_evs [] (vT) none [] Hb rfl (by kernel_rfl) (fun q e => by cases e)) fun _ _ hq => ⟨gL [],fun _ _ => hq.1,(hS.below hq.2.below).sel [] rfl⟩
     ·intro o ho a w yg147 M Hb hv hO hS
      obtain rfl:=someE ho
      exact Stp.mono (o_evs [] (vT) none [] ((Hb).add (hv 1 (by decide) (by decide) 61 rfl)) rfl (by kernel_rfl) (fun q e => by cases e)) fun _ _ hq => ⟨gL [],fun _ _ => hq.1,(hS.below hq.2.below).sel [] rfl⟩
     ·intro o ho a w yg147 M Hb hv hO hS
      obtain rfl:=someE ho
      exact Stp.mono (o_evs [(vS y139.2.1)] (vS y139.2.1) (some (rA b11 0 (vS y139.2.1))) [] Hb rfl (by kernel_rfl) (fun q e => by cases e; exact ((hS.bk 0 rfl).at1 rfl))) fun _ _ hq => ⟨gL [],fun _ _ => hq.1,(hS.below hq.2.below).sel [0] rfl⟩
     ·intro o ho a w yg147 M Hb hv hO hS
      obtain rfl:=someE ho
      exact Stp.mono (o_evs [] (vB (y139.2.1 == [])) none [] ((Hb).add (hv 3 (by decide) (by decide) 63 rfl)) rfl (by kernel_rfl) (fun q e => by cases e)) fun _ _ hq => ⟨gL [],fun _ _ => hq.1,(hS.below hq.2.below).sel [] rfl⟩
     ·intro o ho a w yg147 M Hb hv hO hS
      obtain rfl:=someE ho
      exact Stp.mono (o_evs [] (vB (y139.2.1 == [])) none [] (((Hb).add (hv 2 (by decide) (by decide) 62 rfl)).add (hv 4 (by decide) (by decide) 64 rfl)) rfl (by kernel_rfl) (fun q e => by cases e)) fun _ _ hq => ⟨gL [],fun _ _ => hq.1,(hS.below hq.2.below).sel [] rfl⟩
     ·intro o ho a w yg147 M Hb hv hO hS0
      obtain rfl:=someE ho
      have H : Fr 66 ([(60,[],vG [vI y34.1,vI y69.1,vL g107 y106.2.2,vL g140 y139.2.2])] ++ (fS [2,4,5,12] [vP b1,vP b6,vP b11,vT])) _:=(Hb).add (hv 0 (by decide) (by decide) 60 rfl)
      obtain ⟨X,hX⟩ : ∃ X,X = fpl [eO 3 (tI .i64) y139.2.2 g140,eI tS y106.2.2 g107,eB b1 [vI 0,vI 0,vO,vO]]:=⟨_,rfl⟩
      have hS : SH M X w [eO 3 (tI .i64) y139.2.2 g140,eI tS y106.2.2 g107,eB b1 [vI 0,vI 0,vO,vO]] w:=by rw [hX]; exact hS0
      have hd:=hS.hand [2] [0,1] rfl rfl
      refine Stp.mono (o_store [vI y34.1,vI y69.1,vL g107 y106.2.2,vL g140 y139.2.2] H hd rfl rfl (by kernel_rfl) rfl rfl rfl) ?_
      rintro v w2 hq
      replace hS : SH M X w [eB b1 [vI y34.1,vI y69.1,vL g107 y106.2.2,vL g140 y139.2.2],eO 3 (tI .i64) y139.2.2 g140,eI tS y106.2.2 g107] _:=hS.join [2] [0,1] rfl rfl hq
      clear hq
      rw [hX] at hS
      exact ⟨gL [],(fun _ h => by cases h),hS.sel [0,1,2] rfl⟩
     ·intro o ho a w yg147 M Hb hv hO hS
      obtain rfl:=someE ho
      exact Stp.mono (o_evs [] (vB (y139.2.1 == [])) none [] ((Hb).add (hv 5 (by decide) (by decide) 65 rfl)) rfl (by kernel_rfl) (fun q e => by cases e)) fun _ _ hq => ⟨gL [],fun _ _ => hq.1,(hS.below hq.2.below).sel [] rfl⟩
    have H150 : Fr 66 (fS [3,2] [vB (y139.2.1 == []),vP b1]) _:=(FrG.add (FrG.keep (ks:=[2]) H149 (by kernel_rfl)) (hv 7 3 rfl))
    replace hS : SH M X w [eB b1 [vI y34.1,vI y69.1,vL g107 y106.2.2,vL g140 y139.2.2],eB b11 [vS y139.2.1],eB b6 [vI y34.1,vI y69.1,vL g107 y106.2.2,vL g140 y139.2.2],eO 3 (tI .i64) y139.2.2 g140,eI tS y106.2.2 g107,Ent.gifc 2,Ent.gifc 3] _:=hS
    clear hv H149
    replace hS : SH M X w [eB b1 [vI y34.1,vI y69.1,vL g107 y106.2.2,vL g140 y139.2.2],eO 3 (tI .i64) y139.2.2 g140,eI tS y106.2.2 g107,Ent.gifc 2,Ent.gifc 3] _:=hS.sel [0,3,4,5,6] rfl
    apply w_ret
    obtain rfl:=someE hm
    exact retR2 H150 rfl (oneRes_agg rfl (hS.bk 0 rfl) Tryz.underlying43 rfl (by kernel_rfl)) rfl ⟨_,rfl,g107,g140,rfl,(hS.sel [2,1] rfl)⟩
theorem answer_read_ok  (m : Nat) (s : Str) (r : TAnswer × Bool) (hm : answer_read m s = some r) (M : Av) (w : World) (hS : S0 M [Ent.gifc 2,Ent.gifc 3] w) : DoesX Tryz.prog 44 ⟨[vS s]⟩ w (fun v w' => ∃ (g901 : Gh) (g903 : Gh),v = vW [vG [vI r.1.Err,vI r.1.Num,vL g901 r.1.Texts,vL g903 r.1.Numbers],vB r.2] ∧ SH M (fpl [Ent.gifc 2,Ent.gifc 3]) w [eI tS r.1.Texts g901,eO 3 (tI .i64) r.1.Numbers g903] w'):=⟨Tryz.call44 _,answer_read_w M m   s r hm w hS⟩

theorem answer_ReadLine_w  (M : Av) (m : Nat) (s : Str) (r : TAnswer × Int) (hm : answer_ReadLine m s = some r) (w : World) (hS : S0 M [Ent.gifc 2,Ent.gifc 3,Ent.tab 1 (Lib.pow10Tab.map fun z => Value.int .u64 z)] w) : Calls Tryz.prog 22 ⟨[vS s]⟩ w (fun e w' => ∃ v,e = .returned v ∧ ∃ (g901 : Gh) (g903 : Gh),v = vW [vG [vI r.1.Err,vI r.1.Num,vL g901 r.1.Texts,vL g903 r.1.Numbers],vI r.2] ∧ SH M (fpl [Ent.gifc 2,Ent.gifc 3,Ent.tab 1 (Lib.pow10Tab.map fun z => Value.int .u64 z)]) w [eI tS r.1.Texts g901,eO 3 (tI .i64) r.1.Numbers g903] w'):=by
 rw [answer_ReadLine] at hm
 have hS0 : SH M (fpl [Ent.gifc 2,Ent.gifc 3,Ent.tab 1 (Lib.pow10Tab.map fun z => Value.int .u64 z)]) w [Ent.gifc 2,Ent.gifc 3,Ent.tab 1 (Lib.pow10Tab.map fun z => Value.int .u64 z)] w:=hS
 generalize hX : fpl [Ent.gifc 2,Ent.gifc 3,Ent.tab 1 (Lib.pow10Tab.map fun z => Value.int .u64 z)] = X at hS0 ⊢
 clear hS hX
 have hS:=hS0
 clear hS0
 refine calls_entryP Tryz.func22 rfl Tryz.ntmps22 rfl fun _ H => ?_
 apply w_seq
 apply wl_start
 have hd:=hS.hand [] [0,1,2] rfl rfl
 refine m_stp [2,0] [(0,[],vS s)] H rfl rfl rfl rfl (o_alloc [vI 0,vI 0,vO,vO] (z:=vG [vI 0,vI 0,vO,vO]) hd (by kernel_rfl) rfl) (fun _ => rfl) fun _ _ v H3 hq => ?_
 clear H hd
 obtain ⟨b1,rfl,hq⟩:=hq
 replace hS : SH M X w [eB b1 [vI 0,vI 0,vO,vO],Ent.gifc 2,Ent.gifc 3,Ent.tab 1 (Lib.pow10Tab.map fun z => Value.int .u64 z)] _:=hS.join [] [0,1,2] rfl rfl hq
 clear hq
 refine wl_batch 1 2 [] [0,2] (fS [0,2] [vS s,vP b1]) [] H3 (by decide) (by kernel_rfl) trivial fun _ _ H5 hb => ?_
 replace hS:=hS.below hb
 clear H3 hb
 apply wl_end rfl
 apply w_seq
 refine s_reg [] [0,2,10] (fS [0,2,10] [vS s,vP b1,vB (decide (90000 < (ln s)))]) [] H5 (by kernel_rfl) trivial fun _ _ H7 hb => ?_
 replace hS:=hS.below hb
 clear H5 hb
 refine w_if H7 rfl (fun hc => ?c65) (fun hc => ?_)
 case c65 =>
  replace hm:=bT hc hm
  apply w_seq
  apply wl_start
  refine wl_batch 0 1 [] [2,11] (fS [2,11] [vP b1,vG [vI 0,vI 0,vO,vO]]) [] H7 (by decide) (by kernel_rfl) trivial fun _ _ H9 hb => ?_
  replace hS:=hS.below hb
  clear H7 hb
  have hd:=hS.hand [0] [1,2,3] rfl rfl
  refine m_stp0 [2] [(2,[],vP b1)] H9 rfl rfl rfl (o_store [vI 0,vI 0,vO,vO] H9 hd rfl rfl (by kernel_rfl) rfl rfl rfl) rfl fun _ _ H11 hq => ?_
  clear H9 hd
  obtain ⟨_,hq⟩:=hq
  replace hS : SH M X w [eB b1 [vI 0,vI 0,vO,vO],Ent.gifc 2,Ent.gifc 3,Ent.tab 1 (Lib.pow10Tab.map fun z => Value.int .u64 z)] _:=hS.join [0] [1,2,3] rfl rfl hq
  clear hq
  refine wl_batch 2 3 [] [2,3] (fS [2,3] [vP b1,vI 28]) [] H11 (by decide) (by kernel_rfl) trivial fun _ _ H13 hb => ?_
  replace hS:=hS.below hb
  clear H11 hb
  apply wl_end rfl
  apply w_ret
  obtain rfl:=someE hm
  replace hS : SH M X w [eO 9 tS ([] : List Str) (.nil),eB b1 [vI 0,vI 0,vO,vO],Ent.gifc 2,Ent.gifc 3,Ent.tab 1 (Lib.pow10Tab.map fun z => Value.int .u64 z)] _:=hS.addNil 9 tS
  replace hS : SH M X w [eI tS ([] : List Str) (.nil),eB b1 [vI 0,vI 0,vO,vO],Ent.gifc 2,Ent.gifc 3,Ent.tab 1 (Lib.pow10Tab.map fun z => Value.int .u64 z)] _:=SH.frz1 (hS.sel [0,1,2,3,4] rfl)
  replace hS : SH M X w [eO 3 (tI .i64) ([] : List Int) (.nil),eI tS ([] : List Str) (.nil),eB b1 [vI 0,vI 0,vO,vO],Ent.gifc 2,Ent.gifc 3,Ent.tab 1 (Lib.pow10Tab.map fun z => Value.int .u64 z)] _:=hS.addNil 3 (tI .i64)
  exact retR2 H13 rfl (oneRes_agg rfl (hS.bk 2 rfl) Tryz.underlying43 rfl (by kernel_rfl)) rfl ⟨_,rfl,Gh.nil,Gh.nil,rfl,(hS.sel [1,0] rfl)⟩
 replace hm:=bF hc hm
 apply w_skip
 apply w_seq
 apply wl_start
 refine wl_batch 0 1 [] [0,2,13] (fS [0,2,13] [vS s,vP b1,vS s]) [] H7 (by decide) (by kernel_rfl) trivial fun _ _ H17 hb => ?_
 replace hS:=hS.below hb
 clear H7 hb
 obtain ⟨y18,hy18,hm⟩:=bindE hm
 have hd:=hS.hand [1,2] [0,1,2,3] rfl rfl
 refine m_stp [14,0,2] (fS [0,2] [vS s,vP b1]) H17 rfl rfl rfl rfl (o_callx H17 rfl rfl (answer_read_ok m _ _ hy18 _ _ hd)) (fun _ => rfl) fun _ _ v H24 hq => ?_
 clear H17 hd
 obtain ⟨g19,g21,rfl,hq⟩:=hq
 replace hS : SH M X w [eI tS y18.1.Texts g19,eO 3 (tI .i64) y18.1.Numbers g21,eB b1 [vI 0,vI 0,vO,vO],Ent.gifc 2,Ent.gifc 3,Ent.tab 1 (Lib.pow10Tab.map fun z => Value.int .u64 z)] _:=hS.join [1,2] [0,1,2,3] rfl rfl hq
 clear hq
 refine wl_batch 2 5 [] [0,2,15,16] (fS [0,2,15,16] [vS s,vP b1,vG [vI y18.1.Err,vI y18.1.Num,vL g19 y18.1.Texts,vL g21 y18.1.Numbers],vB y18.2]) [] H24 (by decide) (by kernel_rfl) trivial fun _ _ H26 hb => ?_
 replace hS:=hS.below hb
 clear H24 hb
 have hd:=hS.hand [] [0,1,2,3,4,5] rfl rfl
 refine m_stp [4,0,2,15,16] (fS [0,2,15,16] [vS s,vP b1,vG [vI y18.1.Err,vI y18.1.Num,vL g19 y18.1.Texts,vL g21 y18.1.Numbers],vB y18.2]) H26 rfl rfl rfl rfl (o_alloc [vI 0,vI 0,vO,vO] (z:=vG [vI 0,vI 0,vO,vO]) hd (by kernel_rfl) rfl) (fun _ => rfl) fun _ _ v H29 hq => ?_
 clear H26 hd
 obtain ⟨b27,rfl,hq⟩:=hq
 replace hS : SH M X w [eB b27 [vI 0,vI 0,vO,vO],eI tS y18.1.Texts g19,eO 3 (tI .i64) y18.1.Numbers g21,eB b1 [vI 0,vI 0,vO,vO],Ent.gifc 2,Ent.gifc 3,Ent.tab 1 (Lib.pow10Tab.map fun z => Value.int .u64 z)] _:=hS.join [] [0,1,2,3,4,5] rfl rfl hq
 clear hq
 have hd:=hS.hand [0] [1,2,3,4,5,6] rfl rfl
 refine m_stp0 [0,2,4,16] (fS [0,2,4,16] [vS s,vP b1,vP b27,vB y18.2]) H29 rfl rfl rfl (o_store [vI y18.1.Err,vI y18.1.Num,vL g19 y18.1.Texts,vL g21 y18.1.Numbers] H29 hd rfl rfl (by kernel_rfl) rfl rfl rfl) rfl fun _ _ H31 hq => ?_
 clear H29 hd
 obtain ⟨_,hq⟩:=hq
 replace hS : SH M X w [eB b27 [vI y18.1.Err,vI y18.1.Num,vL g19 y18.1.Texts,vL g21 y18.1.Numbers],eI tS y18.1.Texts g19,eO 3 (tI .i64) y18.1.Numbers g21,eB b1 [vI 0,vI 0,vO,vO],Ent.gifc 2,Ent.gifc 3,Ent.tab 1 (Lib.pow10Tab.map fun z => Value.int .u64 z)] _:=hS.join [0] [1,2,3,4,5,6] rfl rfl hq
 clear hq
 refine wl_batch 7 8 [] [0,2,4,5] (fS [0,2,4,5] [vS s,vP b1,vP b27,vB y18.2]) [] H31 (by decide) (by kernel_rfl) trivial fun _ _ H33 hb => ?_
 replace hS:=hS.below hb
 clear H31 hb
 apply wl_end rfl
 apply w_seq
 refine s_reg [] [0,2,4,18] (fS [0,2,4,18] [vS s,vP b1,vP b27,vB (!y18.2)]) [] H33 (by kernel_rfl) trivial fun _ _ H35 hb => ?_
 replace hS:=hS.below hb
 clear H33 hb
 refine w_if H35 rfl (fun hc => ?c64) (fun hc => ?_)
 case c64 =>
  replace hm:=bT hc hm
  apply w_seq
  apply wl_start
  refine wl_batch 0 1 [] [2,19] (fS [2,19] [vP b1,vG [vI 0,vI 0,vO,vO]]) [] H35 (by decide) (by kernel_rfl) trivial fun _ _ H37 hb => ?_
  replace hS:=hS.below hb
  clear H35 hb
  have hd:=hS.hand [3] [0,1,2,4,5,6] rfl rfl
  refine m_stp0 [2] [(2,[],vP b1)] H37 rfl rfl rfl (o_store [vI 0,vI 0,vO,vO] H37 hd rfl rfl (by kernel_rfl) rfl rfl rfl) rfl fun _ _ H39 hq => ?_
  clear H37 hd
  obtain ⟨_,hq⟩:=hq
  replace hS : SH M X w [eB b1 [vI 0,vI 0,vO,vO],eB b27 [vI y18.1.Err,vI y18.1.Num,vL g19 y18.1.Texts,vL g21 y18.1.Numbers],eI tS y18.1.Texts g19,eO 3 (tI .i64) y18.1.Numbers g21,Ent.gifc 2,Ent.gifc 3,Ent.tab 1 (Lib.pow10Tab.map fun z => Value.int .u64 z)] _:=hS.join [3] [0,1,2,4,5,6] rfl rfl hq
  clear hq
  refine wl_batch 2 3 [] [2,3] (fS [2,3] [vP b1,vI 12]) [] H39 (by decide) (by kernel_rfl) trivial fun _ _ H41 hb => ?_
  replace hS:=hS.below hb
  clear H39 hb
  apply wl_end rfl
  replace hS : SH M X w [eB b1 [vI 0,vI 0,vO,vO],Ent.gifc 2,Ent.gifc 3,Ent.tab 1 (Lib.pow10Tab.map fun z => Value.int .u64 z)] _:=hS.sel [0,4,5,6] rfl
  apply w_ret
  obtain rfl:=someE hm
  replace hS : SH M X w [eO 9 tS ([] : List Str) (.nil),eB b1 [vI 0,vI 0,vO,vO],Ent.gifc 2,Ent.gifc 3,Ent.tab 1 (Lib.pow10Tab.map fun z => Value.int .u64 z)] _:=hS.addNil 9 tS
  replace hS : SH M X w [eI tS ([] : List Str) (.nil),eB b1 [vI 0,vI 0,vO,vO],Ent.gifc 2,Ent.gifc 3,Ent.tab 1 (Lib.pow10Tab.map fun z => Value.int .u64 z)] _:=SH.frz1 (hS.sel [0,1,2,3,4] rfl)
  replace hS : SH M X w [eO 3 (tI .i64) ([] : List Int) (.nil),eI tS ([] : List Str) (.nil),eB b1 [vI 0,vI 0,vO,vO],Ent.gifc 2,Ent.gifc 3,Ent.tab 1 (Lib.pow10Tab.map fun z => Value.int .u64 z)] _:=hS.addNil 3 (tI .i64)
  exact retR2 H41 rfl (oneRes_agg rfl (hS.bk 2 rfl) Tryz.underlying43 rfl (by kernel_rfl)) rfl ⟨_,rfl,Gh.nil,Gh.nil,rfl,(hS.sel [1,0] rfl)⟩
 replace hm:=bF hc hm
 apply w_skip
 apply w_seq
 obtain ⟨y44,hy44,hm⟩:=bindE hm
 refine s_reg [(vG [vI y18.1.Err,vI y18.1.Num,vL g19 y18.1.Texts,vL g21 y18.1.Numbers]),(vW [vS y44.1,vI y44.2])] [0,2,4,6,7] (fS [0,2,4,6,7] [vS s,vP b1,vP b27,vS y44.1,vI y44.2]) [rN b27 0 [vI y18.1.Err,vI y18.1.Num,vL g19 y18.1.Texts,vL g21 y18.1.Numbers],rB 14 [vG [vI y18.1.Err,vI y18.1.Num,vL g19 y18.1.Texts,vL g21 y18.1.Numbers]] (vW [vS y44.1,vI y44.2])] H35 (by kernel_rfl) ⟨((hS.bk 0 rfl).atD rfl),(answer_Line_ok (g_a__0:=g19) (g_a__1:=g21) m _ _ hy44 _ (s0im (s0im (s0tab s0nil (hS.at 6 rfl)) (hS.osl 2 rfl)) (hS.im 1 rfl))),trivial⟩ fun _ _ H46 hb => ?_
 replace hS:=hS.below hb
 clear H35 hb
 refine s_reg [] [2,4,31] (fS [2,4,31] [vP b1,vP b27,vB (cond (y44.2 != 0) true (!(y44.1 == s)))]) [] H46 (by kernel_rfl) trivial fun _ _ H48 hb => ?_
 replace hS:=hS.below hb
 clear H46 hb
 refine w_if H48 rfl (fun hc => ?_) (fun hc => ?c63)
 case c63 =>
  replace hm:=bF hc hm
  apply w_skip
  apply w_seq
  apply wl_start
  refine wl_batch 0 1 [(vG [vI y18.1.Err,vI y18.1.Num,vL g19 y18.1.Texts,vL g21 y18.1.Numbers])] [2,33] (fS [2,33] [vP b1,vG [vI y18.1.Err,vI y18.1.Num,vL g19 y18.1.Texts,vL g21 y18.1.Numbers]]) [rN b27 0 [vI y18.1.Err,vI y18.1.Num,vL g19 y18.1.Texts,vL g21 y18.1.Numbers]] H48 (by decide) (by kernel_rfl) ⟨((hS.bk 0 rfl).atD rfl),trivial⟩ fun _ _ H58 hb => ?_
  replace hS:=hS.below hb
  clear H48 hb
  have hd:=hS.hand [3] [0,1,2,4,5,6] rfl rfl
  refine m_stp0 [2] [(2,[],vP b1)] H58 rfl rfl rfl (o_store [vI y18.1.Err,vI y18.1.Num,vL g19 y18.1.Texts,vL g21 y18.1.Numbers] H58 hd rfl rfl (by kernel_rfl) rfl rfl rfl) rfl fun _ _ H60 hq => ?_
  clear H58 hd
  obtain ⟨_,hq⟩:=hq
  replace hS : SH M X w [eB b1 [vI y18.1.Err,vI y18.1.Num,vL g19 y18.1.Texts,vL g21 y18.1.Numbers],eB b27 [vI y18.1.Err,vI y18.1.Num,vL g19 y18.1.Texts,vL g21 y18.1.Numbers],eI tS y18.1.Texts g19,eO 3 (tI .i64) y18.1.Numbers g21,Ent.gifc 2,Ent.gifc 3,Ent.tab 1 (Lib.pow10Tab.map fun z => Value.int .u64 z)] _:=hS.join [3] [0,1,2,4,5,6] rfl rfl hq
  clear hq
  refine wl_batch 2 3 [] [2,3] (fS [2,3] [vP b1,vI 0]) [] H60 (by decide) (by kernel_rfl) trivial fun _ _ H62 hb => ?_
  replace hS:=hS.below hb
  clear H60 hb
  apply wl_end rfl
  replace hS : SH M X w [eB b1 [vI y18.1.Err,vI y18.1.Num,vL g19 y18.1.Texts,vL g21 y18.1.Numbers],eI tS y18.1.Texts g19,eO 3 (tI .i64) y18.1.Numbers g21,Ent.gifc 2,Ent.gifc 3,Ent.tab 1 (Lib.pow10Tab.map fun z => Value.int .u64 z)] _:=hS.sel [0,2,3,4,5,6] rfl
  apply w_ret
  obtain rfl:=someE hm
  exact retR2 H62 rfl (oneRes_agg rfl (hS.bk 0 rfl) Tryz.underlying43 rfl (by kernel_rfl)) rfl ⟨_,rfl,g19,g21,rfl,(hS.sel [1,2] rfl)⟩
 replace hm:=bT hc hm
 apply w_seq
 apply wl_start
 refine wl_batch 0 1 [] [2,32] (fS [2,32] [vP b1,vG [vI 0,vI 0,vO,vO]]) [] H48 (by decide) (by kernel_rfl) trivial fun _ _ H50 hb => ?_
 replace hS:=hS.below hb
 clear H48 hb
 have hd:=hS.hand [3] [0,1,2,4,5,6] rfl rfl
 refine m_stp0 [2] [(2,[],vP b1)] H50 rfl rfl rfl (o_store [vI 0,vI 0,vO,vO] H50 hd rfl rfl (by kernel_rfl) rfl rfl rfl) rfl fun _ _ H52 hq => ?_
 clear H50 hd
 obtain ⟨_,hq⟩:=hq
 replace hS : SH M X w [eB b1 [vI 0,vI 0,vO,vO],eB b27 [vI y18.1.Err,vI y18.1.Num,vL g19 y18.1.Texts,vL g21 y18.1.Numbers],eI tS y18.1.Texts g19,eO 3 (tI .i64) y18.1.Numbers g21,Ent.gifc 2,Ent.gifc 3,Ent.tab 1 (Lib.pow10Tab.map fun z => Value.int .u64 z)] _:=hS.join [3] [0,1,2,4,5,6] rfl rfl hq
 clear hq
 refine wl_batch 2 3 [] [2,3] (fS [2,3] [vP b1,vI 12]) [] H52 (by decide) (by kernel_rfl) trivial fun _ _ H54 hb => ?_
 replace hS:=hS.below hb
 clear H52 hb
 apply wl_end rfl
 replace hS : SH M X w [eB b1 [vI 0,vI 0,vO,vO],Ent.gifc 2,Ent.gifc 3,Ent.tab 1 (Lib.pow10Tab.map fun z => Value.int .u64 z)] _:=hS.sel [0,4,5,6] rfl
 apply w_ret
 obtain rfl:=someE hm
 replace hS : SH M X w [eO 9 tS ([] : List Str) (.nil),eB b1 [vI 0,vI 0,vO,vO],Ent.gifc 2,Ent.gifc 3,Ent.tab 1 (Lib.pow10Tab.map fun z => Value.int .u64 z)] _:=hS.addNil 9 tS
 replace hS : SH M X w [eI tS ([] : List Str) (.nil),eB b1 [vI 0,vI 0,vO,vO],Ent.gifc 2,Ent.gifc 3,Ent.tab 1 (Lib.pow10Tab.map fun z => Value.int .u64 z)] _:=SH.frz1 (hS.sel [0,1,2,3,4] rfl)
 replace hS : SH M X w [eO 3 (tI .i64) ([] : List Int) (.nil),eI tS ([] : List Str) (.nil),eB b1 [vI 0,vI 0,vO,vO],Ent.gifc 2,Ent.gifc 3,Ent.tab 1 (Lib.pow10Tab.map fun z => Value.int .u64 z)] _:=hS.addNil 3 (tI .i64)
 exact retR2 H54 rfl (oneRes_agg rfl (hS.bk 2 rfl) Tryz.underlying43 rfl (by kernel_rfl)) rfl ⟨_,rfl,Gh.nil,Gh.nil,rfl,(hS.sel [1,0] rfl)⟩
theorem answer_ReadLine_ok  (m : Nat) (s : Str) (r : TAnswer × Int) (hm : answer_ReadLine m s = some r) (M : Av) (w : World) (hS : S0 M [Ent.gifc 2,Ent.gifc 3,Ent.tab 1 (Lib.pow10Tab.map fun z => Value.int .u64 z)] w) : DoesX Tryz.prog 22 ⟨[vS s]⟩ w (fun v w' => ∃ (g901 : Gh) (g903 : Gh),v = vW [vG [vI r.1.Err,vI r.1.Num,vL g901 r.1.Texts,vL g903 r.1.Numbers],vI r.2] ∧ SH M (fpl [Ent.gifc 2,Ent.gifc 3,Ent.tab 1 (Lib.pow10Tab.map fun z => Value.int .u64 z)]) w [eI tS r.1.Texts g901,eO 3 (tI .i64) r.1.Numbers g903] w'):=⟨Tryz.call22 _,answer_ReadLine_w M m   s r hm w hS⟩

theorem nc_tyAnswer : TyNc tyAnswer:=⟨by decide,fun _ _ _ _ h => tyAnswer_mk (SlG.nc nc_S (tyAnswer_i0 h)) (SlG.nc (nc_I _) (tyAnswer_i1 h))⟩
theorem answer_ReadText_w  (M : Av) (m : Nat) (s : Str) (r : (List TAnswer) × Int) (hm : answer_ReadText m s = some r) (w : World) (hS : S0 M [Ent.gifc 2,Ent.gifc 3,Ent.tab 1 (Lib.pow10Tab.map fun z => Value.int .u64 z)] w) : Calls Tryz.prog 7 ⟨[vS s]⟩ w (fun e w' => ∃ v,e = .returned v ∧ ∃ (g901 : Gh),v = vW [vL g901 r.1,vI r.2] ∧ SH M (fpl [Ent.gifc 2,Ent.gifc 3,Ent.tab 1 (Lib.pow10Tab.map fun z => Value.int .u64 z)]) w [eO 43 tyAnswer r.1 g901] w'):=by
 rw [answer_ReadText] at hm
 have hS0 : SH M (fpl [Ent.gifc 2,Ent.gifc 3,Ent.tab 1 (Lib.pow10Tab.map fun z => Value.int .u64 z)]) w [Ent.gifc 2,Ent.gifc 3,Ent.tab 1 (Lib.pow10Tab.map fun z => Value.int .u64 z)] w:=hS
 generalize hX : fpl [Ent.gifc 2,Ent.gifc 3,Ent.tab 1 (Lib.pow10Tab.map fun z => Value.int .u64 z)] = X at hS0 ⊢
 clear hS hX
 have hS:=hS0
 clear hS0
 refine calls_entryM Tryz.func7 rfl Tryz.ntmps7 rfl fun _ H => ?_
 apply w_seq
 apply wl_start
 have hd:=hS.hand [] [0,1,2] rfl rfl
 refine m_stp [2,0] [(0,[],vS s)] H rfl rfl rfl rfl (o_alloc [vO] (z:=vO) hd (by kernel_rfl) rfl) (fun _ => rfl) fun _ _ v H3 hq => ?_
 clear H hd
 obtain ⟨b1,rfl,hq⟩:=hq
 replace hS : SH M X w [eB b1 [vO],Ent.gifc 2,Ent.gifc 3,Ent.tab 1 (Lib.pow10Tab.map fun z => Value.int .u64 z)] _:=hS.join [] [0,1,2] rfl rfl hq
 clear hq
 have hd:=hS.hand [] [0,1,2,3] rfl rfl
 refine m_stp [3,0,2] (fS [0,2] [vS s,vP b1]) H3 rfl rfl rfl rfl (o_alloc [vI 0] (z:=vI 0) hd (by kernel_rfl) rfl) (fun _ => rfl) fun _ _ v H6 hq => ?_
 clear H3 hd
 obtain ⟨b4,rfl,hq⟩:=hq
 replace hS : SH M X w [eB b4 [vI 0],eB b1 [vO],Ent.gifc 2,Ent.gifc 3,Ent.tab 1 (Lib.pow10Tab.map fun z => Value.int .u64 z)] _:=hS.join [] [0,1,2,3] rfl rfl hq
 clear hq
 apply wl_end rfl
 apply w_seq
 refine s_reg [] [0,2,3,10] (fS [0,2,3,10] [vS s,vP b1,vP b4,vB (decide (5400000 < (ln s)))]) [] H6 (by kernel_rfl) trivial fun _ _ H8 hb => ?_
 replace hS:=hS.below hb
 clear H6 hb
 refine w_if H8 rfl (fun hc => ?c88) (fun hc => ?_)
 case c88 =>
  replace hm:=bT hc hm
  apply w_seq
  apply wl_start
  have hd:=hS.hand [1] [0,2,3,4] rfl rfl
  refine m_stp0 [2,3] (fS [2,3] [vP b1,vP b4]) H8 rfl rfl rfl (o_store [vO] H8 hd rfl rfl (by kernel_rfl) rfl rfl rfl) rfl fun _ _ H10 hq => ?_
  clear H8 hd
  obtain ⟨_,hq⟩:=hq
  replace hS : SH M X w [eB b1 [vO],eB b4 [vI 0],Ent.gifc 2,Ent.gifc 3,Ent.tab 1 (Lib.pow10Tab.map fun z => Value.int .u64 z)] _:=hS.join [1] [0,2,3,4] rfl rfl hq
  clear hq
  have hd:=hS.hand [1] [0,2,3,4] rfl rfl
  refine m_stp0 [2,3] (fS [2,3] [vP b1,vP b4]) H10 rfl rfl rfl (o_store [vI 28] H10 hd rfl rfl (by kernel_rfl) rfl rfl rfl) rfl fun _ _ H12 hq => ?_
  clear H10 hd
  obtain ⟨_,hq⟩:=hq
  replace hS : SH M X w [eB b4 [vI 28],eB b1 [vO],Ent.gifc 2,Ent.gifc 3,Ent.tab 1 (Lib.pow10Tab.map fun z => Value.int .u64 z)] _:=hS.join [1] [0,2,3,4] rfl rfl hq
  clear hq
  apply wl_end rfl
  apply w_ret
  obtain rfl:=someE hm
  replace hS : SH M X w [eO 43 tyAnswer ([] : List TAnswer) (.nil),eB b4 [vI 28],eB b1 [vO],Ent.gifc 2,Ent.gifc 3,Ent.tab 1 (Lib.pow10Tab.map fun z => Value.int .u64 z)] _:=hS.addNil 43 tyAnswer
  refine RpM.of ?_
  exact retR2 H12 rfl (oneRes_one rfl (hS.bk 2 rfl) Tryz.underlying22 rfl) (oneRes_one rfl (hS.bk 1 rfl) Tryz.underlying24 rfl) ⟨_,rfl,Gh.nil,rfl,(hS.sel [0] rfl)⟩
 replace hm:=bF hc hm
 apply w_skip
 apply w_seq
 obtain ⟨y14,hy14,hm⟩:=bindE hm
 obtain ⟨y15,hy15,hm⟩:=bindE hm
 obtain ⟨x16,hx16,hm⟩:=letE hm
 refine s_reg [(vB y14),(vI y15)] [0,2,3,22] (fS [0,2,3,22] [vS s,vP b1,vP b4,vB x16]) [fun wz => ((!(s == [])) = true ∧ True → RetB Tryz.prog 19 ⟨[vS s,vS [10]]⟩ (vB y14) wz),fun wz => ((cond (!(s == [])) (!y14) false) = false ∧ True → RetB Tryz.prog 20 ⟨[vS s,vS [10]]⟩ (vI y15) wz)] H8 (by subst hx16; kernel_rfl) ⟨fun hg => (strings_HasSuffix_ok _ _ _ (bT (hg.1) hy14)).b,fun hg => (strings_Count_ok m _ _ _ (bF (hg.1) hy15)).b,trivial⟩ fun _ _ H18 hb => ?_
 replace hS:=hS.below hb
 clear H8 hb
 refine w_if H18 rfl (fun hc => ?c87) (fun hc => ?_)
 case c87 =>
  replace hm:=bT hc hm
  apply w_seq
  apply wl_start
  have hd:=hS.hand [1] [0,2,3,4] rfl rfl
  refine m_stp0 [2,3] (fS [2,3] [vP b1,vP b4]) H18 rfl rfl rfl (o_store [vO] H18 hd rfl rfl (by kernel_rfl) rfl rfl rfl) rfl fun _ _ H20 hq => ?_
  clear H18 hd
  obtain ⟨_,hq⟩:=hq
  replace hS : SH M X w [eB b1 [vO],eB b4 [vI 0],Ent.gifc 2,Ent.gifc 3,Ent.tab 1 (Lib.pow10Tab.map fun z => Value.int .u64 z)] _:=hS.join [1] [0,2,3,4] rfl rfl hq
  clear hq
  have hd:=hS.hand [1] [0,2,3,4] rfl rfl
  refine m_stp0 [2,3] (fS [2,3] [vP b1,vP b4]) H20 rfl rfl rfl (o_store [vI 12] H20 hd rfl rfl (by kernel_rfl) rfl rfl rfl) rfl fun _ _ H22 hq => ?_
  clear H20 hd
  obtain ⟨_,hq⟩:=hq
  replace hS : SH M X w [eB b4 [vI 12],eB b1 [vO],Ent.gifc 2,Ent.gifc 3,Ent.tab 1 (Lib.pow10Tab.map fun z => Value.int .u64 z)] _:=hS.join [1] [0,2,3,4] rfl rfl hq
  clear hq
  apply wl_end rfl
  apply w_ret
  obtain rfl:=someE hm
  replace hS : SH M X w [eO 43 tyAnswer ([] : List TAnswer) (.nil),eB b4 [vI 12],eB b1 [vO],Ent.gifc 2,Ent.gifc 3,Ent.tab 1 (Lib.pow10Tab.map fun z => Value.int .u64 z)] _:=hS.addNil 43 tyAnswer
  refine RpM.of ?_
  exact retR2 H22 rfl (oneRes_one rfl (hS.bk 2 rfl) Tryz.underlying22 rfl) (oneRes_one rfl (hS.bk 1 rfl) Tryz.underlying24 rfl) ⟨_,rfl,Gh.nil,rfl,(hS.sel [0] rfl)⟩
 replace hm:=bF hc hm
 apply w_skip
 apply w_seq
 apply wl_start
 have hd:=hS.hand [] [0,1,2,3,4] rfl rfl
 refine m_stp [4,0,2,3] (fS [0,2,3] [vS s,vP b1,vP b4]) H18 rfl rfl rfl rfl (o_alloc [vO] (z:=vO) hd (by kernel_rfl) rfl) (fun _ => rfl) fun _ _ v H26 hq => ?_
 clear H18 hd
 obtain ⟨b24,rfl,hq⟩:=hq
 replace hS : SH M X w [eB b24 [vO],eB b4 [vI 0],eB b1 [vO],Ent.gifc 2,Ent.gifc 3,Ent.tab 1 (Lib.pow10Tab.map fun z => Value.int .u64 z)] _:=hS.join [] [0,1,2,3,4] rfl rfl hq
 clear hq
 apply wl_end rfl
 apply w_seq
 apply w_seq
 apply wl_start
 refine wl_batch 0 1 [] [2,3,4,23] (fS [2,3,4,23] [vP b1,vP b4,vP b24,vS s]) [] H26 (by decide) (by kernel_rfl) trivial fun _ _ H28 hb => ?_
 replace hS:=hS.below hb
 clear H26 hb
 obtain ⟨y29,hy29,hm⟩:=letE hm
 have hd:=hS.hand [] [0,1,2,3,4,5] rfl rfl
 refine m_stp [24,2,3,4] (fS [2,3,4] [vP b1,vP b4,vP b24]) H28 rfl rfl rfl rfl (o_callx H28 rfl rfl (strings_Lines_ok _ _ hy29.symm _ _ hd)) (fun _ => rfl) fun _ _ v H32 hq => ?_
 clear H28 hd
 obtain ⟨b30,rfl,hq⟩:=hq
 replace hS : SH M X w [eB b30 [vS y29],eB b24 [vO],eB b4 [vI 0],eB b1 [vO],Ent.gifc 2,Ent.gifc 3,Ent.tab 1 (Lib.pow10Tab.map fun z => Value.int .u64 z)] _:=hS.join [] [0,1,2,3,4,5] rfl rfl hq
 clear hq
 apply wl_end rfl
 apply w_block
 replace hS : SH M X w [eO 43 tyAnswer ([] : List TAnswer) (.nil),eB b30 [vS y29],eB b24 [vO],eB b4 [vI 0],eB b1 [vO],Ent.gifc 2,Ent.gifc 3,Ent.tab 1 (Lib.pow10Tab.map fun z => Value.int .u64 z)] _:=hS.addNil 43 tyAnswer
 replace hS : SH M X w [eB b30 [vS y29],eO 43 tyAnswer ([] : List TAnswer) (.nil),eB b24 [.slice Gh.nil.a (([] : List TAnswer).length) Gh.nil.c],eB b4 [vI 0],eB b1 [vO],Ent.gifc 2,Ent.gifc 3,Ent.tab 1 (Lib.pow10Tab.map fun z => Value.int .u64 z)] _:=hS.sel [1,0,2,3,4,5,6,7] rfl
 obtain ⟨ho86,hm⟩:=chkE hm
 refine w_rangeJ (fr:=(fS [2,3,4,24] [vP b1,vP b4,vP b24,.func (.func 42) ⟨[]⟩ ⟨[vP b30]⟩])) (fun kR (sR : (List TAnswer) × Gh) => ∃ kk,answer_ReadText_L1 m  kk (lnK y29 kR) sR.1 = some r) (fun p (sR : (List TAnswer) × Gh) => [eB b30 [vS (lnK y29 p)],eO 43 tyAnswer sR.1 sR.2,eB b24 [.slice sR.2.a sR.1.length sR.2.c],eB b4 [vI 0],eB b1 [vO],Ent.gifc 2,Ent.gifc 3,Ent.tab 1 (Lib.pow10Tab.map fun z => Value.int .u64 z)]) (fun (yR : Int) => ([],yR) = r) (fun yR => [eB b1 [vO],eB b4 [vI yR]]) (fun kR => (fS [25,2,3,4,24] [vS (lnT (lnK y29 kR)),vP b1,vP b4,vP b24,.func (.func 42) ⟨[]⟩ ⟨[vP b30]⟩])) (fun kR (sR : (List TAnswer) × Gh) (dR : Unit) => (fS [2,3,4,5] [vP b1,vP b4,vP b24,vS (lnT (lnK y29 kR))])) (fun kR (sR : (List TAnswer) × Gh) dR => [eB b30 [vS (lnR (lnK y29 kR))],eO 43 tyAnswer sR.1 sR.2,eB b24 [.slice sR.2.a sR.1.length sR.2.c],eB b4 [vI 0],eB b1 [vO],Ent.gifc 2,Ent.gifc 3,Ent.tab 1 (Lib.pow10Tab.map fun z => Value.int .u64 z)]) 42 [vP b30] (fun kR => [vS (lnT (lnK y29 kR))]) (lnN y29) b30 (fun p => [vS (lnK y29 p)]) (FrG.keep (ks:=[2,3,4,24]) H32 (by kernel_rfl)) (by kernel_rfl) (fun args => Tryz.call42 args) (([] : List TAnswer),Gh.nil) ⟨m,?h0_1⟩ hS (fun _ _ => ⟨nc_blk _ _,⟨nc_own nc_tyAnswer _ _ _,⟨nc_blk _ _,⟨nc_blk _ _,⟨nc_blk _ _,⟨nc_gifc _,⟨nc_gifc _,⟨nc_tab _ _,trivial⟩⟩⟩⟩⟩⟩⟩⟩) (fun _ _ _ => ⟨nc_blk _ _,⟨nc_own nc_tyAnswer _ _ _,⟨nc_blk _ _,⟨nc_blk _ _,⟨nc_blk _ _,⟨nc_gifc _,⟨nc_gifc _,⟨nc_tab _ _,trivial⟩⟩⟩⟩⟩⟩⟩⟩) (fun _ => ⟨nc_blk _ _,⟨nc_blk _ _,trivial⟩⟩) (lines42 y29 b30 _ ho86) (fun _ => rfl) (fun _ _ _ hS => hS.bk 0 rfl) (fun _ _ => .head _) (fun _ _ _ _ _ hS hk hb => hS.move hk hb) (fun _ _ _ hd ht => fr_one (l:=(fS [2,3,4,24] [vP b1,vP b4,vP b24,.func (.func 42) ⟨[]⟩ ⟨[vP b30]⟩])) (FrG.keep (ks:=[2,3,4,24]) H32 (by kernel_rfl)) (by kernel_rfl) (by kernel_rfl) hd (ht.trans (zip_one _))) ?ha_1 ?hb_1 ?hn_1 ?hr_1
 case h0_1 => exact hm
 case ha_1 =>
  intro lR kR sR wR aR hk _ H hS
  obtain ⟨v35,g36⟩:=sR
  obtain ⟨v34,hvi⟩ : ∃ v,v = lnK y29 kR:=⟨_,rfl⟩
  replace H : Fr 39 (fS [25,2,3,4,24] [vS (lnT v34),vP b1,vP b4,vP b24,.func (.func 42) ⟨[]⟩ ⟨[vP b30]⟩]) aR:=by subst hvi; exact H
  replace hS : SH M (fpl [eB b30 [vS (lnR v34)],eO 43 tyAnswer v35 g36,eB b24 [vL g36 v35],eB b4 [vI 0],eB b1 [vO],Ent.gifc 2,Ent.gifc 3,Ent.tab 1 (Lib.pow10Tab.map fun z => Value.int .u64 z)]) wR [eB b30 [vS (lnR v34)],eO 43 tyAnswer v35 g36,eB b24 [vL g36 v35],eB b4 [vI 0],eB b1 [vO],Ent.gifc 2,Ent.gifc 3,Ent.tab 1 (Lib.pow10Tab.map fun z => Value.int .u64 z)] wR:=by subst hvi; exact hS
  show Code.wpIn _ _ _ _ (Qs (fun a1 W1 => ∃ dR : Unit,Fr 39 (fS [2,3,4,5] [vP b1,vP b4,vP b24,vS (lnT (lnK y29 kR))]) a1 ∧ SH M (fpl [eB b30 [vS (lnR (lnK y29 kR))],eO 43 tyAnswer v35 g36,eB b24 [vL g36 v35],eB b4 [vI 0],eB b1 [vO],Ent.gifc 2,Ent.gifc 3,Ent.tab 1 (Lib.pow10Tab.map fun z => Value.int .u64 z)]) wR [eB b30 [vS (lnR (lnK y29 kR))],eO 43 tyAnswer v35 g36,eB b24 [vL g36 v35],eB b4 [vI 0],eB b1 [vO],Ent.gifc 2,Ent.gifc 3,Ent.tab 1 (Lib.pow10Tab.map fun z => Value.int .u64 z)] W1) [] _) _ _
  rw [← hvi]
  refine r_reg [] [2,3,4,5] (fS [2,3,4,5] [vP b1,vP b4,vP b24,vS (lnT v34)]) [] H (by kernel_rfl) (by kernel_rfl) trivial fun _ _ H38 hb => ?_
  replace hS:=hS.below hb
  clear H hb
  exact ⟨(),FrG.keep (ks:=[2,3,4,5]) H38 (by kernel_rfl),hS⟩
 case hb_1 =>
  intro lR kR sR dR wR aR hk hC H hS
  obtain ⟨v35,g36⟩:=sR
  obtain ⟨v34,hvi⟩ : ∃ v,v = lnK y29 kR:=⟨_,rfl⟩
  obtain ⟨kk,hm⟩:=hC
  replace hm : answer_ReadText_L1 m  kk v34 v35 = some r:=by subst hvi; exact hm
  replace H : Fr 39 (fS [2,3,4,5] [vP b1,vP b4,vP b24,vS (lnT v34)]) aR:=by subst hvi; exact H
  replace hS : SH M (fpl [eB b30 [vS (lnR v34)],eO 43 tyAnswer v35 g36,eB b24 [vL g36 v35],eB b4 [vI 0],eB b1 [vO],Ent.gifc 2,Ent.gifc 3,Ent.tab 1 (Lib.pow10Tab.map fun z => Value.int .u64 z)]) wR [eB b30 [vS (lnR v34)],eO 43 tyAnswer v35 g36,eB b24 [vL g36 v35],eB b4 [vI 0],eB b1 [vO],Ent.gifc 2,Ent.gifc 3,Ent.tab 1 (Lib.pow10Tab.map fun z => Value.int .u64 z)] wR:=by subst hvi; exact hS
  have hpos : decide (0 < ln v34) = true:=by subst hvi; exact lnK_pos _ _ hk
  show Code.wpIn _ _ _ _ (Qs (fun _ W1 => ∃ sR : (List TAnswer) × Gh,(∃ kk,answer_ReadText_L1 m  kk (lnR (lnK y29 kR)) sR.1 = some r) ∧ SH M (fpl [eB b30 [vS (lnR (lnK y29 kR))],eO 43 tyAnswer v35 g36,eB b24 [vL g36 v35],eB b4 [vI 0],eB b1 [vO],Ent.gifc 2,Ent.gifc 3,Ent.tab 1 (Lib.pow10Tab.map fun z => Value.int .u64 z)]) wR [eB b30 [vS (lnR (lnK y29 kR))],eO 43 tyAnswer sR.1 sR.2,eB b24 [.slice sR.2.a sR.1.length sR.2.c],eB b4 [vI 0],eB b1 [vO],Ent.gifc 2,Ent.gifc 3,Ent.tab 1 (Lib.pow10Tab.map fun z => Value.int .u64 z)] W1) [] (fun _ W1 => ∃ yR : Int,([],yR) = r ∧ SH M (fpl [eB b30 [vS (lnR (lnK y29 kR))],eO 43 tyAnswer v35 g36,eB b24 [vL g36 v35],eB b4 [vI 0],eB b1 [vO],Ent.gifc 2,Ent.gifc 3,Ent.tab 1 (Lib.pow10Tab.map fun z => Value.int .u64 z)]) wR [eB b1 [vO],eB b4 [vI yR]] W1)) _ _
  rw [← hvi]
  clear hvi
  cases kk with
  | zero => exact noneE hm
  | succ kk =>
   rw [answer_ReadText_L1] at hm
   replace hm:=bT hpos hm
   refine r_block ?_
   refine r_seq ?_
   refine rl_start (by kernel_rfl) ?_
   obtain ⟨y39,hy39,hm⟩:=bindE hm
   refine wl_batch 0 2 [(vS y39)] [2,3,4,28] (fS [2,3,4,28] [vP b1,vP b4,vP b24,vS y39]) [rB 23 [vS (lnT v34),vS [10]] (vS y39)] H (by decide) (by kernel_rfl) ⟨((strings_TrimSuffix_ok _ _ _ hy39).b),trivial⟩ fun _ _ H41 hb => ?_
   replace hS:=hS.below hb
   clear H hb
   obtain ⟨y42,hy42,hm⟩:=bindE hm
   have hd:=hS.hand [5,6,7] [0,1,2,3,4,5,6,7] rfl rfl
   refine m_stp [29,2,3,4] (fS [2,3,4] [vP b1,vP b4,vP b24]) H41 rfl rfl rfl rfl (o_callx H41 rfl rfl (answer_ReadLine_ok m _ _ hy42 _ _ hd)) (fun _ => rfl) fun _ _ v H48 hq => ?_
   clear H41 hd
   obtain ⟨g43,g45,rfl,hq⟩:=hq
   replace hS : SH M (fpl [eB b30 [vS (lnR v34)],eO 43 tyAnswer v35 g36,eB b24 [vL g36 v35],eB b4 [vI 0],eB b1 [vO],Ent.gifc 2,Ent.gifc 3,Ent.tab 1 (Lib.pow10Tab.map fun z => Value.int .u64 z)]) wR [eI tS y42.1.Texts g43,eO 3 (tI .i64) y42.1.Numbers g45,eB b30 [vS (lnR v34)],eO 43 tyAnswer v35 g36,eB b24 [vL g36 v35],eB b4 [vI 0],eB b1 [vO],Ent.gifc 2,Ent.gifc 3,Ent.tab 1 (Lib.pow10Tab.map fun z => Value.int .u64 z)] _:=hS.join [5,6,7] [0,1,2,3,4,5,6,7] rfl rfl hq
   clear hq
   refine wl_batch 3 6 [] [2,3,4,30,31] (fS [2,3,4,30,31] [vP b1,vP b4,vP b24,vG [vI y42.1.Err,vI y42.1.Num,vL g43 y42.1.Texts,vL g45 y42.1.Numbers],vI y42.2]) [] H48 (by decide) (by kernel_rfl) trivial fun _ _ H50 hb => ?_
   replace hS:=hS.below hb
   clear H48 hb
   have hd:=hS.hand [] [0,1,2,3,4,5,6,7,8,9] rfl rfl
   refine m_stp [6,2,3,4,30,31] (fS [2,3,4,30,31] [vP b1,vP b4,vP b24,vG [vI y42.1.Err,vI y42.1.Num,vL g43 y42.1.Texts,vL g45 y42.1.Numbers],vI y42.2]) H50 rfl rfl rfl rfl (o_alloc [vI 0,vI 0,vO,vO] (z:=vG [vI 0,vI 0,vO,vO]) hd (by kernel_rfl) rfl) (fun _ => rfl) fun _ _ v H53 hq => ?_
   clear H50 hd
   obtain ⟨b51,rfl,hq⟩:=hq
   replace hS : SH M (fpl [eB b30 [vS (lnR v34)],eO 43 tyAnswer v35 g36,eB b24 [vL g36 v35],eB b4 [vI 0],eB b1 [vO],Ent.gifc 2,Ent.gifc 3,Ent.tab 1 (Lib.pow10Tab.map fun z => Value.int .u64 z)]) wR [eB b51 [vI 0,vI 0,vO,vO],eI tS y42.1.Texts g43,eO 3 (tI .i64) y42.1.Numbers g45,eB b30 [vS (lnR v34)],eO 43 tyAnswer v35 g36,eB b24 [vL g36 v35],eB b4 [vI 0],eB b1 [vO],Ent.gifc 2,Ent.gifc 3,Ent.tab 1 (Lib.pow10Tab.map fun z => Value.int .u64 z)] _:=hS.join [] [0,1,2,3,4,5,6,7,8,9] rfl rfl hq
   clear hq
   have hd:=hS.hand [0] [1,2,3,4,5,6,7,8,9,10] rfl rfl
   refine m_stp0 [2,3,4,6,31] (fS [2,3,4,6,31] [vP b1,vP b4,vP b24,vP b51,vI y42.2]) H53 rfl rfl rfl (o_store [vI y42.1.Err,vI y42.1.Num,vL g43 y42.1.Texts,vL g45 y42.1.Numbers] H53 hd rfl rfl (by kernel_rfl) rfl rfl rfl) rfl fun _ _ H55 hq => ?_
   clear H53 hd
   obtain ⟨_,hq⟩:=hq
   replace hS : SH M (fpl [eB b30 [vS (lnR v34)],eO 43 tyAnswer v35 g36,eB b24 [vL g36 v35],eB b4 [vI 0],eB b1 [vO],Ent.gifc 2,Ent.gifc 3,Ent.tab 1 (Lib.pow10Tab.map fun z => Value.int .u64 z)]) wR [eB b51 [vI y42.1.Err,vI y42.1.Num,vL g43 y42.1.Texts,vL g45 y42.1.Numbers],eI tS y42.1.Texts g43,eO 3 (tI .i64) y42.1.Numbers g45,eB b30 [vS (lnR v34)],eO 43 tyAnswer v35 g36,eB b24 [vL g36 v35],eB b4 [vI 0],eB b1 [vO],Ent.gifc 2,Ent.gifc 3,Ent.tab 1 (Lib.pow10Tab.map fun z => Value.int .u64 z)] _:=hS.join [0] [1,2,3,4,5,6,7,8,9,10] rfl rfl hq
   clear hq
   refine wl_batch 8 9 [] [2,3,4,6,7] (fS [2,3,4,6,7] [vP b1,vP b4,vP b24,vP b51,vI y42.2]) [] H55 (by decide) (by kernel_rfl) trivial fun _ _ H57 hb => ?_
   replace hS:=hS.below hb
   clear H55 hb
   apply wl_end rfl
   refine r_seq ?_
   refine sr_reg [] [2,3,4,6,33] (fS [2,3,4,6,33] [vP b1,vP b4,vP b24,vP b51,vB (y42.2 != 0)]) [] H57 (by kernel_rfl) (by kernel_rfl) trivial fun _ _ H59 hb => ?_
   replace hS:=hS.below hb
   clear H57 hb
   refine r_if H59 rfl (fun hc => ?c77) (fun hc => ?_)
   case c77 =>
    replace hm:=bT hc hm
    refine r_seq ?_
    refine rl_start (by kernel_rfl) ?_
    have hd:=hS.hand [7] [0,1,2,3,4,5,6,8,9,10] rfl rfl
    refine m_stp0 [2,3] (fS [2,3] [vP b1,vP b4]) H59 rfl rfl rfl (o_store [vO] H59 hd rfl rfl (by kernel_rfl) rfl rfl rfl) rfl fun _ _ H61 hq => ?_
    clear H59 hd
    obtain ⟨_,hq⟩:=hq
    replace hS : SH M (fpl [eB b30 [vS (lnR v34)],eO 43 tyAnswer v35 g36,eB b24 [vL g36 v35],eB b4 [vI 0],eB b1 [vO],Ent.gifc 2,Ent.gifc 3,Ent.tab 1 (Lib.pow10Tab.map fun z => Value.int .u64 z)]) wR [eB b1 [vO],eB b51 [vI y42.1.Err,vI y42.1.Num,vL g43 y42.1.Texts,vL g45 y42.1.Numbers],eI tS y42.1.Texts g43,eO 3 (tI .i64) y42.1.Numbers g45,eB b30 [vS (lnR v34)],eO 43 tyAnswer v35 g36,eB b24 [vL g36 v35],eB b4 [vI 0],Ent.gifc 2,Ent.gifc 3,Ent.tab 1 (Lib.pow10Tab.map fun z => Value.int .u64 z)] _:=hS.join [7] [0,1,2,3,4,5,6,8,9,10] rfl rfl hq
    clear hq
    have hd:=hS.hand [7] [0,1,2,3,4,5,6,8,9,10] rfl rfl
    refine m_stp0 [2,3] (fS [2,3] [vP b1,vP b4]) H61 rfl rfl rfl (o_store [vI 12] H61 hd rfl rfl (by kernel_rfl) rfl rfl rfl) rfl fun _ _ H63 hq => ?_
    clear H61 hd
    obtain ⟨_,hq⟩:=hq
    replace hS : SH M (fpl [eB b30 [vS (lnR v34)],eO 43 tyAnswer v35 g36,eB b24 [vL g36 v35],eB b4 [vI 0],eB b1 [vO],Ent.gifc 2,Ent.gifc 3,Ent.tab 1 (Lib.pow10Tab.map fun z => Value.int .u64 z)]) wR [eB b4 [vI 12],eB b1 [vO],eB b51 [vI y42.1.Err,vI y42.1.Num,vL g43 y42.1.Texts,vL g45 y42.1.Numbers],eI tS y42.1.Texts g43,eO 3 (tI .i64) y42.1.Numbers g45,eB b30 [vS (lnR v34)],eO 43 tyAnswer v35 g36,eB b24 [vL g36 v35],Ent.gifc 2,Ent.gifc 3,Ent.tab 1 (Lib.pow10Tab.map fun z => Value.int .u64 z)] _:=hS.join [7] [0,1,2,3,4,5,6,8,9,10] rfl rfl hq
    clear hq
    apply wl_end rfl
    replace hS : SH M (fpl [eB b30 [vS (lnR v34)],eO 43 tyAnswer v35 g36,eB b24 [vL g36 v35],eB b4 [vI 0],eB b1 [vO],Ent.gifc 2,Ent.gifc 3,Ent.tab 1 (Lib.pow10Tab.map fun z => Value.int .u64 z)]) wR [eB b4 [vI 12],eB b1 [vO],eB b30 [vS (lnR v34)],eO 43 tyAnswer v35 g36,eB b24 [vL g36 v35],Ent.gifc 2,Ent.gifc 3,Ent.tab 1 (Lib.pow10Tab.map fun z => Value.int .u64 z)] _:=hS.sel [0,1,5,6,7,8,9,10] rfl
    refine r_ret ?_
    exact ⟨12,someE hm,hS.sel [1,0] rfl⟩
   replace hm:=bF hc hm
   refine r_skip ?_
   refine rl_start (by kernel_rfl) ?_
   refine wl_batch 0 2 [(vL g36 v35),(vG [vI y42.1.Err,vI y42.1.Num,vL g43 y42.1.Texts,vL g45 y42.1.Numbers])] [4,34,35] (fS [4,34,35] [vP b24,vL g36 v35,vG [vI y42.1.Err,vI y42.1.Num,vL g43 y42.1.Texts,vL g45 y42.1.Numbers]]) [rA b24 0 (vL g36 v35),rN b51 0 [vI y42.1.Err,vI y42.1.Num,vL g43 y42.1.Texts,vL g45 y42.1.Numbers]] H59 (by decide) (by kernel_rfl) ⟨((hS.bk 5 rfl).at1 rfl),((hS.bk 0 rfl).atD rfl),trivial⟩ fun _ _ H65 hb => ?_
   replace hS:=hS.below hb
   clear H59 hb
   replace hS : SH M (fpl [eB b30 [vS (lnR v34)],eO 43 tyAnswer v35 g36,eB b24 [vL g36 v35],eB b4 [vI 0],eB b1 [vO],Ent.gifc 2,Ent.gifc 3,Ent.tab 1 (Lib.pow10Tab.map fun z => Value.int .u64 z)]) wR [eI (tI .i64) y42.1.Numbers g45,eB b51 [vI y42.1.Err,vI y42.1.Num,vL g43 y42.1.Texts,vL g45 y42.1.Numbers],eI tS y42.1.Texts g43,eB b30 [vS (lnR v34)],eO 43 tyAnswer v35 g36,eB b24 [vL g36 v35],eB b4 [vI 0],eB b1 [vO],Ent.gifc 2,Ent.gifc 3,Ent.tab 1 (Lib.pow10Tab.map fun z => Value.int .u64 z)] _:=SH.frz1 (hS.sel [2,0,1,3,4,5,6,7,8,9,10] rfl)
   have hd:=hS.hand [2,0] [0,1,2,3,4,5,6,7,8,9,10] rfl rfl
   refine m_stp [36,4,34] (fS [4,34] [vP b24,vL g36 v35]) H65 rfl rfl rfl rfl (o_lit (T:=tyAnswer) (E:=43) (zv:=vG [vI 0,vI 0,vO,vO]) [vI y42.1.Err,vI y42.1.Num,vL g43 y42.1.Texts,vL g45 y42.1.Numbers] ([y42.1] : List TAnswer) [gL [g43,g45]] _ H65 hd rfl (by kernel_rfl) (by kernel_rfl) (by kernel_rfl) (by kernel_rfl) (by kernel_rfl) (by kernel_rfl) (by kernel_rfl) rfl (InnL.cons (tyAnswer_mk (hd.im 0 rfl) (hd.im 1 rfl)) InnL.nil)) (fun _ => rfl) fun _ _ v H69 hq => ?_
   clear H65 hd
   obtain ⟨g66,rfl,hq⟩:=hq
   replace hS : SH M (fpl [eB b30 [vS (lnR v34)],eO 43 tyAnswer v35 g36,eB b24 [vL g36 v35],eB b4 [vI 0],eB b1 [vO],Ent.gifc 2,Ent.gifc 3,Ent.tab 1 (Lib.pow10Tab.map fun z => Value.int .u64 z)]) wR [eO 43 tyAnswer ([y42.1] : List TAnswer) g66,eI (tI .i64) y42.1.Numbers g45,eB b51 [vI y42.1.Err,vI y42.1.Num,vL g43 y42.1.Texts,vL g45 y42.1.Numbers],eI tS y42.1.Texts g43,eB b30 [vS (lnR v34)],eO 43 tyAnswer v35 g36,eB b24 [vL g36 v35],eB b4 [vI 0],eB b1 [vO],Ent.gifc 2,Ent.gifc 3,Ent.tab 1 (Lib.pow10Tab.map fun z => Value.int .u64 z)] _:=hS.join [2,0] [0,1,2,3,4,5,6,7,8,9,10] rfl rfl hq
   clear hq
   obtain ⟨ho70,hm⟩:=chkE hm
   obtain ⟨q71,hq71,hm⟩:=letE hm
   have hd:=hS.hand [5,0] [1,2,3,4,6,7,8,9,10,11] rfl rfl
   refine m_stp [37,4] [(4,[],vP b24)] H69 rfl rfl rfl rfl (o_app2 (T:=tyAnswer) (zv:=vG [vI 0,vI 0,vO,vO]) (g1:=g36) (g2:=g66) (l1:=v35) (l2:=([y42.1] : List TAnswer)) q71 hq71.symm H69 hd rfl rfl rfl rfl rfl rfl rfl (by kernel_rfl) (by kernel_rfl) rfl rfl ho70) (fun _ => rfl) fun _ _ v H73 hq => ?_
   clear H69 hd
   obtain ⟨g74,rfl,hq⟩:=hq
   replace hS : SH M (fpl [eB b30 [vS (lnR v34)],eO 43 tyAnswer v35 g36,eB b24 [vL g36 v35],eB b4 [vI 0],eB b1 [vO],Ent.gifc 2,Ent.gifc 3,Ent.tab 1 (Lib.pow10Tab.map fun z => Value.int .u64 z)]) wR [eO 43 tyAnswer q71 g74,eO 43 tyAnswer ([y42.1] : List TAnswer) g66,eI (tI .i64) y42.1.Numbers g45,eB b51 [vI y42.1.Err,vI y42.1.Num,vL g43 y42.1.Texts,vL g45 y42.1.Numbers],eI tS y42.1.Texts g43,eB b30 [vS (lnR v34)],eB b24 [vL g36 v35],eB b4 [vI 0],eB b1 [vO],Ent.gifc 2,Ent.gifc 3,Ent.tab 1 (Lib.pow10Tab.map fun z => Value.int .u64 z)] _:=hS.join [5,0] [1,2,3,4,6,7,8,9,10,11] rfl rfl hq
   clear hq
   have hd:=hS.hand [6] [0,1,2,3,4,5,7,8,9,10,11] rfl rfl
   refine m_stp0 [] [] H73 rfl rfl rfl (o_store [vL g74 q71] H73 hd rfl rfl (by kernel_rfl) rfl rfl rfl) rfl fun _ _ H76 hq => ?_
   clear H73 hd
   obtain ⟨_,hq⟩:=hq
   replace hS : SH M (fpl [eB b30 [vS (lnR v34)],eO 43 tyAnswer v35 g36,eB b24 [vL g36 v35],eB b4 [vI 0],eB b1 [vO],Ent.gifc 2,Ent.gifc 3,Ent.tab 1 (Lib.pow10Tab.map fun z => Value.int .u64 z)]) wR [eB b24 [vL g74 q71],eO 43 tyAnswer q71 g74,eO 43 tyAnswer ([y42.1] : List TAnswer) g66,eI (tI .i64) y42.1.Numbers g45,eB b51 [vI y42.1.Err,vI y42.1.Num,vL g43 y42.1.Texts,vL g45 y42.1.Numbers],eI tS y42.1.Texts g43,eB b30 [vS (lnR v34)],eB b4 [vI 0],eB b1 [vO],Ent.gifc 2,Ent.gifc 3,Ent.tab 1 (Lib.pow10Tab.map fun z => Value.int .u64 z)] _:=hS.join [6] [0,1,2,3,4,5,7,8,9,10,11] rfl rfl hq
   clear hq
   apply wl_end rfl
   replace hS : SH M (fpl [eB b30 [vS (lnR v34)],eO 43 tyAnswer v35 g36,eB b24 [vL g36 v35],eB b4 [vI 0],eB b1 [vO],Ent.gifc 2,Ent.gifc 3,Ent.tab 1 (Lib.pow10Tab.map fun z => Value.int .u64 z)]) wR [eB b24 [vL g74 q71],eO 43 tyAnswer q71 g74,eB b30 [vS (lnR v34)],eB b4 [vI 0],eB b1 [vO],Ent.gifc 2,Ent.gifc 3,Ent.tab 1 (Lib.pow10Tab.map fun z => Value.int .u64 z)] _:=hS.sel [0,1,6,7,8,9,10,11] rfl
   exact ⟨(q71,g74),⟨kk,hm⟩,hS.sel [2,1,0,3,4,5,6,7] rfl⟩
 case hn_1 =>
  intro sR bD78 aR wR hb_bD78 hC H hS
  obtain ⟨v35,g36⟩:=sR
  obtain ⟨kk,hm⟩:=hC
  replace hm : answer_ReadText_L1 m  kk (lnK y29 (lnN y29)) v35 = some r:=hm
  replace H : FrG [mk bD78] 39 (fS [2,3,4,24] [vP b1,vP b4,vP b24,.func (.func 42) ⟨[]⟩ ⟨[vP b30]⟩]) aR:=H
  replace hS : SH M X w [Ent.obj bD78 dEnd,eB b30 [vS (lnK y29 (lnN y29))],eO 43 tyAnswer v35 g36,eB b24 [vL g36 v35],eB b4 [vI 0],eB b1 [vO],Ent.gifc 2,Ent.gifc 3,Ent.tab 1 (Lib.pow10Tab.map fun z => Value.int .u64 z)] wR:=hS
  rw [lnK_end] at hS hm
  cases kk with
  | zero => exact noneE hm
  | succ kk =>
   rw [answer_ReadText_L1] at hm
   replace hm:=bF rfl hm
   apply w_seq
   apply wl_start
   refine wl_batch 0 1 [(vL g36 v35)] [2,3,38] (fS [2,3,38] [vP b1,vP b4,vL g36 v35]) [rA b24 0 (vL g36 v35)] H (by decide) (by kernel_rfl) ⟨((hS.bk 3 rfl).at1 rfl),trivial⟩ fun _ _ H80 hb => ?_
   replace hS:=hS.below hb
   clear H hb
   have hd:=hS.hand [5] [0,1,2,3,4,6,7,8] rfl rfl
   refine m_stp0 [2,3] (fS [2,3] [vP b1,vP b4]) H80 rfl rfl rfl (o_store [vL g36 v35] H80 hd rfl rfl (by kernel_rfl) rfl rfl rfl) rfl fun _ _ H82 hq => ?_
   clear H80 hd
   obtain ⟨_,hq⟩:=hq
   replace hS : SH M X w [eB b1 [vL g36 v35],Ent.obj bD78 dEnd,eB b30 [vN],eO 43 tyAnswer v35 g36,eB b24 [vL g36 v35],eB b4 [vI 0],Ent.gifc 2,Ent.gifc 3,Ent.tab 1 (Lib.pow10Tab.map fun z => Value.int .u64 z)] _:=hS.join [5] [0,1,2,3,4,6,7,8] rfl rfl hq
   clear hq
   have hd:=hS.hand [5] [0,1,2,3,4,6,7,8] rfl rfl
   refine m_stp0 [2,3] (fS [2,3] [vP b1,vP b4]) H82 rfl rfl rfl (o_store [vI 0] H82 hd rfl rfl (by kernel_rfl) rfl rfl rfl) rfl fun _ _ H84 hq => ?_
   clear H82 hd
   obtain ⟨_,hq⟩:=hq
   replace hS : SH M X w [eB b4 [vI 0],eB b1 [vL g36 v35],Ent.obj bD78 dEnd,eB b30 [vN],eO 43 tyAnswer v35 g36,eB b24 [vL g36 v35],Ent.gifc 2,Ent.gifc 3,Ent.tab 1 (Lib.pow10Tab.map fun z => Value.int .u64 z)] _:=hS.join [5] [0,1,2,3,4,6,7,8] rfl rfl hq
   clear hq
   apply wl_end rfl
   replace hS : SH M X w [eB b4 [vI 0],eB b1 [vL g36 v35],Ent.obj bD78 dEnd,eB b30 [vN],eO 43 tyAnswer v35 g36,Ent.gifc 2,Ent.gifc 3,Ent.tab 1 (Lib.pow10Tab.map fun z => Value.int .u64 z)] _:=hS.sel [0,1,2,3,4,6,7,8] rfl
   apply w_ret
   obtain rfl:=someE hm
   refine retM H84 hb_bD78 (hS.sel [2,0,1,3,4,5,6,7] rfl) ⟨nc_blk _ _,⟨nc_blk _ _,⟨nc_blk _ _,⟨nc_own nc_tyAnswer _ _ _,⟨nc_gifc _,⟨nc_gifc _,⟨nc_tab _ _,trivial⟩⟩⟩⟩⟩⟩⟩ fun _ _ H hS => ?_
   replace hS : SH M X w [eB b4 [vI 0],eB b1 [vL g36 v35],eB b30 [vN],eO 43 tyAnswer v35 g36,Ent.gifc 2,Ent.gifc 3,Ent.tab 1 (Lib.pow10Tab.map fun z => Value.int .u64 z)] _:=hS
   exact retR2 H rfl (oneRes_one rfl (hS.bk 1 rfl) Tryz.underlying22 rfl) (oneRes_one rfl (hS.bk 0 rfl) Tryz.underlying24 rfl) ⟨_,rfl,g36,rfl,(hS.sel [3] rfl)⟩
 case hr_1 =>
  intro yR bD78 aR wR hb_bD78 hC H hS
  have hm:=congrArg some hC
  replace H : FrG [mk bD78] 39 (fS [2,3,4,24] [vP b1,vP b4,vP b24,.func (.func 42) ⟨[]⟩ ⟨[vP b30]⟩]) aR:=H
  replace hS : SH M X w [Ent.obj bD78 dEnd,eB b1 [vO],eB b4 [vI yR]] wR:=hS
  obtain rfl:=someE hm
  replace hS : SH M X w [eO 43 tyAnswer ([] : List TAnswer) (.nil),Ent.obj bD78 dEnd,eB b1 [vO],eB b4 [vI yR]] _:=hS.addNil 43 tyAnswer
  refine retM H hb_bD78 (hS.sel [1,0,2,3] rfl) ⟨nc_own nc_tyAnswer _ _ _,⟨nc_blk _ _,⟨nc_blk _ _,trivial⟩⟩⟩ fun _ _ H hS => ?_
  replace hS : SH M X w [eO 43 tyAnswer ([] : List TAnswer) (.nil),eB b1 [vO],eB b4 [vI yR]] _:=hS
  exact retR2 H rfl (oneRes_one rfl (hS.bk 1 rfl) Tryz.underlying22 rfl) (oneRes_one rfl (hS.bk 2 rfl) Tryz.underlying24 rfl) ⟨_,rfl,Gh.nil,rfl,(hS.sel [0] rfl)⟩
theorem answer_ReadText_ok  (m : Nat) (s : Str) (r : (List TAnswer) × Int) (hm : answer_ReadText m s = some r) (M : Av) (w : World) (hS : S0 M [Ent.gifc 2,Ent.gifc 3,Ent.tab 1 (Lib.pow10Tab.map fun z => Value.int .u64 z)] w) : DoesX Tryz.prog 7 ⟨[vS s]⟩ w (fun v w' => ∃ (g901 : Gh),v = vW [vL g901 r.1,vI r.2] ∧ SH M (fpl [Ent.gifc 2,Ent.gifc 3,Ent.tab 1 (Lib.pow10Tab.map fun z => Value.int .u64 z)]) w [eO 43 tyAnswer r.1 g901] w'):=⟨Tryz.call7 _,answer_ReadText_w M m   s r hm w hS⟩

theorem r40_Split_w  (M : Av) (m : Nat) (s : Str) (r : (List Str) × Bool) (hm : r40_Split m s = some r) (w : World) (hS : S0 M [] w) : Calls Tryz.prog 24 ⟨[vS s]⟩ w (fun e w' => ∃ v,e = .returned v ∧ ∃ (g901 : Gh),v = vW [vL g901 r.1,vB r.2] ∧ SH M (fpl []) w [eO 9 tS r.1 g901] w'):=by
 rw [r40_Split] at hm
 have hS0 : SH M (fpl []) w [] w:=hS
 generalize hX : fpl [] = X at hS0 ⊢
 clear hS hX
 have hS:=hS0
 clear hS0
 refine calls_entryP Tryz.func24 rfl Tryz.ntmps24 rfl fun _ H => ?_
 refine s_reg [] [0] [(0,[],vS s)] [] H (by kernel_rfl) trivial fun _ _ H2 hb => ?_
 replace hS:=hS.below hb
 clear H hb
 refine s_reg [] [0,4] (fS [0,4] [vS s,vO]) [] H2 (by kernel_rfl) trivial fun _ _ H4 hb => ?_
 replace hS:=hS.below hb
 clear H2 hb
 refine s_reg [] [0,4,5] (fS [0,4,5] [vS s,vO,vI 0]) [] H4 (by kernel_rfl) trivial fun _ _ H6 hb => ?_
 replace hS:=hS.below hb
 clear H4 hb
 obtain ⟨z7,hz,hm⟩:=bindE hm
 refine w_cut (fun a' w' => ∃ (g44 : Gh),Fr 31 (fS [0,4,5] [vS s,vL g44 z7.1,vI z7.2]) a' ∧ SH M X w [eO 9 tS z7.1 g44] w') ?_ ?_
 ·replace hm:=hz
  refine s_reg [] [0,4,5,6] (fS [0,4,5,6] [vS s,vO,vI 0,vI 0]) [] H6 (by kernel_rfl) trivial fun _ _ H9 hb => ?_
  replace hS:=hS.below hb
  clear H6 hb
  apply w_block
  replace hS : SH M X w [eO 9 tS ([] : List Str) (.nil)] _:=hS.addNil 9 tS
  refine w_loop (fun kk a' w' => ∃ (v11 : List Str) (v13 : Int) (v14 : Int) (g12 : Gh),r40_Split_L1 m s kk v11 v13 v14 = some _ ∧ Fr 31 (fS [0,4,5,6] [vS s,vL g12 v11,vI v13,vI v14]) a' ∧ SH M X w [eO 9 tS v11 g12] w') ⟨_,([] : List Str),0,0,Gh.nil,hm,FrG.keep (ks:=[0,4,5,6]) H9 (by kernel_rfl),hS⟩ ?_
  clear hm H9 hS
  rintro kk _ _ ⟨v11,v13,v14,g12,hm,H,hS⟩
  cases kk with
  | zero => exact noneE hm
  | succ kk =>
   rw [r40_Split_L1] at hm
   apply w_seq
   refine s_reg [] [0,4,5,6,10] (fS [0,4,5,6,10] [vS s,vL g12 v11,vI v13,vI v14,vB (decide (v14 < (ln s)))]) [] H (by kernel_rfl) trivial fun _ _ H16 hb => ?_
   replace hS:=hS.below hb
   clear H hb
   refine w_if H16 rfl (fun hc => ?_) (fun hc => ?c42)
   case c42 =>
    replace hm:=bF hc hm
    apply w_exit rfl
    obtain rfl:=someE hm
    exact ⟨g12,FrG.keep (ks:=[0,4,5]) H16 (by kernel_rfl),hS⟩
   replace hm:=bT hc hm
   apply w_skip
   obtain ⟨z17,hz,hm⟩:=bindE hm
   refine w_cut (fun a' w' => ∃ (g38 : Gh),Fr 31 (fS [0,6,4,5] [vS s,vI v14,vL g38 z17.2,vI z17.1]) a' ∧ SH M X w [eO 9 tS z17.2 g38] w') ?_ ?_
   ·replace hm:=hz
    apply w_block
    obtain ⟨ho18,hm⟩:=chkE hm
    refine s_reg [] [0,4,5,6,16] (fS [0,4,5,6,16] [vS s,vL g12 v11,vI v13,vI v14,vB ((bat s v14) == 10)]) [fun _ => 0 ≤ v14 ∧ v14 < ln s] H16 (by kernel_rfl) ⟨ho18,trivial⟩ fun _ _ H20 hb => ?_
    replace hS:=hS.below hb
    clear H16 hb
    refine w_if H20 rfl (fun hc => ?_) (fun hc => ?c37)
    case c37 =>
     replace hm:=bF hc hm
     apply w_skip
     obtain rfl:=someE hm
     exact ⟨g12,FrG.keep (ks:=[0,6,4,5]) H20 (by kernel_rfl),hS⟩
    replace hm:=bT hc hm
    apply w_seq
    apply wl_start
    obtain ⟨ho21,hm⟩:=chkE hm
    refine wl_batch 0 5 [] [0,6,17,21] (fS [0,6,17,21] [vS s,vI v14,vL g12 v11,vS (sub s v13 v14)]) [fun _ => 0 ≤ v13 ∧ v13 ≤ v14 ∧ v14 ≤ ln s] H20 (by decide) (by kernel_rfl) ⟨ho21,trivial⟩ fun _ _ H23 hb => ?_
    replace hS:=hS.below hb
    clear H20 hb
    have hd:=hS.hand [] [0] rfl rfl
    refine m_stp [22,0,6,17] (fS [0,6,17] [vS s,vI v14,vL g12 v11]) H23 rfl rfl rfl rfl (o_lit (T:=tS) (E:=9) (zv:=vN) [vS (sub s v13 v14)] ([sub s v13 v14] : List Str) [gL []] _ H23 hd rfl (by kernel_rfl) (by kernel_rfl) (by kernel_rfl) (by kernel_rfl) (by kernel_rfl) (by kernel_rfl) (by kernel_rfl) rfl (InnL.cons trivial InnL.nil)) (fun _ => rfl) fun _ _ v H27 hq => ?_
    clear H23 hd
    obtain ⟨g24,rfl,hq⟩:=hq
    replace hS : SH M X w [eO 9 tS ([sub s v13 v14] : List Str) g24,eO 9 tS v11 g12] _:=hS.join [] [0] rfl rfl hq
    clear hq
    obtain ⟨ho28,hm⟩:=chkE hm
    obtain ⟨q29,hq29,hm⟩:=letE hm
    have hd:=hS.hand [1,0] [] rfl rfl
    refine m_stp [23,0,6] (fS [0,6] [vS s,vI v14]) H27 rfl rfl rfl rfl (o_app2 (T:=tS) (zv:=vN) (g1:=g12) (g2:=g24) (l1:=v11) (l2:=([sub s v13 v14] : List Str)) q29 hq29.symm H27 hd rfl rfl rfl rfl rfl rfl rfl (by kernel_rfl) (by kernel_rfl) rfl rfl ho28) (fun _ => rfl) fun _ _ v H31 hq => ?_
    clear H27 hd
    obtain ⟨g32,rfl,hq⟩:=hq
    replace hS : SH M X w [eO 9 tS q29 g32,eO 9 tS ([sub s v13 v14] : List Str) g24] _:=hS.join [1,0] [] rfl rfl hq
    clear hq
    refine wl_batch 7 8 [] [0,4,6] (fS [0,4,6] [vS s,vL g32 q29,vI v14]) [] H31 (by decide) (by kernel_rfl) trivial fun _ _ H34 hb => ?_
    replace hS:=hS.below hb
    clear H31 hb
    apply wl_end rfl
    replace hS : SH M X w [eO 9 tS q29 g32] _:=hS.sel [0] rfl
    refine w_reg [] [0,4,5,6] (fS [0,4,5,6] [vS s,vL g32 q29,vI (w64 (v14 + 1)),vI v14]) [] H34 (by kernel_rfl) trivial fun _ _ H36 hb => ?_
    replace hS:=hS.below hb
    clear H34 hb
    obtain rfl:=someE hm
    exact ⟨g32,FrG.keep (ks:=[0,6,4,5]) H36 (by kernel_rfl),hS⟩
   ·rintro _ _ ⟨g38,H,hS⟩
    refine w_reg [] [0,4,5,6] (fS [0,4,5,6] [vS s,vL g38 z17.2,vI z17.1,vI (w64 (v14 + 1))]) [] H (by kernel_rfl) trivial fun _ _ H40 hb => ?_
    replace hS:=hS.below hb
    clear H hb
    exact ⟨_,Nat.lt_succ_self _,z17.2,z17.1,w64 (v14 + 1),g38,hm,FrG.keep (ks:=[0,4,5,6]) H40 (by kernel_rfl),hS⟩
 ·rintro _ _ ⟨g44,H,hS⟩
  refine s_reg [] [2,3] (fS [2,3] [vL g44 z7.1,vB (z7.2 == (ln s))]) [] H (by kernel_rfl) trivial fun _ _ H47 hb => ?_
  replace hS:=hS.below hb
  clear H hb
  apply w_ret
  obtain rfl:=someE hm
  exact retR2 H47 rfl rfl rfl ⟨_,rfl,g44,rfl,(hS.sel [0] rfl)⟩
theorem r40_Split_ok  (m : Nat) (s : Str) (r : (List Str) × Bool) (hm : r40_Split m s = some r) (M : Av) (w : World) (hS : S0 M [] w) : DoesX Tryz.prog 24 ⟨[vS s]⟩ w (fun v w' => ∃ (g901 : Gh),v = vW [vL g901 r.1,vB r.2] ∧ SH M (fpl []) w [eO 9 tS r.1 g901] w'):=⟨Tryz.call24 _,r40_Split_w M m   s r hm w hS⟩

theorem r40_number_w  (M : Av) (m : Nat) (s : Str) (r : Int × Str) (hm : r40_number m s = some r) (w : World) (hS : S0 M [] w) : Calls Tryz.prog 46 ⟨[vS s]⟩ w (fun e w' => ∃ v,e = .returned v ∧ v = vW [vI r.1,vS r.2] ∧ SH M (fpl []) w [] w'):=by
 rw [r40_number] at hm
 have hS0 : SH M (fpl []) w [] w:=hS
 generalize hX : fpl [] = X at hS0 ⊢
 clear hS hX
 have hS:=hS0
 clear hS0
 refine calls_entryP Tryz.func46 rfl Tryz.ntmps46 rfl fun _ H => ?_
 refine s_reg [] [0] [(0,[],vS s)] [] H (by kernel_rfl) trivial fun _ _ H2 hb => ?_
 replace hS:=hS.below hb
 clear H hb
 refine s_reg [] [0,4] (fS [0,4] [vS s,vI 0]) [] H2 (by kernel_rfl) trivial fun _ _ H4 hb => ?_
 replace hS:=hS.below hb
 clear H2 hb
 obtain ⟨z5,hz,hm⟩:=bindE hm
 refine w_cut (fun a' w' => Fr 69 (fS [0,4] [vS s,vI z5]) a' ∧ SH M X w [] w') ?_ ?_
 ·replace hm:=hz
  apply w_block
  refine w_loop (fun kk a' w' => ∃ (v6 : Int),r40_number_L1 m s kk v6 = some _ ∧ Fr 69 (fS [0,4] [vS s,vI v6]) a' ∧ SH M X w [] w') ⟨_,0,hm,FrG.keep (ks:=[0,4]) H4 (by kernel_rfl),hS⟩ ?_
  clear hm H4 hS
  rintro kk _ _ ⟨v6,hm,H,hS⟩
  cases kk with
  | zero => exact noneE hm
  | succ kk =>
   rw [r40_number_L1] at hm
   apply w_seq
   obtain ⟨ho7,hm⟩:=chkE hm
   obtain ⟨ho8,hm⟩:=chkE hm
   obtain ⟨ho9,hm⟩:=chkE hm
   obtain ⟨x10,hx10,hm⟩:=letE hm
   refine s_reg [] [0,4,32] (fS [0,4,32] [vS s,vI v6,vB x10]) [fun _ => ((decide (v6 < (ln s))) = true ∧ True → 0 ≤ v6 ∧ v6 < ln s),fun _ => ((decide (48 ≤ (bat s v6))) = true ∧ (decide (v6 < (ln s))) = true ∧ True → 0 ≤ v6 ∧ v6 < ln s),fun _ => ((v6 == 0) = true ∧ (cond (decide (48 ≤ (bat s v6))) (decide ((bat s v6) ≤ 57)) false) = false ∧ (decide (v6 < (ln s))) = true ∧ True → 0 ≤ v6 ∧ v6 < ln s)] H (by subst hx10; kernel_rfl) ⟨fun hg => (ho7 hg.1),fun hg => (ho8 hg.1 hg.2.1),fun hg => (ho9 hg.1 hg.2.1 hg.2.2.1),trivial⟩ fun _ _ H12 hb => ?_
   replace hS:=hS.below hb
   clear H hb
   refine w_if H12 rfl (fun hc => ?_) (fun hc => ?c15)
   case c15 =>
    replace hm:=bF hc hm
    apply w_exit rfl
    obtain rfl:=someE hm
    exact ⟨FrG.keep (ks:=[0,4]) H12 (by kernel_rfl),hS⟩
   replace hm:=bT hc hm
   apply w_skip
   apply w_block
   refine w_reg [] [0,4] (fS [0,4] [vS s,vI (w64 (v6 + 1))]) [] H12 (by kernel_rfl) trivial fun _ _ H14 hb => ?_
   replace hS:=hS.below hb
   clear H12 hb
   exact ⟨_,Nat.lt_succ_self _,w64 (v6 + 1),hm,FrG.keep (ks:=[0,4]) H14 (by kernel_rfl),hS⟩
 ·rintro _ _ ⟨H,hS⟩
  refine s_reg [] [0,4,5] (fS [0,4,5] [vS s,vI z5,vI 0]) [] H (by kernel_rfl) trivial fun _ _ H18 hb => ?_
  replace hS:=hS.below hb
  clear H hb
  obtain ⟨z19,hz,hm⟩:=bindE hm
  refine w_cut (fun a' w' => Fr 69 (fS [0,4,5] [vS s,vI z5,vI z19]) a' ∧ SH M X w [] w') ?_ ?_
  ·replace hm:=hz
   refine s_reg [] [0,4,5,6] (fS [0,4,5,6] [vS s,vI z5,vI 0,vI 0]) [] H18 (by kernel_rfl) trivial fun _ _ H21 hb => ?_
   replace hS:=hS.below hb
   clear H18 hb
   apply w_block
   refine w_loop (fun kk a' w' => ∃ (v22 : Int) (v23 : Int),r40_number_L2 m s z5 kk v22 v23 = some _ ∧ Fr 69 (fS [0,4,5,6] [vS s,vI z5,vI v22,vI v23]) a' ∧ SH M X w [] w') ⟨_,0,0,hm,FrG.keep (ks:=[0,4,5,6]) H21 (by kernel_rfl),hS⟩ ?_
   clear hm H21 hS
   rintro kk _ _ ⟨v22,v23,hm,H,hS⟩
   cases kk with
   | zero => exact noneE hm
   | succ kk =>
    rw [r40_number_L2] at hm
    apply w_seq
    obtain ⟨x24,hx24,hm⟩:=letE hm
    refine s_reg [] [0,4,5,6,41] (fS [0,4,5,6,41] [vS s,vI z5,vI v22,vI v23,vB x24]) [] H (by subst hx24; kernel_rfl) trivial fun _ _ H26 hb => ?_
    replace hS:=hS.below hb
    clear H hb
    refine w_if H26 rfl (fun hc => ?_) (fun hc => ?c38)
    case c38 =>
     replace hm:=bF hc hm
     apply w_exit rfl
     obtain rfl:=someE hm
     exact ⟨FrG.keep (ks:=[0,4,5]) H26 (by kernel_rfl),hS⟩
    replace hm:=bT hc hm
    apply w_skip
    obtain ⟨z27,hz,hm⟩:=bindE hm
    refine w_cut (fun a' w' => Fr 69 (fS [0,4,6,5] [vS s,vI z5,vI v23,vI z27]) a' ∧ SH M X w [] w') ?_ ?_
    ·replace hm:=hz
     apply w_block
     apply w_seq
     obtain ⟨ho28,hm⟩:=chkE hm
     refine s_reg [] [0,4,5,6,47] (fS [0,4,5,6,47] [vS s,vI z5,vI v22,vI v23,vB ((bat s v23) == 45)]) [fun _ => 0 ≤ v23 ∧ v23 < ln s] H26 (by kernel_rfl) ⟨ho28,trivial⟩ fun _ _ H30 hb => ?_
     replace hS:=hS.below hb
     clear H26 hb
     refine w_if H30 rfl (fun hc => ?c34) (fun hc => ?_)
     case c34 =>
      replace hm:=bT hc hm
      apply w_exit rfl
      obtain rfl:=someE hm
      exact ⟨FrG.keep (ks:=[0,4,6,5]) H30 (by kernel_rfl),hS⟩
     replace hm:=bF hc hm
     apply w_skip
     obtain ⟨x31,hx31,hm⟩:=letE hm
     refine w_reg [] [0,4,5,6] (fS [0,4,5,6] [vS s,vI z5,vI x31,vI v23]) [fun _ => 0 ≤ v23 ∧ v23 < ln s] H30 (by subst hx31; kernel_rfl) ⟨ho28,trivial⟩ fun _ _ H33 hb => ?_
     replace hS:=hS.below hb
     clear H30 hb
     obtain rfl:=someE hm
     exact ⟨FrG.keep (ks:=[0,4,6,5]) H33 (by kernel_rfl),hS⟩
    ·rintro _ _ ⟨H,hS⟩
     refine w_reg [] [0,4,5,6] (fS [0,4,5,6] [vS s,vI z5,vI z27,vI (w64 (v23 + 1))]) [] H (by kernel_rfl) trivial fun _ _ H36 hb => ?_
     replace hS:=hS.below hb
     clear H hb
     exact ⟨_,Nat.lt_succ_self _,z27,w64 (v23 + 1),hm,FrG.keep (ks:=[0,4,5,6]) H36 (by kernel_rfl),hS⟩
  ·rintro _ _ ⟨H,hS⟩
   obtain ⟨z40,hz,hm⟩:=bindE hm
   refine w_cut (fun a' w' => Fr 69 (fS [0,4,5] [vS s,vI z5,vI z40]) a' ∧ SH M X w [] w') ?_ ?_
   ·replace hm:=hz
    obtain ⟨ho41,hm⟩:=chkE hm
    refine s_reg [] [0,4,5,62] (fS [0,4,5,62] [vS s,vI z5,vI z19,vB (cond (z5 == 0) true ((bat s 0) != 45))]) [fun _ => ((z5 == 0) = false ∧ True → 0 ≤ (0 : Int) ∧ (0 : Int) < ln s)] H (by kernel_rfl) ⟨fun hg => (ho41 hg.1),trivial⟩ fun _ _ H43 hb => ?_
    replace hS:=hS.below hb
    clear H hb
    refine w_if H43 rfl (fun hc => ?_) (fun hc => ?c46)
    case c46 =>
     replace hm:=bF hc hm
     apply w_skip
     obtain rfl:=someE hm
     exact ⟨FrG.keep (ks:=[0,4,5]) H43 (by kernel_rfl),hS⟩
    replace hm:=bT hc hm
    refine w_reg [] [0,4,5] (fS [0,4,5] [vS s,vI z5,vI (w64 (0 - z19))]) [] H43 (by kernel_rfl) trivial fun _ _ H45 hb => ?_
    replace hS:=hS.below hb
    clear H43 hb
    obtain rfl:=someE hm
    exact ⟨FrG.keep (ks:=[0,4,5]) H45 (by kernel_rfl),hS⟩
   ·rintro _ _ ⟨H,hS⟩
    obtain ⟨ho47,hm⟩:=chkE hm
    refine s_draw [] [2,3] (fS [2,3] [vI z40,vS (sub s z5 (ln s))]) [fun _ => 0 ≤ z5 ∧ z5 ≤ ln s] H (by kernel_rfl) (by kernel_rfl) (by kernel_rfl) ⟨ho47,trivial⟩ fun _ _ H49 hb => ?_
    replace hS:=hS.below hb
    clear H hb
    apply w_ret
    obtain rfl:=someE hm
    exact retR2 H49 rfl rfl rfl ⟨_,rfl,rfl,(hS.sel [] rfl)⟩
theorem r40_number_ok  (m : Nat) (s : Str) (r : Int × Str) (hm : r40_number m s = some r) : Ret Tryz.prog 46 ⟨[vS s]⟩ (vW [vI r.1,vS r.2]):=retP_of (Tryz.call46 _) (fun w h => r40_number_w F0 m   s r hm w h)

theorem r40_after_w  (M : Av) (s : Str) (n_ : Int) (r : Str) (hm : r40_after s n_ = some r) (w : World) (hS : S0 M [] w) : Calls Tryz.prog 47 ⟨[vS s,vI n_]⟩ w (fun e w' => ∃ v,e = .returned v ∧ v = vS r ∧ SH M (fpl []) w [] w'):=by
 rw [r40_after] at hm
 have hS0 : SH M (fpl []) w [] w:=hS
 generalize hX : fpl [] = X at hS0 ⊢
 clear hS hX
 have hS:=hS0
 clear hS0
 refine calls_entryP Tryz.func47 rfl Tryz.ntmps47 rfl fun _ H => ?_
 refine s_reg [] [0,1] (fS [0,1] [vS s,vI n_]) [] H (by kernel_rfl) trivial fun _ _ H2 hb => ?_
 replace hS:=hS.below hb
 clear H hb
 apply w_seq
 refine s_reg [] [0,1,8] (fS [0,1,8] [vS s,vI n_,vB (decide ((ln s) < n_))]) [] H2 (by kernel_rfl) trivial fun _ _ H4 hb => ?_
 replace hS:=hS.below hb
 clear H2 hb
 refine w_if H4 rfl (fun hc => ?c10) (fun hc => ?_)
 case c10 =>
  replace hm:=bT hc hm
  refine s_reg [] [4] [(4,[],vN)] [] H4 (by kernel_rfl) trivial fun _ _ H6 hb => ?_
  replace hS:=hS.below hb
  clear H4 hb
  apply w_ret
  obtain rfl:=someE hm
  exact retR1 H6 rfl rfl ⟨_,rfl,rfl,(hS.sel [] rfl)⟩
 replace hm:=bF hc hm
 apply w_skip
 obtain ⟨ho7,hm⟩:=chkE hm
 refine s_reg [] [4] [(4,[],vS (sub s n_ (ln s)))] [fun _ => 0 ≤ n_ ∧ n_ ≤ ln s] H4 (by kernel_rfl) ⟨ho7,trivial⟩ fun _ _ H9 hb => ?_
 replace hS:=hS.below hb
 clear H4 hb
 apply w_ret
 obtain rfl:=someE hm
 exact retR1 H9 rfl rfl ⟨_,rfl,rfl,(hS.sel [] rfl)⟩
theorem r40_after_ok  (s : Str) (n_ : Int) (r : Str) (hm : r40_after s n_ = some r) : Ret Tryz.prog 47 ⟨[vS s,vI n_]⟩ (vS r):=retP_of (Tryz.call47 _) (fun w h => r40_after_w F0   s n_ r hm w h)

theorem r40_quoted_w  (M : Av) (m : Nat) (s : Str) (r : Str × Str × Bool) (hm : r40_quoted m s = some r) (w : World) (hS : S0 M [] w) : Calls Tryz.prog 48 ⟨[vS s]⟩ w (fun e w' => ∃ v,e = .returned v ∧ v = vW [vS r.1,vS r.2.1,vB r.2.2] ∧ SH M (fpl []) w [] w'):=by
 rw [r40_quoted] at hm
 have hS0 : SH M (fpl []) w [] w:=hS
 generalize hX : fpl [] = X at hS0 ⊢
 clear hS hX
 have hS:=hS0
 clear hS0
 refine calls_entryP Tryz.func48 rfl Tryz.ntmps48 rfl fun _ H => ?_
 refine s_reg [] [0] [(0,[],vS s)] [] H (by kernel_rfl) trivial fun _ _ H2 hb => ?_
 replace hS:=hS.below hb
 clear H hb
 apply w_seq
 obtain ⟨ho3,hm⟩:=chkE hm
 obtain ⟨x4,hx4,hm⟩:=letE hm
 refine s_reg [] [0,17] (fS [0,17] [vS s,vB x4]) [fun _ => (((ln s) == 0) = false ∧ True → 0 ≤ (0 : Int) ∧ (0 : Int) < ln s)] H2 (by subst hx4; kernel_rfl) ⟨fun hg => (ho3 hg.1),trivial⟩ fun _ _ H6 hb => ?_
 replace hS:=hS.below hb
 clear H2 hb
 refine w_if H6 rfl (fun hc => ?c86) (fun hc => ?_)
 case c86 =>
  replace hm:=bT hc hm
  refine s_reg [] [2,3,4] (fS [2,3,4] [vN,vN,vF]) [] H6 (by kernel_rfl) trivial fun _ _ H8 hb => ?_
  replace hS:=hS.below hb
  clear H6 hb
  apply w_ret
  obtain rfl:=someE hm
  exact retR3 H8 rfl rfl rfl rfl ⟨_,rfl,rfl,(hS.sel [] rfl)⟩
 replace hm:=bF hc hm
 apply w_skip
 refine s_reg [] [0,5] (fS [0,5] [vS s,vO]) [] H6 (by kernel_rfl) trivial fun _ _ H10 hb => ?_
 replace hS:=hS.below hb
 clear H6 hb
 obtain ⟨z11,hz,hm_z11⟩:=bindE hm
 refine w_cut (fun a' w' => ∃ s_z11 : Unit,z11 = Sum.inr s_z11 ∧ Fr 86 [] a' ∧ SH M X w [] w') ?_ ?_
 ·replace hm:=hz
  refine s_reg [] [0,5,6] (fS [0,5,6] [vS s,vO,vI 1]) [] H10 (by kernel_rfl) trivial fun _ _ H13 hb => ?_
  replace hS:=hS.below hb
  clear H10 hb
  apply w_block
  replace hS : SH M X w [eO 5 (tI .u8) ([] : List Int) (.nil)] _:=hS.addNil 5 (tI .u8)
  refine w_loop (fun kk a' w' => ∃ (v15 : List Int) (v17 : Int) (g16 : Gh),r40_quoted_L1 m s kk v15 v17 = some _ ∧ Fr 86 (fS [0,5,6] [vS s,vL g16 v15,vI v17]) a' ∧ SH M X w [eO 5 (tI .u8) v15 g16] w') ⟨_,([] : List Int),1,Gh.nil,hm,FrG.keep (ks:=[0,5,6]) H13 (by kernel_rfl),hS⟩ ?_
  clear hm H13 hS
  rintro kk _ _ ⟨v15,v17,g16,hm,H,hS⟩
  cases kk with
  | zero => exact noneE hm
  | succ kk =>
   rw [r40_quoted_L1] at hm
   apply w_seq
   refine s_reg [] [0,5,6,21] (fS [0,5,6,21] [vS s,vL g16 v15,vI v17,vB (decide (v17 < (ln s)))]) [] H (by kernel_rfl) trivial fun _ _ H19 hb => ?_
   replace hS:=hS.below hb
   clear H hb
   refine w_if H19 rfl (fun hc => ?_) (fun hc => ?c81)
   case c81 =>
    replace hm:=bF hc hm
    apply w_exit rfl
    obtain rfl:=someE hm
    replace hS : SH M X w [] _:=hS.sel [] rfl
    exact ⟨_,rfl,FrG.keep (ks:=[]) H19 (by kernel_rfl),hS⟩
   replace hm:=bT hc hm
   apply w_skip
   apply w_block
   apply w_seq
   obtain ⟨ho20,hm⟩:=chkE hm
   refine s_reg [] [0,5,6,25] (fS [0,5,6,25] [vS s,vL g16 v15,vI v17,vB ((bat s v17) == 34)]) [fun _ => 0 ≤ v17 ∧ v17 < ln s] H19 (by kernel_rfl) ⟨ho20,trivial⟩ fun _ _ H22 hb => ?_
   replace hS:=hS.below hb
   clear H19 hb
   refine w_if H22 rfl (fun hc => ?c80) (fun hc => ?_)
   case c80 =>
    replace hm:=bT hc hm
    obtain ⟨ho23,hm⟩:=chkE hm
    refine s_draw [(vS (toB v15))] [2,3,4] (fS [2,3,4] [vS (toB v15),vS (sub s (w64 (v17 + 1)) (ln s)),vT]) [fun wz => ∀ w',Below wz.heap.size wz w' → (convert 46 9 (vL g16 v15)).run Tryz.prog w' = .ok (vS (toB v15)) w',fun _ => 0 ≤ (w64 (v17 + 1)) ∧ (w64 (v17 + 1)) ≤ ln s] H22 (by kernel_rfl) (by kernel_rfl) (by kernel_rfl) ⟨(conv_slG (E:=5) (by kernel_rfl) (by kernel_rfl) (by kernel_rfl) (hS.osl 0 rfl)),ho23,trivial⟩ fun _ _ H25 hb => ?_
    replace hS:=hS.below hb
    clear H22 hb
    apply w_ret
    obtain rfl:=someE hm
    have hm:=hm_z11
    obtain rfl:=someE hm
    exact retR3 H25 rfl rfl rfl rfl ⟨_,rfl,rfl,(hS.sel [] rfl)⟩
   replace hm:=bF hc hm
   apply w_skip
   refine s_reg [] [0,5,6,7] (fS [0,5,6,7] [vS s,vL g16 v15,vI v17,vF]) [] H22 (by kernel_rfl) trivial fun _ _ H27 hb => ?_
   replace hS:=hS.below hb
   clear H22 hb
   obtain ⟨z28,hz,hm⟩:=bindE hm
   refine w_cut (fun a' w' => ∃ (g73 : Gh),Fr 86 (fS [0,5,6,7] [vS s,vL g73 z28.2.2,vI z28.1,vB z28.2.1]) a' ∧ SH M X w [eO 5 (tI .u8) z28.2.2 g73] w') ?_ ?_
   ·replace hm:=hz
    refine s_reg [] [0,5,6,7,8] (fS [0,5,6,7,8] [vS s,vL g16 v15,vI v17,vF,vI 0]) [] H27 (by kernel_rfl) trivial fun _ _ H30 hb => ?_
    replace hS:=hS.below hb
    clear H27 hb
    apply w_block
    refine w_loop (fun kk a' w' => ∃ (v31 : List Int) (v33 : Int) (v34 : Bool) (v35 : Int) (g32 : Gh),r40_quoted_L2 m s kk v31 v33 v34 v35 = some _ ∧ Fr 86 (fS [0,5,6,7,8] [vS s,vL g32 v31,vI v33,vB v34,vI v35]) a' ∧ SH M X w [eO 5 (tI .u8) v31 g32] w') ⟨_,v15,v17,false,0,g16,hm,FrG.keep (ks:=[0,5,6,7,8]) H30 (by kernel_rfl),hS⟩ ?_
    clear hm H30 hS
    rintro kk _ _ ⟨v31,v33,v34,v35,g32,hm,H,hS⟩
    cases kk with
    | zero => exact noneE hm
    | succ kk =>
     rw [r40_quoted_L2] at hm
     apply w_seq
     refine s_reg [] [0,5,6,7,8,37] (fS [0,5,6,7,8,37] [vS s,vL g32 v31,vI v33,vB v34,vI v35,vB (cond (decide (v35 < 256)) (!v34) false)]) [] H (by kernel_rfl) trivial fun _ _ H37 hb => ?_
     replace hS:=hS.below hb
     clear H hb
     refine w_if H37 rfl (fun hc => ?_) (fun hc => ?c71)
     case c71 =>
      replace hm:=bF hc hm
      apply w_exit rfl
      obtain rfl:=someE hm
      exact ⟨g32,FrG.keep (ks:=[0,5,6,7]) H37 (by kernel_rfl),hS⟩
     replace hm:=bT hc hm
     apply w_skip
     obtain ⟨z38,hz,hm⟩:=bindE hm
     refine w_cut (fun a' w' => ∃ (g67 : Gh),Fr 86 (fS [0,8,5,6,7] [vS s,vI v35,vL g67 z38.2.2,vI z38.1,vB z38.2.1]) a' ∧ SH M X w [eO 5 (tI .u8) z38.2.2 g67] w') ?_ ?_
     ·replace hm:=hz
      apply w_block
      obtain ⟨y39,hy39,hm⟩:=bindE hm
      refine s_reg [(vS y39)] [0,5,6,7,8,9] (fS [0,5,6,7,8,9] [vS s,vL g32 v31,vI v33,vB v34,vI v35,vS y39]) [rB 55 [vU (wu8 v35)] (vS y39)] H37 (by kernel_rfl) ⟨((r40_Char_ok _ _ hy39).b),trivial⟩ fun _ _ H41 hb => ?_
      replace hS:=hS.below hb
      clear H37 hb
      obtain ⟨ho42,hm⟩:=chkE hm
      obtain ⟨x43,hx43,hm⟩:=letE hm
      obtain ⟨x44,hx44,hm⟩:=letE hm
      obtain ⟨ho45,hm⟩:=chkE hm
      obtain ⟨x46,hx46,hm⟩:=letE hm
      refine s_reg [] [0,5,6,7,8,9,74] (fS [0,5,6,7,8,9,74] [vS s,vL g32 v31,vI v33,vB v34,vI v35,vS y39,vB x46]) [fun _ => 0 ≤ v33 ∧ v33 < ln s,fun _ => (((bat s v33) == (wu8 v35)) = false ∧ True → 0 ≤ v33 ∧ v33 < ln s),fun _ => (x44 = true ∧ True → 0 ≤ v33 ∧ v33 ≤ (w64 (v33 + (ln y39))) ∧ (w64 (v33 + (ln y39))) ≤ ln s)] H41 (by subst hx43 hx44 hx46; kernel_rfl) ⟨ho42,fun hg => ho42,fun hg => (ho45 hg.1),trivial⟩ fun _ _ H48 hb => ?_
      replace hS:=hS.below hb
      clear H41 hb
      refine w_if H48 rfl (fun hc => ?_) (fun hc => ?c66)
      case c66 =>
       replace hm:=bF hc hm
       apply w_skip
       obtain rfl:=someE hm
       exact ⟨g32,FrG.keep (ks:=[0,8,5,6,7]) H48 (by kernel_rfl),hS⟩
      replace hm:=bT hc hm
      apply w_seq
      apply wl_start
      refine wl_batch 0 3 [] [0,6,8,9,75,77] (fS [0,6,8,9,75,77] [vS s,vI v33,vI v35,vS y39,vL g32 v31,vU (wu8 v35)]) [] H48 (by decide) (by kernel_rfl) trivial fun _ _ H50 hb => ?_
      replace hS:=hS.below hb
      clear H48 hb
      have hd:=hS.hand [] [0] rfl rfl
      refine m_stp [78,0,6,8,9,75] (fS [0,6,8,9,75] [vS s,vI v33,vI v35,vS y39,vL g32 v31]) H50 rfl rfl rfl rfl (o_lit (T:=(tI .u8)) (E:=5) (zv:=vU 0) [vU (wu8 v35)] ([wu8 v35] : List Int) [gL []] _ H50 hd rfl (by kernel_rfl) (by kernel_rfl) (by kernel_rfl) (by kernel_rfl) (by kernel_rfl) (by kernel_rfl) (by kernel_rfl) rfl (InnL.cons trivial InnL.nil)) (fun _ => rfl) fun _ _ v H54 hq => ?_
      clear H50 hd
      obtain ⟨g51,rfl,hq⟩:=hq
      replace hS : SH M X w [eO 5 (tI .u8) ([wu8 v35] : List Int) g51,eO 5 (tI .u8) v31 g32] _:=hS.join [] [0] rfl rfl hq
      clear hq
      obtain ⟨ho55,hm⟩:=chkE hm
      obtain ⟨q56,hq56,hm⟩:=letE hm
      have hd:=hS.hand [1,0] [] rfl rfl
      refine m_stp [79,0,6,8,9] (fS [0,6,8,9] [vS s,vI v33,vI v35,vS y39]) H54 rfl rfl rfl rfl (o_app2 (T:=(tI .u8)) (zv:=vU 0) (g1:=g32) (g2:=g51) (l1:=v31) (l2:=([wu8 v35] : List Int)) q56 hq56.symm H54 hd rfl rfl rfl rfl rfl rfl rfl (by kernel_rfl) (by kernel_rfl) rfl rfl ho55) (fun _ => rfl) fun _ _ v H58 hq => ?_
      clear H54 hd
      obtain ⟨g59,rfl,hq⟩:=hq
      replace hS : SH M X w [eO 5 (tI .u8) q56 g59,eO 5 (tI .u8) ([wu8 v35] : List Int) g51] _:=hS.join [1,0] [] rfl rfl hq
      clear hq
      refine wl_batch 5 6 [] [0,5,6,8,9] (fS [0,5,6,8,9] [vS s,vL g59 q56,vI v33,vI v35,vS y39]) [] H58 (by decide) (by kernel_rfl) trivial fun _ _ H61 hb => ?_
      replace hS:=hS.below hb
      clear H58 hb
      apply wl_end rfl
      replace hS : SH M X w [eO 5 (tI .u8) q56 g59] _:=hS.sel [0] rfl
      refine s_reg [] [0,5,6,8] (fS [0,5,6,8] [vS s,vL g59 q56,vI (w64 (v33 + (ln y39))),vI v35]) [] H61 (by kernel_rfl) trivial fun _ _ H63 hb => ?_
      replace hS:=hS.below hb
      clear H61 hb
      refine w_reg [] [0,5,6,7,8] (fS [0,5,6,7,8] [vS s,vL g59 q56,vI (w64 (v33 + (ln y39))),vT,vI v35]) [] H63 (by kernel_rfl) trivial fun _ _ H65 hb => ?_
      replace hS:=hS.below hb
      clear H63 hb
      obtain rfl:=someE hm
      exact ⟨g59,FrG.keep (ks:=[0,8,5,6,7]) H65 (by kernel_rfl),hS⟩
     ·rintro _ _ ⟨g67,H,hS⟩
      refine w_reg [] [0,5,6,7,8] (fS [0,5,6,7,8] [vS s,vL g67 z38.2.2,vI z38.1,vB z38.2.1,vI (w64 (v35 + 1))]) [] H (by kernel_rfl) trivial fun _ _ H69 hb => ?_
      replace hS:=hS.below hb
      clear H hb
      exact ⟨_,Nat.lt_succ_self _,z38.2.2,z38.1,z38.2.1,w64 (v35 + 1),g67,hm,FrG.keep (ks:=[0,5,6,7,8]) H69 (by kernel_rfl),hS⟩
   ·rintro _ _ ⟨g73,H,hS⟩
    refine s_reg [] [0,5,6,85] (fS [0,5,6,85] [vS s,vL g73 z28.2.2,vI z28.1,vB (!z28.2.1)]) [] H (by kernel_rfl) trivial fun _ _ H75 hb => ?_
    replace hS:=hS.below hb
    clear H hb
    refine w_if H75 rfl (fun hc => ?_) (fun hc => ?c78)
    case c78 =>
     replace hm:=bF hc hm
     apply w_skip
     exact ⟨_,Nat.lt_succ_self _,z28.2.2,z28.1,g73,hm,FrG.keep (ks:=[0,5,6]) H75 (by kernel_rfl),hS⟩
    replace hm:=bT hc hm
    refine s_reg [] [2,3,4] (fS [2,3,4] [vN,vN,vF]) [] H75 (by kernel_rfl) trivial fun _ _ H77 hb => ?_
    replace hS:=hS.below hb
    clear H75 hb
    apply w_ret
    obtain rfl:=someE hm
    have hm:=hm_z11
    obtain rfl:=someE hm
    exact retR3 H77 rfl rfl rfl rfl ⟨_,rfl,rfl,(hS.sel [] rfl)⟩
 ·rintro _ _ ⟨s_z11,hz,H,hS⟩
  subst hz
  replace hm:=sumR hm_z11
  refine s_reg [] [2,3,4] (fS [2,3,4] [vN,vN,vF]) [] H (by kernel_rfl) trivial fun _ _ H84 hb => ?_
  replace hS:=hS.below hb
  clear H hb
  apply w_ret
  obtain rfl:=someE hm
  exact retR3 H84 rfl rfl rfl rfl ⟨_,rfl,rfl,(hS.sel [] rfl)⟩
theorem r40_quoted_ok  (m : Nat) (s : Str) (r : Str × Str × Bool) (hm : r40_quoted m s = some r) : Ret Tryz.prog 48 ⟨[vS s]⟩ (vW [vS r.1,vS r.2.1,vB r.2.2]):=retP_of (Tryz.call48 _) (fun w h => r40_quoted_w F0 m   s r hm w h)

theorem r40_ReadLine_w  (M : Av) (m : Nat) (s : Str) (r : TAnswer × Int) (hm : r40_ReadLine m s = some r) (w : World) (hS : S0 M [] w) : Calls Tryz.prog 25 ⟨[vS s]⟩ w (fun e w' => ∃ v,e = .returned v ∧ ∃ (g901 : Gh) (g903 : Gh),v = vW [vG [vI r.1.Err,vI r.1.Num,.slice g901.a r.1.Texts.length g901.c,.slice g903.a r.1.Numbers.length g903.c],vI r.2] ∧ SH M (fpl []) w [eO 9 tS r.1.Texts g901,eO 3 (tI .i64) r.1.Numbers g903] w'):=by
 rw [r40_ReadLine] at hm
 have hS0 : SH M (fpl []) w [] w:=hS
 generalize hX : fpl [] = X at hS0 ⊢
 clear hS hX
 have hS:=hS0
 clear hS0
 refine calls_entryP Tryz.func25 rfl Tryz.ntmps25 rfl fun _ H => ?_
 apply w_seq
 apply wl_start
 have hd:=hS.hand [] [] rfl rfl
 refine m_stp [2,0] [(0,[],vS s)] H rfl rfl rfl rfl (o_alloc [vI 0,vI 0,vO,vO] (z:=vG [vI 0,vI 0,vO,vO]) hd (by kernel_rfl) rfl) (fun _ => rfl) fun _ _ v H3 hq => ?_
 clear H hd
 obtain ⟨b1,rfl,hq⟩:=hq
 replace hS : SH M X w [eB b1 [vI 0,vI 0,vO,vO]] _:=hS.join [] [] rfl rfl hq
 clear hq
 refine wl_batch 1 2 [] [0,2] (fS [0,2] [vS s,vP b1]) [] H3 (by decide) (by kernel_rfl) trivial fun _ _ H5 hb => ?_
 replace hS:=hS.below hb
 clear H3 hb
 apply wl_end rfl
 apply w_seq
 refine s_reg [] [0,2,12] (fS [0,2,12] [vS s,vP b1,vB (decide (90000 < (ln s)))]) [] H5 (by kernel_rfl) trivial fun _ _ H7 hb => ?_
 replace hS:=hS.below hb
 clear H5 hb
 refine w_if H7 rfl (fun hc => ?c157) (fun hc => ?_)
 case c157 =>
  replace hm:=bT hc hm
  apply w_seq
  apply wl_start
  refine wl_batch 0 1 [] [2,13] (fS [2,13] [vP b1,vG [vI 0,vI 0,vO,vO]]) [] H7 (by decide) (by kernel_rfl) trivial fun _ _ H9 hb => ?_
  replace hS:=hS.below hb
  clear H7 hb
  have hd:=hS.hand [0] [] rfl rfl
  refine m_stp0 [2] [(2,[],vP b1)] H9 rfl rfl rfl (o_store [vI 0,vI 0,vO,vO] H9 hd rfl rfl (by kernel_rfl) rfl rfl rfl) rfl fun _ _ H11 hq => ?_
  clear H9 hd
  obtain ⟨_,hq⟩:=hq
  replace hS : SH M X w [eB b1 [vI 0,vI 0,vO,vO]] _:=hS.join [0] [] rfl rfl hq
  clear hq
  refine wl_batch 2 3 [] [2,3] (fS [2,3] [vP b1,vI 28]) [] H11 (by decide) (by kernel_rfl) trivial fun _ _ H13 hb => ?_
  replace hS:=hS.below hb
  clear H11 hb
  apply wl_end rfl
  apply w_ret
  obtain rfl:=someE hm
  replace hS : SH M X w [eO 9 tS ([] : List Str) (.nil),eB b1 [vI 0,vI 0,vO,vO]] _:=hS.addNil 9 tS
  replace hS : SH M X w [eO 3 (tI .i64) ([] : List Int) (.nil),eO 9 tS ([] : List Str) (.nil),eB b1 [vI 0,vI 0,vO,vO]] _:=hS.addNil 3 (tI .i64)
  exact retR2 H13 rfl (oneRes_agg rfl (hS.bk 2 rfl) Tryz.underlying43 rfl (by kernel_rfl)) rfl ⟨_,rfl,Gh.nil,Gh.nil,rfl,(hS.sel [1,0] rfl)⟩
 replace hm:=bF hc hm
 apply w_skip
 apply w_seq
 apply wl_start
 have hd:=hS.hand [] [0] rfl rfl
 refine m_stp [4,0,2] (fS [0,2] [vS s,vP b1]) H7 rfl rfl rfl rfl (o_alloc [vI 0,vI 0,vO,vO] (z:=vG [vI 0,vI 0,vO,vO]) hd (by kernel_rfl) rfl) (fun _ => rfl) fun _ _ v H18 hq => ?_
 clear H7 hd
 obtain ⟨b16,rfl,hq⟩:=hq
 replace hS : SH M X w [eB b16 [vI 0,vI 0,vO,vO],eB b1 [vI 0,vI 0,vO,vO]] _:=hS.join [] [0] rfl rfl hq
 clear hq
 apply wl_end rfl
 obtain ⟨y19,hy19,hm⟩:=bindE hm
 refine s_reg [(vW [vI y19.1,vS y19.2])] [0,2,4,5,6] (fS [0,2,4,5,6] [vS s,vP b1,vP b16,vI y19.1,vS y19.2]) [rB 46 [vS s] (vW [vI y19.1,vS y19.2])] H18 (by kernel_rfl) ⟨((r40_number_ok m _ _ hy19).b),trivial⟩ fun _ _ H21 hb => ?_
 replace hS:=hS.below hb
 clear H18 hb
 apply w_seq
 apply wl_start
 refine wl_batch 0 2 [] [0,2,4,6,19,20] (fS [0,2,4,6,19,20] [vS s,vP b1,vP b16,vS y19.2,vI y19.1,vP b16]) [] H21 (by decide) (by kernel_rfl) trivial fun _ _ H23 hb => ?_
 replace hS:=hS.below hb
 clear H21 hb
 have hd:=hS.hand [0] [1] rfl rfl
 refine m_stp0 [0,2,4,6] (fS [0,2,4,6] [vS s,vP b1,vP b16,vS y19.2]) H23 rfl rfl rfl (o_store [vI y19.1,vI 0,vO,vO] H23 hd rfl rfl (by kernel_rfl) rfl rfl rfl) rfl fun _ _ H25 hq => ?_
 clear H23 hd
 obtain ⟨_,hq⟩:=hq
 replace hS : SH M X w [eB b16 [vI y19.1,vI 0,vO,vO],eB b1 [vI 0,vI 0,vO,vO]] _:=hS.join [0] [1] rfl rfl hq
 clear hq
 apply wl_end rfl
 apply w_seq
 apply wl_start
 obtain ⟨y26,hy26,hm⟩:=bindE hm
 obtain ⟨y27,hy27,hm⟩:=bindE hm
 refine wl_batch 0 7 [(vS y26),(vW [vI y27.1,vS y27.2])] [0,2,4,25,26,27] (fS [0,2,4,25,26,27] [vS s,vP b1,vP b16,vI y27.1,vS y27.2,vA b16 1]) [rB 47 [vS y19.2,vI 1] (vS y26),rB 46 [vS y26] (vW [vI y27.1,vS y27.2])] H25 (by decide) (by kernel_rfl) ⟨((r40_after_ok _ _ _ hy26).b),((r40_number_ok m _ _ hy27).b),trivial⟩ fun _ _ H29 hb => ?_
 replace hS:=hS.below hb
 clear H25 hb
 have hd:=hS.hand [0] [1] rfl rfl
 refine m_stp0 [0,2,4,26] (fS [0,2,4,26] [vS s,vP b1,vP b16,vS y27.2]) H29 rfl rfl rfl (o_store [vI y19.1,vI y27.1,vO,vO] H29 hd rfl rfl (by kernel_rfl) rfl rfl rfl) rfl fun _ _ H31 hq => ?_
 clear H29 hd
 obtain ⟨_,hq⟩:=hq
 replace hS : SH M X w [eB b16 [vI y19.1,vI y27.1,vO,vO],eB b1 [vI 0,vI 0,vO,vO]] _:=hS.join [0] [1] rfl rfl hq
 clear hq
 refine wl_batch 8 9 [] [0,2,4,6] (fS [0,2,4,6] [vS s,vP b1,vP b16,vS y27.2]) [] H31 (by decide) (by kernel_rfl) trivial fun _ _ H33 hb => ?_
 replace hS:=hS.below hb
 clear H31 hb
 apply wl_end rfl
 obtain ⟨y34,hy34,hm⟩:=bindE hm
 refine s_reg [(vS y34)] [0,2,4,6] (fS [0,2,4,6] [vS s,vP b1,vP b16,vS y34]) [rB 47 [vS y27.2,vI 2] (vS y34)] H33 (by kernel_rfl) ⟨((r40_after_ok _ _ _ hy34).b),trivial⟩ fun _ _ H36 hb => ?_
 replace hS:=hS.below hb
 clear H33 hb
 obtain ⟨z37,hz,hm_z37⟩:=bindE hm
 refine w_cut (fun a' w' => ∃ s_z37 : Str × (List Str),z37 = Sum.inr s_z37 ∧ ∃ (g87 : Gh),Fr 119 (fS [0,2,4,6] [vS s,vP b1,vP b16,vS s_z37.1]) a' ∧ SH M X w [eO 9 tS s_z37.2 g87,eB b16 [vI y19.1,vI y27.1,.slice g87.a s_z37.2.length g87.c,vO],eB b1 [vI 0,vI 0,vO,vO]] w') ?_ ?_
 ·replace hm:=hz
  apply w_block
  replace hS : SH M X w [eO 9 tS ([] : List Str) (.nil),eB b16 [vI y19.1,vI y27.1,vO,vO],eB b1 [vI 0,vI 0,vO,vO]] _:=hS.addNil 9 tS
  refine w_loop (fun kk a' w' => ∃ (v39 : Str) (v40 : List Str) (g41 : Gh),r40_ReadLine_L1 m  kk v39 v40 = some _ ∧ Fr 119 (fS [0,2,4,6] [vS s,vP b1,vP b16,vS v39]) a' ∧ SH M X w [eO 9 tS v40 g41,eB b16 [vI y19.1,vI y27.1,.slice g41.a v40.length g41.c,vO],eB b1 [vI 0,vI 0,vO,vO]] w') ⟨_,y34,([] : List Str),Gh.nil,hm,FrG.keep (ks:=[0,2,4,6]) H36 (by kernel_rfl),hS⟩ ?_
  clear hm H36 hS
  rintro kk _ _ ⟨v39,v40,g41,hm,H,hS⟩
  cases kk with
  | zero => exact noneE hm
  | succ kk =>
   rw [r40_ReadLine_L1] at hm
   apply w_seq
   obtain ⟨ho42,hm⟩:=chkE hm
   obtain ⟨x43,hx43,hm⟩:=letE hm
   refine s_reg [(.slice g41.a v40.length g41.c)] [0,2,4,6,43] (fS [0,2,4,6,43] [vS s,vP b1,vP b16,vS v39,vB (cond x43 (decide ((ln v40) ≤ 64)) false)]) [fun _ => ((decide (0 < (ln v39))) = true ∧ True → 0 ≤ (0 : Int) ∧ (0 : Int) < ln v39),fun wz => (x43 = true ∧ True → V.at1 ⟨b16,2,none⟩ (.slice g41.a v40.length g41.c) wz)] H (by subst hx43; kernel_rfl) ⟨fun hg => (ho42 hg.1),fun hg => (hS.bk 1 rfl).at1 rfl,trivial⟩ fun _ _ H45 hb => ?_
   replace hS:=hS.below hb
   clear H hb
   refine w_if H45 rfl (fun hc => ?_) (fun hc => ?c85)
   case c85 =>
    replace hm:=bF hc hm
    apply w_exit rfl
    obtain rfl:=someE hm
    exact ⟨_,rfl,g41,FrG.keep (ks:=[0,2,4,6]) H45 (by kernel_rfl),hS⟩
   replace hm:=bT hc hm
   apply w_skip
   apply w_block
   obtain ⟨y46,hy46,hm⟩:=bindE hm
   refine s_reg [(vW [vS y46.1,vS y46.2.1,vB y46.2.2])] [0,2,4,7,8,9] (fS [0,2,4,7,8,9] [vS s,vP b1,vP b16,vS y46.1,vS y46.2.1,vB y46.2.2]) [rB 48 [vS v39] (vW [vS y46.1,vS y46.2.1,vB y46.2.2])] H45 (by kernel_rfl) ⟨((r40_quoted_ok m _ _ hy46).b),trivial⟩ fun _ _ H48 hb => ?_
   replace hS:=hS.below hb
   clear H45 hb
   apply w_seq
   refine s_reg [] [0,2,4,7,8,51] (fS [0,2,4,7,8,51] [vS s,vP b1,vP b16,vS y46.1,vS y46.2.1,vB (!y46.2.2)]) [] H48 (by kernel_rfl) trivial fun _ _ H50 hb => ?_
   replace hS:=hS.below hb
   clear H48 hb
   refine w_if H50 rfl (fun hc => ?c84) (fun hc => ?_)
   case c84 =>
    replace hm:=bT hc hm
    apply w_seq
    apply wl_start
    refine wl_batch 0 1 [] [2,52] (fS [2,52] [vP b1,vG [vI 0,vI 0,vO,vO]]) [] H50 (by decide) (by kernel_rfl) trivial fun _ _ H52 hb => ?_
    replace hS:=hS.below hb
    clear H50 hb
    have hd:=hS.hand [2] [0,1] rfl rfl
    refine m_stp0 [2] [(2,[],vP b1)] H52 rfl rfl rfl (o_store [vI 0,vI 0,vO,vO] H52 hd rfl rfl (by kernel_rfl) rfl rfl rfl) rfl fun _ _ H54 hq => ?_
    clear H52 hd
    obtain ⟨_,hq⟩:=hq
    replace hS : SH M X w [eB b1 [vI 0,vI 0,vO,vO],eO 9 tS v40 g41,eB b16 [vI y19.1,vI y27.1,.slice g41.a v40.length g41.c,vO]] _:=hS.join [2] [0,1] rfl rfl hq
    clear hq
    refine wl_batch 2 3 [] [2,3] (fS [2,3] [vP b1,vI 12]) [] H54 (by decide) (by kernel_rfl) trivial fun _ _ H56 hb => ?_
    replace hS:=hS.below hb
    clear H54 hb
    apply wl_end rfl
    apply w_ret
    obtain rfl:=someE hm
    have hm:=hm_z37
    obtain rfl:=someE hm
    replace hS : SH M X w [eO 9 tS ([] : List Str) (.nil),eB b1 [vI 0,vI 0,vO,vO],eO 9 tS v40 g41,eB b16 [vI y19.1,vI y27.1,.slice g41.a v40.length g41.c,vO]] _:=hS.addNil 9 tS
    replace hS : SH M X w [eO 3 (tI .i64) ([] : List Int) (.nil),eO 9 tS ([] : List Str) (.nil),eB b1 [vI 0,vI 0,vO,vO],eO 9 tS v40 g41,eB b16 [vI y19.1,vI y27.1,.slice g41.a v40.length g41.c,vO]] _:=hS.addNil 3 (tI .i64)
    exact retR2 H56 rfl (oneRes_agg rfl (hS.bk 2 rfl) Tryz.underlying43 rfl (by kernel_rfl)) rfl ⟨_,rfl,Gh.nil,Gh.nil,rfl,(hS.sel [1,0] rfl)⟩
   replace hm:=bF hc hm
   apply w_skip
   apply w_seq
   apply wl_start
   refine wl_batch 0 3 [(.slice g41.a v40.length g41.c)] [0,2,4,8,54,55] (fS [0,2,4,8,54,55] [vS s,vP b1,vP b16,vS y46.2.1,.slice g41.a v40.length g41.c,vS y46.1]) [rA b16 2 (.slice g41.a v40.length g41.c)] H50 (by decide) (by kernel_rfl) ⟨((hS.bk 1 rfl).at1 rfl),trivial⟩ fun _ _ H60 hb => ?_
   replace hS:=hS.below hb
   clear H50 hb
   have hd:=hS.hand [] [0,1,2] rfl rfl
   refine m_stp [56,0,2,4,8,54] (fS [0,2,4,8,54] [vS s,vP b1,vP b16,vS y46.2.1,.slice g41.a v40.length g41.c]) H60 rfl rfl rfl rfl (o_lit (T:=tS) (E:=9) (zv:=vN) [vS y46.1] ([y46.1] : List Str) [gL []] _ H60 hd rfl (by kernel_rfl) (by kernel_rfl) (by kernel_rfl) (by kernel_rfl) (by kernel_rfl) (by kernel_rfl) (by kernel_rfl) rfl (InnL.cons trivial InnL.nil)) (fun _ => rfl) fun _ _ v H64 hq => ?_
   clear H60 hd
   obtain ⟨g61,rfl,hq⟩:=hq
   replace hS : SH M X w [eO 9 tS ([y46.1] : List Str) g61,eO 9 tS v40 g41,eB b16 [vI y19.1,vI y27.1,.slice g41.a v40.length g41.c,vO],eB b1 [vI 0,vI 0,vO,vO]] _:=hS.join [] [0,1,2] rfl rfl hq
   clear hq
   obtain ⟨ho65,hm⟩:=chkE hm
   obtain ⟨q66,hq66,hm⟩:=letE hm
   have hd:=hS.hand [1,0] [2,3] rfl rfl
   refine m_stp [57,0,2,4,8] (fS [0,2,4,8] [vS s,vP b1,vP b16,vS y46.2.1]) H64 rfl rfl rfl rfl (o_app2 (T:=tS) (zv:=vN) (g1:=g41) (g2:=g61) (l1:=v40) (l2:=([y46.1] : List Str)) q66 hq66.symm H64 hd rfl rfl rfl rfl rfl rfl rfl (by kernel_rfl) (by kernel_rfl) rfl rfl ho65) (fun _ => rfl) fun _ _ v H68 hq => ?_
   clear H64 hd
   obtain ⟨g69,rfl,hq⟩:=hq
   replace hS : SH M X w [eO 9 tS q66 g69,eO 9 tS ([y46.1] : List Str) g61,eB b16 [vI y19.1,vI y27.1,.slice g41.a v40.length g41.c,vO],eB b1 [vI 0,vI 0,vO,vO]] _:=hS.join [1,0] [2,3] rfl rfl hq
   clear hq
   refine wl_batch 5 6 [] [0,2,4,8,57,58] (fS [0,2,4,8,57,58] [vS s,vP b1,vP b16,vS y46.2.1,.slice g69.a q66.length g69.c,vA b16 2]) [] H68 (by decide) (by kernel_rfl) trivial fun _ _ H71 hb => ?_
   replace hS:=hS.below hb
   clear H68 hb
   have hd:=hS.hand [2] [0,1,3] rfl rfl
   refine m_stp0 [0,2,4,8] (fS [0,2,4,8] [vS s,vP b1,vP b16,vS y46.2.1]) H71 rfl rfl rfl (o_store [vI y19.1,vI y27.1,.slice g69.a q66.length g69.c,vO] H71 hd rfl rfl (by kernel_rfl) rfl rfl rfl) rfl fun _ _ H73 hq => ?_
   clear H71 hd
   obtain ⟨_,hq⟩:=hq
   replace hS : SH M X w [eB b16 [vI y19.1,vI y27.1,.slice g69.a q66.length g69.c,vO],eO 9 tS q66 g69,eO 9 tS ([y46.1] : List Str) g61,eB b1 [vI 0,vI 0,vO,vO]] _:=hS.join [2] [0,1,3] rfl rfl hq
   clear hq
   apply wl_end rfl
   replace hS : SH M X w [eB b16 [vI y19.1,vI y27.1,.slice g69.a q66.length g69.c,vO],eO 9 tS q66 g69,eB b1 [vI 0,vI 0,vO,vO]] _:=hS.sel [0,1,3] rfl
   refine s_reg [] [0,2,4,6] (fS [0,2,4,6] [vS s,vP b1,vP b16,vS y46.2.1]) [] H73 (by kernel_rfl) trivial fun _ _ H75 hb => ?_
   replace hS:=hS.below hb
   clear H73 hb
   obtain ⟨ho76,hm⟩:=chkE hm
   obtain ⟨x77,hx77,hm⟩:=letE hm
   refine s_reg [] [0,2,4,6,67] (fS [0,2,4,6,67] [vS s,vP b1,vP b16,vS y46.2.1,vB x77]) [fun _ => ((decide (0 < (ln y46.2.1))) = true ∧ True → 0 ≤ (0 : Int) ∧ (0 : Int) < ln y46.2.1)] H75 (by subst hx77; kernel_rfl) ⟨fun hg => (ho76 hg.1),trivial⟩ fun _ _ H79 hb => ?_
   replace hS:=hS.below hb
   clear H75 hb
   refine w_if H79 rfl (fun hc => ?_) (fun hc => ?c83)
   case c83 =>
    replace hm:=bF hc hm
    apply w_skip
    replace hS : SH M X w [eO 9 tS q66 g69,eB b16 [vI y19.1,vI y27.1,.slice g69.a q66.length g69.c,vO],eB b1 [vI 0,vI 0,vO,vO]] _:=hS.sel [1,0,2] rfl
    exact ⟨_,Nat.lt_succ_self _,y46.2.1,q66,g69,hm,FrG.keep (ks:=[0,2,4,6]) H79 (by kernel_rfl),hS⟩
   replace hm:=bT hc hm
   obtain ⟨y80,hy80,hm⟩:=bindE hm
   refine w_reg [(vS y80)] [0,2,4,6] (fS [0,2,4,6] [vS s,vP b1,vP b16,vS y80]) [rB 47 [vS y46.2.1,vI 2] (vS y80)] H79 (by kernel_rfl) ⟨((r40_after_ok _ _ _ hy80).b),trivial⟩ fun _ _ H82 hb => ?_
   replace hS:=hS.below hb
   clear H79 hb
   replace hS : SH M X w [eO 9 tS q66 g69,eB b16 [vI y19.1,vI y27.1,.slice g69.a q66.length g69.c,vO],eB b1 [vI 0,vI 0,vO,vO]] _:=hS.sel [1,0,2] rfl
   exact ⟨_,Nat.lt_succ_self _,y80,q66,g69,hm,FrG.keep (ks:=[0,2,4,6]) H82 (by kernel_rfl),hS⟩
 ·rintro _ _ ⟨s_z37,hz,g87,H,hS⟩
  subst hz
  replace hm:=sumR hm_z37
  obtain ⟨y89,hy89,hm⟩:=bindE hm
  refine s_reg [(vS y89)] [0,2,4,6] (fS [0,2,4,6] [vS s,vP b1,vP b16,vS y89]) [rB 47 [vS s_z37.1,vI 3] (vS y89)] H (by kernel_rfl) ⟨((r40_after_ok _ _ _ hy89).b),trivial⟩ fun _ _ H91 hb => ?_
  replace hS:=hS.below hb
  clear H hb
  obtain ⟨z92,hz,hm⟩:=bindE hm
  refine w_cut (fun a' w' => ∃ (g134 : Gh),Fr 119 (fS [0,2,4] [vS s,vP b1,vP b16]) a' ∧ SH M X w [eO 3 (tI .i64) z92 g134,eO 9 tS s_z37.2 g87,eB b16 [vI y19.1,vI y27.1,.slice g87.a s_z37.2.length g87.c,.slice g134.a z92.length g134.c],eB b1 [vI 0,vI 0,vO,vO]] w') ?_ ?_
  ·replace hm:=hz
   apply w_block
   replace hS : SH M X w [eO 3 (tI .i64) ([] : List Int) (.nil),eO 9 tS s_z37.2 g87,eB b16 [vI y19.1,vI y27.1,.slice g87.a s_z37.2.length g87.c,vO],eB b1 [vI 0,vI 0,vO,vO]] _:=hS.addNil 3 (tI .i64)
   refine w_loop (fun kk a' w' => ∃ (v94 : Str) (v95 : List Int) (g96 : Gh),r40_ReadLine_L2 m  kk v94 v95 = some _ ∧ Fr 119 (fS [0,2,4,6] [vS s,vP b1,vP b16,vS v94]) a' ∧ SH M X w [eO 3 (tI .i64) v95 g96,eO 9 tS s_z37.2 g87,eB b16 [vI y19.1,vI y27.1,.slice g87.a s_z37.2.length g87.c,.slice g96.a v95.length g96.c],eB b1 [vI 0,vI 0,vO,vO]] w') ⟨_,y89,([] : List Int),Gh.nil,hm,FrG.keep (ks:=[0,2,4,6]) H91 (by kernel_rfl),hS⟩ ?_
   clear hm H91 hS
   rintro kk _ _ ⟨v94,v95,g96,hm,H,hS⟩
   cases kk with
   | zero => exact noneE hm
   | succ kk =>
    rw [r40_ReadLine_L2] at hm
    apply w_seq
    obtain ⟨x97,hx97,hm⟩:=letE hm
    refine s_reg [(.slice g96.a v95.length g96.c)] [0,2,4,6,80] (fS [0,2,4,6,80] [vS s,vP b1,vP b16,vS v94,vB x97]) [fun wz => ((decide (1 < (ln v94))) = true ∧ True → V.at1 ⟨b16,3,none⟩ (.slice g96.a v95.length g96.c) wz)] H (by subst hx97; kernel_rfl) ⟨fun hg => (hS.bk 2 rfl).at1 rfl,trivial⟩ fun _ _ H99 hb => ?_
    replace hS:=hS.below hb
    clear H hb
    refine w_if H99 rfl (fun hc => ?_) (fun hc => ?c132)
    case c132 =>
     replace hm:=bF hc hm
     apply w_exit rfl
     obtain rfl:=someE hm
     exact ⟨g96,FrG.keep (ks:=[0,2,4]) H99 (by kernel_rfl),hS⟩
    replace hm:=bT hc hm
    apply w_skip
    apply w_block
    apply w_seq
    apply wl_start
    refine wl_batch 0 2 [(.slice g96.a v95.length g96.c)] [0,2,4,6,82] (fS [0,2,4,6,82] [vS s,vP b1,vP b16,vS v94,.slice g96.a v95.length g96.c]) [rA b16 3 (.slice g96.a v95.length g96.c)] H99 (by decide) (by kernel_rfl) ⟨((hS.bk 2 rfl).at1 rfl),trivial⟩ fun _ _ H101 hb => ?_
    replace hS:=hS.below hb
    clear H99 hb
    have hd:=hS.hand [] [0,1,2,3] rfl rfl
    refine m_stp [83,0,2,4,6,82] (fS [0,2,4,6,82] [vS s,vP b1,vP b16,vS v94,.slice g96.a v95.length g96.c]) H101 rfl rfl rfl rfl (o_lit (T:=(tI .i64)) (E:=3) (zv:=vI 0) [vI 0] ([0] : List Int) [gL []] _ H101 hd rfl (by kernel_rfl) (by kernel_rfl) (by kernel_rfl) (by kernel_rfl) (by kernel_rfl) (by kernel_rfl) (by kernel_rfl) rfl (InnL.cons trivial InnL.nil)) (fun _ => rfl) fun _ _ v H105 hq => ?_
    clear H101 hd
    obtain ⟨g102,rfl,hq⟩:=hq
    replace hS : SH M X w [eO 3 (tI .i64) ([0] : List Int) g102,eO 3 (tI .i64) v95 g96,eO 9 tS s_z37.2 g87,eB b16 [vI y19.1,vI y27.1,.slice g87.a s_z37.2.length g87.c,.slice g96.a v95.length g96.c],eB b1 [vI 0,vI 0,vO,vO]] _:=hS.join [] [0,1,2,3] rfl rfl hq
    clear hq
    obtain ⟨ho106,hm⟩:=chkE hm
    obtain ⟨q107,hq107,hm⟩:=letE hm
    have hd:=hS.hand [1,0] [2,3,4] rfl rfl
    refine m_stp [84,0,2,4,6] (fS [0,2,4,6] [vS s,vP b1,vP b16,vS v94]) H105 rfl rfl rfl rfl (o_app2 (T:=(tI .i64)) (zv:=vI 0) (g1:=g96) (g2:=g102) (l1:=v95) (l2:=([0] : List Int)) q107 hq107.symm H105 hd rfl rfl rfl rfl rfl rfl rfl (by kernel_rfl) (by kernel_rfl) rfl rfl ho106) (fun _ => rfl) fun _ _ v H109 hq => ?_
    clear H105 hd
    obtain ⟨g110,rfl,hq⟩:=hq
    replace hS : SH M X w [eO 3 (tI .i64) q107 g110,eO 3 (tI .i64) ([0] : List Int) g102,eO 9 tS s_z37.2 g87,eB b16 [vI y19.1,vI y27.1,.slice g87.a s_z37.2.length g87.c,.slice g96.a v95.length g96.c],eB b1 [vI 0,vI 0,vO,vO]] _:=hS.join [1,0] [2,3,4] rfl rfl hq
    clear hq
    refine wl_batch 4 5 [] [0,2,4,6,84,85] (fS [0,2,4,6,84,85] [vS s,vP b1,vP b16,vS v94,.slice g110.a q107.length g110.c,vA b16 3]) [] H109 (by decide) (by kernel_rfl) trivial fun _ _ H112 hb => ?_
    replace hS:=hS.below hb
    clear H109 hb
    have hd:=hS.hand [3] [0,1,2,4] rfl rfl
    refine m_stp0 [0,2,4,6] (fS [0,2,4,6] [vS s,vP b1,vP b16,vS v94]) H112 rfl rfl rfl (o_store [vI y19.1,vI y27.1,.slice g87.a s_z37.2.length g87.c,.slice g110.a q107.length g110.c] H112 hd rfl rfl (by kernel_rfl) rfl rfl rfl) rfl fun _ _ H114 hq => ?_
    clear H112 hd
    obtain ⟨_,hq⟩:=hq
    replace hS : SH M X w [eB b16 [vI y19.1,vI y27.1,.slice g87.a s_z37.2.length g87.c,.slice g110.a q107.length g110.c],eO 3 (tI .i64) q107 g110,eO 3 (tI .i64) ([0] : List Int) g102,eO 9 tS s_z37.2 g87,eB b1 [vI 0,vI 0,vO,vO]] _:=hS.join [3] [0,1,2,4] rfl rfl hq
    clear hq
    apply wl_end rfl
    replace hS : SH M X w [eB b16 [vI y19.1,vI y27.1,.slice g87.a s_z37.2.length g87.c,.slice g110.a q107.length g110.c],eO 3 (tI .i64) q107 g110,eO 9 tS s_z37.2 g87,eB b1 [vI 0,vI 0,vO,vO]] _:=hS.sel [0,1,3,4] rfl
    obtain ⟨y116,hy116,hm⟩:=bindE hm
    obtain ⟨ho117,hm⟩:=chkE hm
    obtain ⟨q119,hq119,hm⟩:=letE hm
    refine s_drawS (base:=(fS [0,2,4] [vS s,vP b1,vP b16])) (L:=[eB b16 [vI y19.1,vI y27.1,.slice g87.a s_z37.2.length g87.c,.slice g110.a q107.length g110.c],eO 3 (tI .i64) q107 g110,eO 9 tS s_z37.2 g87,eB b1 [vI 0,vI 0,vO,vO]]) 14 4 (fun yg115 => [vA b16 3,.slice g110.a q107.length g110.c,vA b16 3,.slice g110.a q107.length g110.c,vI (ln q107),vI (w64 ((ln q107) - 1)),vS v94,vW [vI y116.1,vS y116.2],vW [vI y116.1,vS y116.2],vI y116.1,vS y116.2,.pointer (some ⟨ab g110.a,ao g110.a + ((w64 ((ln q107) - 1))).toNat * 1,none⟩),undef,vS y116.2]) (fun yg115 => [[],[],[],[],[],[],[],[],[],[],[],[],[eO 3 (tI .i64) q119 (Gh.mk g110.a g110.c (yg115 12 0).s)],[]]) [[14,15,16],[14,15,16],[14,15,16],[14,15,16],[15],[],[],[],[],[],[],[15],[15],[]] [[],[],[],[],[],[],[],[],[],[],[],[],[15],[]] [[0],[0,1],[2],[2,3],[2,3,4],[2,3,4,5],[6],[6,7],[6,7,8],[6,7,8,9],[6,7,8,10],[0,1,2,3,4,5,11],[0,1,2,3,4,5,6,7,8,9,11,12],[6,7,8,10,13]] [(6,13,vS v94)] (FrG.keep (ks:=[0,2,4]) H114 (by kernel_rfl)) (fun k e h => by rcases k with _ | k <;> first | (obtain rfl:=Option.some.inj h; exact FrG.slot H114 (by kernel_rfl)) | cases h) (by kernel_rfl) hS (by kernel_rfl) rfl rfl (by kernel_rfl) (by kernel_rfl) (by kernel_rfl) (gd_none (by kernel_rfl) _ _) ?hloc_yg115 ?hstep_yg115 fun _ _ yg115 H121 hv hS => ?hK_yg115
    case hloc_yg115 => exact ⟨(fun _ _ _ _ => ⟨rfl,rfl⟩),(fun _ _ _ _ => ⟨rfl,rfl⟩),(fun _ _ _ _ => ⟨rfl,rfl⟩),(fun _ _ _ _ => ⟨rfl,rfl⟩),(fun _ _ _ _ => ⟨rfl,rfl⟩),(fun _ _ _ _ => ⟨rfl,rfl⟩),(fun _ _ _ _ => ⟨rfl,rfl⟩),(fun _ _ _ _ => ⟨rfl,rfl⟩),(fun _ _ _ _ => ⟨rfl,rfl⟩),(fun _ _ _ _ => ⟨rfl,rfl⟩),(fun _ _ _ _ => ⟨rfl,rfl⟩),(fun _ _ _ _ => ⟨rfl,rfl⟩),(fun _ i g hi => lcG [12] (fun yg115 => (undef,[eO 3 (tI .i64) q119 (Gh.mk g110.a g110.c (yg115 12 0).s)])) hi rfl),(fun _ _ _ _ => ⟨rfl,rfl⟩),trivial⟩
    case hstep_yg115 =>
     refine ⟨?_,?_,?_,?_,?_,?_,?_,?_,?_,?_,?_,?_,?_,?_,trivial⟩
     ·intro o ho a w yg115 M Hb hv hO hS
      obtain rfl:=someE ho
      exact Stp.mono (o_evs [] (vA b16 3) none [] Hb rfl (by kernel_rfl) (fun q e => by cases e)) fun _ _ hq => ⟨gL [],fun _ _ => hq.1,(hS.below hq.2.below).sel [0,1,2] rfl⟩
     ·intro o ho a w yg115 M Hb hv hO hS
      obtain rfl:=someE ho
      exact Stp.mono (o_evs [(.slice g110.a q107.length g110.c)] (.slice g110.a q107.length g110.c) (some (rA b16 3 (.slice g110.a q107.length g110.c))) [] ((Hb).add (hv 0 (by decide) (by decide) 87 rfl)) rfl (by kernel_rfl) (fun q e => by cases e; exact ((hS.bk 0 rfl).at1 rfl))) fun _ _ hq => ⟨gL [],fun _ _ => hq.1,(hS.below hq.2.below).sel [0,1,2] rfl⟩
     ·intro o ho a w yg115 M Hb hv hO hS
      obtain rfl:=someE ho
      exact Stp.mono (o_evs [] (vA b16 3) none [] Hb rfl (by kernel_rfl) (fun q e => by cases e)) fun _ _ hq => ⟨gL [],fun _ _ => hq.1,(hS.below hq.2.below).sel [0,1,2] rfl⟩
     ·intro o ho a w yg115 M Hb hv hO hS
      obtain rfl:=someE ho
      exact Stp.mono (o_evs [(.slice g110.a q107.length g110.c)] (.slice g110.a q107.length g110.c) (some (rA b16 3 (.slice g110.a q107.length g110.c))) [] ((Hb).add (hv 2 (by decide) (by decide) 89 rfl)) rfl (by kernel_rfl) (fun q e => by cases e; exact ((hS.bk 0 rfl).at1 rfl))) fun _ _ hq => ⟨gL [],fun _ _ => hq.1,(hS.below hq.2.below).sel [0,1,2] rfl⟩
     ·intro o ho a w yg115 M Hb hv hO hS
      obtain rfl:=someE ho
      exact Stp.mono (o_evs [] (vI (ln q107)) none [] ((Hb).add (hv 3 (by decide) (by decide) 90 rfl)) rfl (by kernel_rfl) (fun q e => by cases e)) fun _ _ hq => ⟨gL [],fun _ _ => hq.1,(hS.below hq.2.below).sel [0] rfl⟩
     ·intro o ho a w yg115 M Hb hv hO hS
      obtain rfl:=someE ho
      exact Stp.mono (o_evs [] (vI (w64 ((ln q107) - 1))) none [] ((Hb).add (hv 4 (by decide) (by decide) 91 rfl)) rfl (by kernel_rfl) (fun q e => by cases e)) fun _ _ hq => ⟨gL [],fun _ _ => hq.1,(hS.below hq.2.below).sel [] rfl⟩
     ·intro o ho a w yg115 M Hb hv hO hS
      obtain rfl:=someE ho
      exact Stp.mono (o_evs [] (vS v94) none [] ((Hb).add (hO 0 _ rfl (by kernel_rfl))) rfl (by kernel_rfl) (fun q e => by cases e)) fun _ _ hq => ⟨gL [],fun _ _ => hq.1,(hS.below hq.2.below).sel [] rfl⟩
     ·intro o ho a w yg115 M Hb hv hO hS
      obtain rfl:=someE ho
      exact Stp.mono (o_evs [(vW [vI y116.1,vS y116.2])] (vW [vI y116.1,vS y116.2]) (some (rB 46 [vS v94] (vW [vI y116.1,vS y116.2]))) [] ((Hb).add (hv 6 (by decide) (by decide) 93 rfl)) rfl (by kernel_rfl) (fun q e => by cases e; exact ((r40_number_ok m _ _ hy116).b))) fun _ _ hq => ⟨gL [],fun _ _ => hq.1,(hS.below hq.2.below).sel [] rfl⟩
     ·intro o ho a w yg115 M Hb hv hO hS
      obtain rfl:=someE ho
      exact Stp.mono (o_evs [] (vW [vI y116.1,vS y116.2]) none [] ((Hb).add (hv 7 (by decide) (by decide) 94 rfl)) rfl (by kernel_rfl) (fun q e => by cases e)) fun _ _ hq => ⟨gL [],fun _ _ => hq.1,(hS.below hq.2.below).sel [] rfl⟩
     ·intro o ho a w yg115 M Hb hv hO hS
      obtain rfl:=someE ho
      exact Stp.mono (o_evs [] (vI y116.1) none [] ((Hb).add (hv 8 (by decide) (by decide) 86 rfl)) rfl (by kernel_rfl) (fun q e => by cases e)) fun _ _ hq => ⟨gL [],fun _ _ => hq.1,(hS.below hq.2.below).sel [] rfl⟩
     ·intro o ho a w yg115 M Hb hv hO hS
      obtain rfl:=someE ho
      exact Stp.mono (o_evs [] (vS y116.2) none [] ((Hb).add (hv 8 (by decide) (by decide) 86 rfl)) rfl (by kernel_rfl) (fun q e => by cases e)) fun _ _ hq => ⟨gL [],fun _ _ => hq.1,(hS.below hq.2.below).sel [] rfl⟩
     ·intro o ho a w yg115 M Hb hv hO hS
      obtain rfl:=someE ho
      exact Stp.mono (o_evs [] (.pointer (some ⟨ab g110.a,ao g110.a + ((w64 ((ln q107) - 1))).toNat * 1,none⟩)) (some (fun _ => oka g110.a ∧ 0 ≤ (w64 ((ln q107) - 1)) ∧ (w64 ((ln q107) - 1)) < ln q107)) [] (((Hb).add (hv 1 (by decide) (by decide) 88 rfl)).add (hv 5 (by decide) (by decide) 92 rfl)) rfl (by kernel_rfl) (fun q e => by cases e; exact ((hS.osl 0 rfl).oki ho117))) fun _ _ hq => ⟨gL [],fun _ _ => hq.1,(hS.below hq.2.below).sel [0] rfl⟩
     ·intro o ho a w yg115 M Hb hv hO hS0
      obtain rfl:=someE ho
      have H : Fr 119 ((fS [97,95] [.pointer (some ⟨ab g110.a,ao g110.a + ((w64 ((ln q107) - 1))).toNat * 1,none⟩),vI y116.1]) ++ (fS [0,2,4] [vS s,vP b1,vP b16])) _:=((Hb).add (hv 9 (by decide) (by decide) 95 rfl)).add (hv 11 (by decide) (by decide) 97 rfl)
      obtain ⟨X,hX⟩ : ∃ X,X = fpl [eO 3 (tI .i64) q107 g110]:=⟨_,rfl⟩
      have hS : SH M X w [eO 3 (tI .i64) q107 g110] w:=by rw [hX]; exact hS0
      have hd:=hS.hand [0] [] rfl rfl
      refine Stp.mono (o_estore (T:=(tI .i64)) (g:=g110) (q:=q107) (ix:=(w64 ((ln q107) - 1))) (off:=0) y116.1 (gL []) H hd rfl rfl rfl rfl (by kernel_rfl) rfl rfl ho117 rfl trivial rfl) ?_
      rintro v w2 hq
      obtain ⟨s118,hq⟩:=hq
      rw [← hq119] at hq
      have hn : q107.length = q119.length:=by rw [hq119,setl_len]
      clear hn
      replace hS : SH M X w [eO 3 (tI .i64) q119 (Gh.mk g110.a g110.c s118)] _:=hS.join [0] [] rfl rfl hq
      clear hq
      rw [hX] at hS
      exact ⟨gL [Gh.mk none 0 s118],(fun _ h => by cases h),hS.sel [0] rfl⟩
     ·intro o ho a w yg115 M Hb hv hO hS0
      obtain rfl:=someE ho
      have H : Fr 119 ([(96,[],vS y116.2)] ++ (fS [0,2,4] [vS s,vP b1,vP b16])) _:=(Hb).add (hv 10 (by decide) (by decide) 96 rfl)
      have hn : q107.length = q119.length:=by rw [hq119,setl_len]
      first | rw [hn] at H | skip
      clear hn
      obtain ⟨X,hX⟩ : ∃ X,X = fpl []:=⟨_,rfl⟩
      have hS : SH M X w [] w:=by rw [hX]; exact hS0
      refine Stp.mono (o_evs [] (vS y116.2) none [] H rfl (by kernel_rfl) (fun q e => by cases e)) ?_
      rintro v w2 ⟨rfl,hq⟩
      replace hS : SH M X w [] _:=hS.below hq.below
      rw [hX] at hS
      exact ⟨gL [],fun _ _ => rfl,hS.sel [] rfl⟩
    have H122 : Fr 119 (fS [6,0,2,4] [vS y116.2,vS s,vP b1,vP b16]) _:=(FrG.add (FrG.keep (ks:=[0,2,4]) H121 (by kernel_rfl)) (hv 13 6 rfl))
    replace hS : SH M X w [eO 3 (tI .i64) q119 (Gh.mk g110.a g110.c (yg115 12 0).s),eB b16 [vI y19.1,vI y27.1,.slice g87.a s_z37.2.length g87.c,.slice g110.a q107.length g110.c],eO 9 tS s_z37.2 g87,eB b1 [vI 0,vI 0,vO,vO]] _:=hS
    clear hv H121
    have hn : q107.length = q119.length:=by rw [hq119,setl_len]
    first | rw [hn] at hS | skip
    first | rw [hn] at H122 | skip
    clear hn
    replace hS : SH M X w [eO 3 (tI .i64) q119 (Gh.mk g110.a g110.c (yg115 12 0).s),eB b16 [vI y19.1,vI y27.1,.slice g87.a s_z37.2.length g87.c,.slice (Gh.mk g110.a g110.c (yg115 12 0).s).a q119.length (Gh.mk g110.a g110.c (yg115 12 0).s).c],eO 9 tS s_z37.2 g87,eB b1 [vI 0,vI 0,vO,vO]] _:=hS
    generalize yg115 12 0 = g123 at H122 hS
    obtain ⟨ho124,hm⟩:=chkE hm
    obtain ⟨x125,hx125,hm⟩:=letE hm
    refine s_reg [] [0,2,4,6,105] (fS [0,2,4,6,105] [vS s,vP b1,vP b16,vS y116.2,vB x125]) [fun _ => ((decide (0 < (ln y116.2))) = true ∧ True → 0 ≤ (0 : Int) ∧ (0 : Int) < ln y116.2)] H122 (by subst hx125; kernel_rfl) ⟨fun hg => (ho124 hg.1),trivial⟩ fun _ _ H127 hb => ?_
    replace hS:=hS.below hb
    clear H122 hb
    refine w_if H127 rfl (fun hc => ?_) (fun hc => ?c131)
    case c131 =>
     replace hm:=bF hc hm
     apply w_exit rfl
     obtain rfl:=someE hm
     replace hS : SH M X w [eO 3 (tI .i64) q119 (Gh.mk g110.a g110.c g123.s),eO 9 tS s_z37.2 g87,eB b16 [vI y19.1,vI y27.1,.slice g87.a s_z37.2.length g87.c,.slice (Gh.mk g110.a g110.c g123.s).a q119.length (Gh.mk g110.a g110.c g123.s).c],eB b1 [vI 0,vI 0,vO,vO]] _:=hS.sel [0,2,1,3] rfl
     exact ⟨(Gh.mk g110.a g110.c g123.s),FrG.keep (ks:=[0,2,4]) H127 (by kernel_rfl),hS⟩
    replace hm:=bT hc hm
    obtain ⟨y128,hy128,hm⟩:=bindE hm
    refine w_reg [(vS y128)] [0,2,4,6] (fS [0,2,4,6] [vS s,vP b1,vP b16,vS y128]) [rB 47 [vS y116.2,vI 2] (vS y128)] H127 (by kernel_rfl) ⟨((r40_after_ok _ _ _ hy128).b),trivial⟩ fun _ _ H130 hb => ?_
    replace hS:=hS.below hb
    clear H127 hb
    replace hS : SH M X w [eO 3 (tI .i64) q119 (Gh.mk g110.a g110.c g123.s),eO 9 tS s_z37.2 g87,eB b16 [vI y19.1,vI y27.1,.slice g87.a s_z37.2.length g87.c,.slice (Gh.mk g110.a g110.c g123.s).a q119.length (Gh.mk g110.a g110.c g123.s).c],eB b1 [vI 0,vI 0,vO,vO]] _:=hS.sel [0,2,1,3] rfl
    exact ⟨_,Nat.lt_succ_self _,y128,q119,(Gh.mk g110.a g110.c g123.s),hm,FrG.keep (ks:=[0,2,4,6]) H130 (by kernel_rfl),hS⟩
  ·rintro _ _ ⟨g134,H,hS⟩
   apply w_seq
   obtain ⟨y136,hy136,hm⟩:=bindE hm
   obtain ⟨y137,hy137,hm⟩:=bindE hm
   refine s_reg [(vG [vI y19.1,vI y27.1,.slice g87.a s_z37.2.length g87.c,.slice g134.a z92.length g134.c]),(vI y136),(vG [vI y19.1,vI y27.1,.slice g87.a s_z37.2.length g87.c,.slice g134.a z92.length g134.c]),(vS y137)] [2,4,116] (fS [2,4,116] [vP b1,vP b16,vB (cond (y136 != 0) true (!(y137 == s)))]) [rN b16 0 [vI y19.1,vI y27.1,.slice g87.a s_z37.2.length g87.c,.slice g134.a z92.length g134.c],rB 34 [vG [vI y19.1,vI y27.1,.slice g87.a s_z37.2.length g87.c,.slice g134.a z92.length g134.c]] (vI y136),fun wz => ((y136 != 0) = false ∧ True → V.atN b16 0 [vI y19.1,vI y27.1,.slice g87.a s_z37.2.length g87.c,.slice g134.a z92.length g134.c] 0 wz),fun wz => ((y136 != 0) = false ∧ True → RetB Tryz.prog 18 ⟨[vG [vI y19.1,vI y27.1,.slice g87.a s_z37.2.length g87.c,.slice g134.a z92.length g134.c]]⟩ (vS y137) wz)] H (by kernel_rfl) ⟨((hS.bk 2 rfl).atD rfl),(r40_Check_ok (g_a__0:=g87) (g_a__1:=g134) m _ _ hy136 _ (s0im (s0im s0nil (hS.osl 0 rfl)) (hS.osl 1 rfl))),fun hg => (hS.bk 2 rfl).atD rfl,fun hg => r40_Shown_ok (g_a__0:=g87) (g_a__1:=g134) m _ _ (bF (hg.1) hy137) _ (s0im (s0im s0nil (hS.osl 0 rfl)) (hS.osl 1 rfl)),trivial⟩ fun _ _ H139 hb => ?_
   replace hS:=hS.below hb
   clear H hb
   refine w_if H139 rfl (fun hc => ?_) (fun hc => ?c154)
   case c154 =>
    replace hm:=bF hc hm
    apply w_skip
    apply w_seq
    apply wl_start
    refine wl_batch 0 1 [(vG [vI y19.1,vI y27.1,.slice g87.a s_z37.2.length g87.c,.slice g134.a z92.length g134.c])] [2,118] (fS [2,118] [vP b1,vG [vI y19.1,vI y27.1,.slice g87.a s_z37.2.length g87.c,.slice g134.a z92.length g134.c]]) [rN b16 0 [vI y19.1,vI y27.1,.slice g87.a s_z37.2.length g87.c,.slice g134.a z92.length g134.c]] H139 (by decide) (by kernel_rfl) ⟨((hS.bk 2 rfl).atD rfl),trivial⟩ fun _ _ H149 hb => ?_
    replace hS:=hS.below hb
    clear H139 hb
    have hd:=hS.hand [3] [0,1,2] rfl rfl
    refine m_stp0 [2] [(2,[],vP b1)] H149 rfl rfl rfl (o_store [vI y19.1,vI y27.1,.slice g87.a s_z37.2.length g87.c,.slice g134.a z92.length g134.c] H149 hd rfl rfl (by kernel_rfl) rfl rfl rfl) rfl fun _ _ H151 hq => ?_
    clear H149 hd
    obtain ⟨_,hq⟩:=hq
    replace hS : SH M X w [eB b1 [vI y19.1,vI y27.1,.slice g87.a s_z37.2.length g87.c,.slice g134.a z92.length g134.c],eO 3 (tI .i64) z92 g134,eO 9 tS s_z37.2 g87,eB b16 [vI y19.1,vI y27.1,.slice g87.a s_z37.2.length g87.c,.slice g134.a z92.length g134.c]] _:=hS.join [3] [0,1,2] rfl rfl hq
    clear hq
    refine wl_batch 2 3 [] [2,3] (fS [2,3] [vP b1,vI 0]) [] H151 (by decide) (by kernel_rfl) trivial fun _ _ H153 hb => ?_
    replace hS:=hS.below hb
    clear H151 hb
    apply wl_end rfl
    replace hS : SH M X w [eB b1 [vI y19.1,vI y27.1,.slice g87.a s_z37.2.length g87.c,.slice g134.a z92.length g134.c],eO 3 (tI .i64) z92 g134,eO 9 tS s_z37.2 g87] _:=hS.sel [0,1,2] rfl
    apply w_ret
    obtain rfl:=someE hm
    exact retR2 H153 rfl (oneRes_agg rfl (hS.bk 0 rfl) Tryz.underlying43 rfl (by kernel_rfl)) rfl ⟨_,rfl,g87,g134,rfl,(hS.sel [2,1] rfl)⟩
   replace hm:=bT hc hm
   apply w_seq
   apply wl_start
   refine wl_batch 0 1 [] [2,117] (fS [2,117] [vP b1,vG [vI 0,vI 0,vO,vO]]) [] H139 (by decide) (by kernel_rfl) trivial fun _ _ H141 hb => ?_
   replace hS:=hS.below hb
   clear H139 hb
   have hd:=hS.hand [3] [0,1,2] rfl rfl
   refine m_stp0 [2] [(2,[],vP b1)] H141 rfl rfl rfl (o_store [vI 0,vI 0,vO,vO] H141 hd rfl rfl (by kernel_rfl) rfl rfl rfl) rfl fun _ _ H143 hq => ?_
   clear H141 hd
   obtain ⟨_,hq⟩:=hq
   replace hS : SH M X w [eB b1 [vI 0,vI 0,vO,vO],eO 3 (tI .i64) z92 g134,eO 9 tS s_z37.2 g87,eB b16 [vI y19.1,vI y27.1,.slice g87.a s_z37.2.length g87.c,.slice g134.a z92.length g134.c]] _:=hS.join [3] [0,1,2] rfl rfl hq
   clear hq
   refine wl_batch 2 3 [] [2,3] (fS [2,3] [vP b1,vI 12]) [] H143 (by decide) (by kernel_rfl) trivial fun _ _ H145 hb => ?_
   replace hS:=hS.below hb
   clear H143 hb
   apply wl_end rfl
   replace hS : SH M X w [eB b1 [vI 0,vI 0,vO,vO]] _:=hS.sel [0] rfl
   apply w_ret
   obtain rfl:=someE hm
   replace hS : SH M X w [eO 9 tS ([] : List Str) (.nil),eB b1 [vI 0,vI 0,vO,vO]] _:=hS.addNil 9 tS
   replace hS : SH M X w [eO 3 (tI .i64) ([] : List Int) (.nil),eO 9 tS ([] : List Str) (.nil),eB b1 [vI 0,vI 0,vO,vO]] _:=hS.addNil 3 (tI .i64)
   exact retR2 H145 rfl (oneRes_agg rfl (hS.bk 2 rfl) Tryz.underlying43 rfl (by kernel_rfl)) rfl ⟨_,rfl,Gh.nil,Gh.nil,rfl,(hS.sel [1,0] rfl)⟩
theorem r40_ReadLine_ok  (m : Nat) (s : Str) (r : TAnswer × Int) (hm : r40_ReadLine m s = some r) (M : Av) (w : World) (hS : S0 M [] w) : DoesX Tryz.prog 25 ⟨[vS s]⟩ w (fun v w' => ∃ (g901 : Gh) (g903 : Gh),v = vW [vG [vI r.1.Err,vI r.1.Num,vL g901 r.1.Texts,vL g903 r.1.Numbers],vI r.2] ∧ SH M (fpl []) w [eO 9 tS r.1.Texts g901,eO 3 (tI .i64) r.1.Numbers g903] w'):=⟨Tryz.call25 _,r40_ReadLine_w M m   s r hm w hS⟩

theorem r40_ReadText_w  (M : Av) (m : Nat) (s : Str) (r : (List TAnswer) × Int) (hm : r40_ReadText m s = some r) (w : World) (hS : S0 M [] w) : Calls Tryz.prog 8 ⟨[vS s]⟩ w (fun e w' => ∃ v,e = .returned v ∧ ∃ (g901 : Gh),v = vW [vL g901 r.1,vI r.2] ∧ SH M (fpl []) w [eO 43 tyAnswer r.1 g901] w'):=by
 rw [r40_ReadText] at hm
 have hS0 : SH M (fpl []) w [] w:=hS
 generalize hX : fpl [] = X at hS0 ⊢
 clear hS hX
 have hS:=hS0
 clear hS0
 refine calls_entryP Tryz.func8 rfl Tryz.ntmps8 rfl fun _ H => ?_
 refine s_reg [] [0] [(0,[],vS s)] [] H (by kernel_rfl) trivial fun _ _ H2 hb => ?_
 replace hS:=hS.below hb
 clear H hb
 apply w_seq
 refine s_reg [] [0,12] (fS [0,12] [vS s,vB (decide (5400000 < (ln s)))]) [] H2 (by kernel_rfl) trivial fun _ _ H4 hb => ?_
 replace hS:=hS.below hb
 clear H2 hb
 refine w_if H4 rfl (fun hc => ?c82) (fun hc => ?_)
 case c82 =>
  replace hm:=bT hc hm
  refine s_reg [] [2,3] (fS [2,3] [vO,vI 28]) [] H4 (by kernel_rfl) trivial fun _ _ H6 hb => ?_
  replace hS:=hS.below hb
  clear H4 hb
  apply w_ret
  obtain rfl:=someE hm
  replace hS : SH M X w [eO 43 tyAnswer ([] : List TAnswer) (.nil)] _:=hS.addNil 43 tyAnswer
  exact retR2 H6 rfl rfl rfl ⟨_,rfl,Gh.nil,rfl,(hS.sel [0] rfl)⟩
 replace hm:=bF hc hm
 apply w_skip
 apply w_seq
 apply wl_start
 refine wl_batch 0 1 [] [14] [(14,[],vS s)] [] H4 (by decide) (by kernel_rfl) trivial fun _ _ H9 hb => ?_
 replace hS:=hS.below hb
 clear H4 hb
 obtain ⟨y10,hy10,hm⟩:=bindE hm
 have hd:=hS.hand [] [] rfl rfl
 refine m_stp [15] [] H9 rfl rfl rfl rfl (o_callx H9 rfl rfl (r40_Split_ok m _ _ hy10 _ _ hd)) (fun _ => rfl) fun _ _ v H14 hq => ?_
 clear H9 hd
 obtain ⟨g11,rfl,hq⟩:=hq
 replace hS : SH M X w [eO 9 tS y10.1 g11] _:=hS.join [] [] rfl rfl hq
 clear hq
 refine wl_batch 2 7 [] [4,5] (fS [4,5] [vL g11 y10.1,vB y10.2]) [] H14 (by decide) (by kernel_rfl) trivial fun _ _ H16 hb => ?_
 replace hS:=hS.below hb
 clear H14 hb
 apply wl_end rfl
 apply w_seq
 obtain ⟨x17,hx17,hm⟩:=letE hm
 refine s_reg [] [4,24] (fS [4,24] [vL g11 y10.1,vB x17]) [] H16 (by subst hx17; kernel_rfl) trivial fun _ _ H19 hb => ?_
 replace hS:=hS.below hb
 clear H16 hb
 refine w_if H19 rfl (fun hc => ?c81) (fun hc => ?_)
 case c81 =>
  replace hm:=bT hc hm
  refine s_reg [] [2,3] (fS [2,3] [vO,vI 12]) [] H19 (by kernel_rfl) trivial fun _ _ H21 hb => ?_
  replace hS:=hS.below hb
  clear H19 hb
  replace hS : SH M X w [] _:=hS.sel [] rfl
  apply w_ret
  obtain rfl:=someE hm
  replace hS : SH M X w [eO 43 tyAnswer ([] : List TAnswer) (.nil)] _:=hS.addNil 43 tyAnswer
  exact retR2 H21 rfl rfl rfl ⟨_,rfl,Gh.nil,rfl,(hS.sel [0] rfl)⟩
 replace hm:=bF hc hm
 apply w_skip
 refine s_reg [] [4,6] (fS [4,6] [vL g11 y10.1,vO]) [] H19 (by kernel_rfl) trivial fun _ _ H24 hb => ?_
 replace hS:=hS.below hb
 clear H19 hb
 obtain ⟨z25,hz,hm_z25⟩:=bindE hm
 refine w_cut (fun a' w' => ∃ s_z25 : List TAnswer,z25 = Sum.inr s_z25 ∧ ∃ (g76 : Gh),Fr 46 [(6,[],vL g76 s_z25)] a' ∧ SH M X w [eO 43 tyAnswer s_z25 g76,eO 9 tS y10.1 g11] w') ?_ ?_
 ·replace hm:=hz
  refine s_reg [] [4,6,7] (fS [4,6,7] [vL g11 y10.1,vO,vI 0]) [] H24 (by kernel_rfl) trivial fun _ _ H27 hb => ?_
  replace hS:=hS.below hb
  clear H24 hb
  apply w_block
  replace hS : SH M X w [eO 43 tyAnswer ([] : List TAnswer) (.nil),eO 9 tS y10.1 g11] _:=hS.addNil 43 tyAnswer
  refine w_loop (fun kk a' w' => ∃ (v29 : List TAnswer) (v31 : Int) (g30 : Gh),r40_ReadText_L1 m y10 kk v29 v31 = some _ ∧ Fr 46 (fS [4,6,7] [vL g11 y10.1,vL g30 v29,vI v31]) a' ∧ SH M X w [eO 43 tyAnswer v29 g30,eO 9 tS y10.1 g11] w') ⟨_,([] : List TAnswer),0,Gh.nil,hm,FrG.keep (ks:=[4,6,7]) H27 (by kernel_rfl),hS⟩ ?_
  clear hm H27 hS
  rintro kk _ _ ⟨v29,v31,g30,hm,H,hS⟩
  cases kk with
  | zero => exact noneE hm
  | succ kk =>
   rw [r40_ReadText_L1] at hm
   apply w_seq
   refine s_reg [] [4,6,7,28] (fS [4,6,7,28] [vL g11 y10.1,vL g30 v29,vI v31,vB (decide (v31 < (ln y10.1)))]) [] H (by kernel_rfl) trivial fun _ _ H33 hb => ?_
   replace hS:=hS.below hb
   clear H hb
   refine w_if H33 rfl (fun hc => ?_) (fun hc => ?c74)
   case c74 =>
    replace hm:=bF hc hm
    apply w_exit rfl
    obtain rfl:=someE hm
    exact ⟨_,rfl,g30,FrG.keep (ks:=[6]) H33 (by kernel_rfl),hS⟩
   replace hm:=bT hc hm
   apply w_skip
   apply w_seq
   apply w_block
   apply w_seq
   apply wl_start
   obtain ⟨ho34,hm⟩:=chkE hm
   refine wl_batch 0 4 [(vS (gi y10.1 v31))] [4,6,7,35] (fS [4,6,7,35] [vL g11 y10.1,vL g30 v29,vI v31,vS (gi y10.1 v31)]) [fun _ => oka g11.a ∧ 0 ≤ v31 ∧ v31 < ln y10.1,fun wz => V.at1 ⟨ab g11.a,ao g11.a + (v31).toNat * 1,none⟩ (vS (gi y10.1 v31)) wz] H33 (by decide) (by kernel_rfl) ⟨((hS.osl 1 rfl).oki ho34),((hS.osl 1 rfl).at1 ho34 0 rfl),trivial⟩ fun _ _ H36 hb => ?_
   replace hS:=hS.below hb
   clear H33 hb
   obtain ⟨y37,hy37,hm⟩:=bindE hm
   have hd:=hS.hand [] [0,1] rfl rfl
   refine m_stp [36,4,6,7] (fS [4,6,7] [vL g11 y10.1,vL g30 v29,vI v31]) H36 rfl rfl rfl rfl (o_callx H36 rfl rfl (r40_ReadLine_ok m _ _ hy37 _ _ hd)) (fun _ => rfl) fun _ _ v H43 hq => ?_
   clear H36 hd
   obtain ⟨g38,g40,rfl,hq⟩:=hq
   replace hS : SH M X w [eO 9 tS y37.1.Texts g38,eO 3 (tI .i64) y37.1.Numbers g40,eO 43 tyAnswer v29 g30,eO 9 tS y10.1 g11] _:=hS.join [] [0,1] rfl rfl hq
   clear hq
   refine wl_batch 5 8 [] [4,6,7,37,38] (fS [4,6,7,37,38] [vL g11 y10.1,vL g30 v29,vI v31,vG [vI y37.1.Err,vI y37.1.Num,vL g38 y37.1.Texts,vL g40 y37.1.Numbers],vI y37.2]) [] H43 (by decide) (by kernel_rfl) trivial fun _ _ H45 hb => ?_
   replace hS:=hS.below hb
   clear H43 hb
   have hd:=hS.hand [] [0,1,2,3] rfl rfl
   refine m_stp [8,4,6,7,37,38] (fS [4,6,7,37,38] [vL g11 y10.1,vL g30 v29,vI v31,vG [vI y37.1.Err,vI y37.1.Num,vL g38 y37.1.Texts,vL g40 y37.1.Numbers],vI y37.2]) H45 rfl rfl rfl rfl (o_alloc [vI 0,vI 0,vO,vO] (z:=vG [vI 0,vI 0,vO,vO]) hd (by kernel_rfl) rfl) (fun _ => rfl) fun _ _ v H48 hq => ?_
   clear H45 hd
   obtain ⟨b46,rfl,hq⟩:=hq
   replace hS : SH M X w [eB b46 [vI 0,vI 0,vO,vO],eO 9 tS y37.1.Texts g38,eO 3 (tI .i64) y37.1.Numbers g40,eO 43 tyAnswer v29 g30,eO 9 tS y10.1 g11] _:=hS.join [] [0,1,2,3] rfl rfl hq
   clear hq
   have hd:=hS.hand [0] [1,2,3,4] rfl rfl
   refine m_stp0 [4,6,7,8,38] (fS [4,6,7,8,38] [vL g11 y10.1,vL g30 v29,vI v31,vP b46,vI y37.2]) H48 rfl rfl rfl (o_store [vI y37.1.Err,vI y37.1.Num,vL g38 y37.1.Texts,vL g40 y37.1.Numbers] H48 hd rfl rfl (by kernel_rfl) rfl rfl rfl) rfl fun _ _ H50 hq => ?_
   clear H48 hd
   obtain ⟨_,hq⟩:=hq
   replace hS : SH M X w [eB b46 [vI y37.1.Err,vI y37.1.Num,vL g38 y37.1.Texts,vL g40 y37.1.Numbers],eO 9 tS y37.1.Texts g38,eO 3 (tI .i64) y37.1.Numbers g40,eO 43 tyAnswer v29 g30,eO 9 tS y10.1 g11] _:=hS.join [0] [1,2,3,4] rfl rfl hq
   clear hq
   refine wl_batch 10 11 [] [4,6,7,8,9] (fS [4,6,7,8,9] [vL g11 y10.1,vL g30 v29,vI v31,vP b46,vI y37.2]) [] H50 (by decide) (by kernel_rfl) trivial fun _ _ H52 hb => ?_
   replace hS:=hS.below hb
   clear H50 hb
   apply wl_end rfl
   apply w_seq
   refine s_reg [] [4,6,7,8,40] (fS [4,6,7,8,40] [vL g11 y10.1,vL g30 v29,vI v31,vP b46,vB (y37.2 != 0)]) [] H52 (by kernel_rfl) trivial fun _ _ H54 hb => ?_
   replace hS:=hS.below hb
   clear H52 hb
   refine w_if H54 rfl (fun hc => ?c73) (fun hc => ?_)
   case c73 =>
    replace hm:=bT hc hm
    refine s_reg [] [2,3] (fS [2,3] [vO,vI 12]) [] H54 (by kernel_rfl) trivial fun _ _ H56 hb => ?_
    replace hS:=hS.below hb
    clear H54 hb
    replace hS : SH M X w [eO 43 tyAnswer v29 g30,eO 9 tS y10.1 g11] _:=hS.sel [3,4] rfl
    apply w_ret
    obtain rfl:=someE hm
    have hm:=hm_z25
    obtain rfl:=someE hm
    replace hS : SH M X w [eO 43 tyAnswer ([] : List TAnswer) (.nil),eO 43 tyAnswer v29 g30,eO 9 tS y10.1 g11] _:=hS.addNil 43 tyAnswer
    exact retR2 H56 rfl rfl rfl ⟨_,rfl,Gh.nil,rfl,(hS.sel [0] rfl)⟩
   replace hm:=bF hc hm
   apply w_skip
   apply wl_start
   refine wl_batch 0 2 [(vG [vI y37.1.Err,vI y37.1.Num,vL g38 y37.1.Texts,vL g40 y37.1.Numbers])] [4,7,41,42] (fS [4,7,41,42] [vL g11 y10.1,vI v31,vL g30 v29,vG [vI y37.1.Err,vI y37.1.Num,vL g38 y37.1.Texts,vL g40 y37.1.Numbers]]) [rN b46 0 [vI y37.1.Err,vI y37.1.Num,vL g38 y37.1.Texts,vL g40 y37.1.Numbers]] H54 (by decide) (by kernel_rfl) ⟨((hS.bk 0 rfl).atD rfl),trivial⟩ fun _ _ H59 hb => ?_
   replace hS:=hS.below hb
   clear H54 hb
   replace hS : SH M X w [eI tS y37.1.Texts g38,eB b46 [vI y37.1.Err,vI y37.1.Num,vL g38 y37.1.Texts,vL g40 y37.1.Numbers],eO 3 (tI .i64) y37.1.Numbers g40,eO 43 tyAnswer v29 g30,eO 9 tS y10.1 g11] _:=SH.frz1 (hS.sel [1,0,2,3,4] rfl)
   replace hS : SH M X w [eI (tI .i64) y37.1.Numbers g40,eI tS y37.1.Texts g38,eB b46 [vI y37.1.Err,vI y37.1.Num,vL g38 y37.1.Texts,vL g40 y37.1.Numbers],eO 43 tyAnswer v29 g30,eO 9 tS y10.1 g11] _:=SH.frz1 (hS.sel [2,0,1,3,4] rfl)
   have hd:=hS.hand [1,0] [0,1,2,3,4] rfl rfl
   refine m_stp [43,4,7,41] (fS [4,7,41] [vL g11 y10.1,vI v31,vL g30 v29]) H59 rfl rfl rfl rfl (o_lit (T:=tyAnswer) (E:=43) (zv:=vG [vI 0,vI 0,vO,vO]) [vI y37.1.Err,vI y37.1.Num,vL g38 y37.1.Texts,vL g40 y37.1.Numbers] ([y37.1] : List TAnswer) [gL [g38,g40]] _ H59 hd rfl (by kernel_rfl) (by kernel_rfl) (by kernel_rfl) (by kernel_rfl) (by kernel_rfl) (by kernel_rfl) (by kernel_rfl) rfl (InnL.cons (tyAnswer_mk (hd.im 0 rfl) (hd.im 1 rfl)) InnL.nil)) (fun _ => rfl) fun _ _ v H63 hq => ?_
   clear H59 hd
   obtain ⟨g60,rfl,hq⟩:=hq
   replace hS : SH M X w [eO 43 tyAnswer ([y37.1] : List TAnswer) g60,eI (tI .i64) y37.1.Numbers g40,eI tS y37.1.Texts g38,eB b46 [vI y37.1.Err,vI y37.1.Num,vL g38 y37.1.Texts,vL g40 y37.1.Numbers],eO 43 tyAnswer v29 g30,eO 9 tS y10.1 g11] _:=hS.join [1,0] [0,1,2,3,4] rfl rfl hq
   clear hq
   obtain ⟨ho64,hm⟩:=chkE hm
   obtain ⟨q65,hq65,hm⟩:=letE hm
   have hd:=hS.hand [4,0] [1,2,3,5] rfl rfl
   refine m_stp [44,4,7] (fS [4,7] [vL g11 y10.1,vI v31]) H63 rfl rfl rfl rfl (o_app2 (T:=tyAnswer) (zv:=vG [vI 0,vI 0,vO,vO]) (g1:=g30) (g2:=g60) (l1:=v29) (l2:=([y37.1] : List TAnswer)) q65 hq65.symm H63 hd rfl rfl rfl rfl rfl rfl rfl (by kernel_rfl) (by kernel_rfl) rfl rfl ho64) (fun _ => rfl) fun _ _ v H67 hq => ?_
   clear H63 hd
   obtain ⟨g68,rfl,hq⟩:=hq
   replace hS : SH M X w [eO 43 tyAnswer q65 g68,eO 43 tyAnswer ([y37.1] : List TAnswer) g60,eI (tI .i64) y37.1.Numbers g40,eI tS y37.1.Texts g38,eB b46 [vI y37.1.Err,vI y37.1.Num,vL g38 y37.1.Texts,vL g40 y37.1.Numbers],eO 9 tS y10.1 g11] _:=hS.join [4,0] [1,2,3,5] rfl rfl hq
   clear hq
   refine wl_batch 4 5 [] [4,6,7] (fS [4,6,7] [vL g11 y10.1,vL g68 q65,vI v31]) [] H67 (by decide) (by kernel_rfl) trivial fun _ _ H70 hb => ?_
   replace hS:=hS.below hb
   clear H67 hb
   apply wl_end rfl
   replace hS : SH M X w [eO 43 tyAnswer q65 g68,eO 9 tS y10.1 g11] _:=hS.sel [0,5] rfl
   refine w_reg [] [4,6,7] (fS [4,6,7] [vL g11 y10.1,vL g68 q65,vI (w64 (v31 + 1))]) [] H70 (by kernel_rfl) trivial fun _ _ H72 hb => ?_
   replace hS:=hS.below hb
   clear H70 hb
   exact ⟨_,Nat.lt_succ_self _,q65,w64 (v31 + 1),g68,hm,FrG.keep (ks:=[4,6,7]) H72 (by kernel_rfl),hS⟩
 ·rintro _ _ ⟨s_z25,hz,g76,H,hS⟩
  subst hz
  replace hm:=sumR hm_z25
  replace hS : SH M X w [eO 43 tyAnswer s_z25 g76] _:=hS.sel [0] rfl
  refine s_reg [] [2,3] (fS [2,3] [vL g76 s_z25,vI 0]) [] H (by kernel_rfl) trivial fun _ _ H79 hb => ?_
  replace hS:=hS.below hb
  clear H hb
  apply w_ret
  obtain rfl:=someE hm
  exact retR2 H79 rfl rfl rfl ⟨_,rfl,g76,rfl,(hS.sel [0] rfl)⟩
theorem r40_ReadText_ok  (m : Nat) (s : Str) (r : (List TAnswer) × Int) (hm : r40_ReadText m s = some r) (M : Av) (w : World) (hS : S0 M [] w) : DoesX Tryz.prog 8 ⟨[vS s]⟩ w (fun v w' => ∃ (g901 : Gh),v = vW [vL g901 r.1,vI r.2] ∧ SH M (fpl []) w [eO 43 tyAnswer r.1 g901] w'):=⟨Tryz.call8 _,r40_ReadText_w M m   s r hm w hS⟩

theorem slices_Equal_string_string_w {g_s1 : Gh} {g_s2 : Gh} (M : Av) (m : Nat) (s1 : List Str) (s2 : List Str) (r : Bool) (hm : slices_Equal_string_string m s1 s2 = some r) (w : World) (hS : S0 M [eI tS s1 g_s1,eI tS s2 g_s2] w) : Calls Tryz.prog 49 ⟨[vL g_s1 s1,vL g_s2 s2]⟩ w (fun e w' => ∃ v,e = .returned v ∧ v = vB r ∧ SH M (fpl [eI tS s1 g_s1,eI tS s2 g_s2]) w [] w'):=by
 rw [slices_Equal_string_string] at hm
 have hS0 : SH M (fpl [eI tS s1 g_s1,eI tS s2 g_s2]) w [eI tS s1 g_s1,eI tS s2 g_s2] w:=hS
 generalize hX : fpl [eI tS s1 g_s1,eI tS s2 g_s2] = X at hS0 ⊢
 clear hS hX
 have hS:=hS0
 clear hS0
 refine calls_entryP Tryz.func49 rfl Tryz.ntmps49 rfl fun _ H => ?_
 refine s_reg [] [0,1] (fS [0,1] [vL g_s1 s1,vL g_s2 s2]) [] H (by kernel_rfl) trivial fun _ _ H2 hb => ?_
 replace hS:=hS.below hb
 clear H hb
 apply w_seq
 refine s_reg [] [0,1,10] (fS [0,1,10] [vL g_s1 s1,vL g_s2 s2,vB ((ln s1) != (ln s2))]) [] H2 (by kernel_rfl) trivial fun _ _ H4 hb => ?_
 replace hS:=hS.below hb
 clear H2 hb
 refine w_if H4 rfl (fun hc => ?c29) (fun hc => ?_)
 case c29 =>
  replace hm:=bT hc hm
  refine s_reg [] [4] [(4,[],vF)] [] H4 (by kernel_rfl) trivial fun _ _ H6 hb => ?_
  replace hS:=hS.below hb
  clear H4 hb
  replace hS : SH M X w [] _:=hS.sel [] rfl
  apply w_ret
  obtain rfl:=someE hm
  exact retR1 H6 rfl rfl ⟨_,rfl,rfl,(hS.sel [] rfl)⟩
 replace hm:=bF hc hm
 apply w_skip
 obtain ⟨z7,hz,hm_z7⟩:=bindE hm
 refine w_cut (fun a' w' => ∃ s_z7 : Unit,z7 = Sum.inr s_z7 ∧ Fr 26 [] a' ∧ SH M X w [eI tS s1 g_s1,eI tS s2 g_s2] w') ?_ ?_
 ·replace hm:=hz
  refine s_reg [] [0,1,12,13] (fS [0,1,12,13] [vL g_s1 s1,vL g_s2 s2,vI (ln s1),vI 0]) [] H4 (by kernel_rfl) trivial fun _ _ H9 hb => ?_
  replace hS:=hS.below hb
  clear H4 hb
  apply w_block
  refine w_loop (fun kk a' w' => ∃ (v10 : Int),slices_Equal_string_string_L1 m s1 s2 kk v10 = some _ ∧ Fr 26 (fS [0,1,12,13] [vL g_s1 s1,vL g_s2 s2,vI (ln s1),vI v10]) a' ∧ SH M X w [eI tS s1 g_s1,eI tS s2 g_s2] w') ⟨_,0,hm,FrG.keep (ks:=[0,1,12,13]) H9 (by kernel_rfl),hS⟩ ?_
  clear hm H9 hS
  rintro kk _ _ ⟨v10,hm,H,hS⟩
  cases kk with
  | zero => exact noneE hm
  | succ kk =>
   rw [slices_Equal_string_string_L1] at hm
   refine s_reg [] [0,1,12,13,14] (fS [0,1,12,13,14] [vL g_s1 s1,vL g_s2 s2,vI (ln s1),vI v10,vB (decide (v10 < (ln s1)))]) [] H (by kernel_rfl) trivial fun _ _ H12 hb => ?_
   replace hS:=hS.below hb
   clear H hb
   apply w_seq
   refine w_if H12 rfl (fun hc => ?_) (fun hc => ?c24)
   case c24 =>
    replace hm:=bF hc hm
    apply w_exit rfl
    obtain rfl:=someE hm
    exact ⟨_,rfl,FrG.keep (ks:=[]) H12 (by kernel_rfl),hS⟩
   replace hm:=bT hc hm
   apply w_skip
   apply w_seq
   apply w_block
   refine s_reg [] [0,1,5,12,13] (fS [0,1,5,12,13] [vL g_s1 s1,vL g_s2 s2,vI v10,vI (ln s1),vI v10]) [] H12 (by kernel_rfl) trivial fun _ _ H14 hb => ?_
   replace hS:=hS.below hb
   clear H12 hb
   obtain ⟨ho15,hm⟩:=chkE hm
   obtain ⟨ho16,hm⟩:=chkE hm
   refine s_draw [(vS (gi s1 v10)),(vS (gi s2 v10))] [0,1,12,13,24] (fS [0,1,12,13,24] [vL g_s1 s1,vL g_s2 s2,vI (ln s1),vI v10,vB (!((gi s1 v10) == (gi s2 v10)))]) [fun _ => oka g_s1.a ∧ 0 ≤ v10 ∧ v10 < ln s1,fun wz => V.at1 ⟨ab g_s1.a,ao g_s1.a + (v10).toNat * 1,none⟩ (vS (gi s1 v10)) wz,fun _ => oka g_s2.a ∧ 0 ≤ v10 ∧ v10 < ln s2,fun wz => V.at1 ⟨ab g_s2.a,ao g_s2.a + (v10).toNat * 1,none⟩ (vS (gi s2 v10)) wz] H14 (by kernel_rfl) (by kernel_rfl) (by kernel_rfl) ⟨((hS.im 0 rfl).oki ho15),((hS.im 0 rfl).at1 ho15 0 rfl),((hS.im 1 rfl).oki ho16),((hS.im 1 rfl).at1 ho16 0 rfl),trivial⟩ fun _ _ H18 hb => ?_
   replace hS:=hS.below hb
   clear H14 hb
   refine w_if H18 rfl (fun hc => ?_) (fun hc => ?c23)
   case c23 =>
    replace hm:=bF hc hm
    apply w_skip
    refine w_reg [] [0,1,12,13] (fS [0,1,12,13] [vL g_s1 s1,vL g_s2 s2,vI (ln s1),vI (w64 (v10 + 1))]) [] H18 (by kernel_rfl) trivial fun _ _ H22 hb => ?_
    replace hS:=hS.below hb
    clear H18 hb
    exact ⟨_,Nat.lt_succ_self _,w64 (v10 + 1),hm,FrG.keep (ks:=[0,1,12,13]) H22 (by kernel_rfl),hS⟩
   replace hm:=bT hc hm
   refine s_reg [] [4] [(4,[],vF)] [] H18 (by kernel_rfl) trivial fun _ _ H20 hb => ?_
   replace hS:=hS.below hb
   clear H18 hb
   apply w_ret
   obtain rfl:=someE hm
   have hm:=hm_z7
   obtain rfl:=someE hm
   exact retR1 H20 rfl rfl ⟨_,rfl,rfl,(hS.sel [] rfl)⟩
 ·rintro _ _ ⟨s_z7,hz,H,hS⟩
  subst hz
  replace hm:=sumR hm_z7
  replace hS : SH M X w [] _:=hS.sel [] rfl
  refine s_reg [] [4] [(4,[],vT)] [] H (by kernel_rfl) trivial fun _ _ H27 hb => ?_
  replace hS:=hS.below hb
  clear H hb
  apply w_ret
  obtain rfl:=someE hm
  exact retR1 H27 rfl rfl ⟨_,rfl,rfl,(hS.sel [] rfl)⟩
theorem slices_Equal_string_string_ok {g_s1 : Gh} {g_s2 : Gh} (m : Nat) (s1 : List Str) (s2 : List Str) (r : Bool) (hm : slices_Equal_string_string m s1 s2 = some r) (w : World) (hL : S0 F0 [eI tS s1 g_s1,eI tS s2 g_s2] w ∧ fpl [eI tS s1 g_s1,eI tS s2 g_s2] = []) : RetB Tryz.prog 49 ⟨[vL g_s1 s1,vL g_s2 s2]⟩ (vB r) w:=retB_of hL (Tryz.call49 _) (fun w' h => slices_Equal_string_string_w F0 m   s1 s2 r hm w' h)

theorem slices_Equal_int_int_w {g_s1 : Gh} {g_s2 : Gh} (M : Av) (m : Nat) (s1 : List Int) (s2 : List Int) (r : Bool) (hm : slices_Equal_int_int m s1 s2 = some r) (w : World) (hS : S0 M [eI (tI .i64) s1 g_s1,eI (tI .i64) s2 g_s2] w) : Calls Tryz.prog 50 ⟨[vL g_s1 s1,vL g_s2 s2]⟩ w (fun e w' => ∃ v,e = .returned v ∧ v = vB r ∧ SH M (fpl [eI (tI .i64) s1 g_s1,eI (tI .i64) s2 g_s2]) w [] w'):=by
 rw [slices_Equal_int_int] at hm
 have hS0 : SH M (fpl [eI (tI .i64) s1 g_s1,eI (tI .i64) s2 g_s2]) w [eI (tI .i64) s1 g_s1,eI (tI .i64) s2 g_s2] w:=hS
 generalize hX : fpl [eI (tI .i64) s1 g_s1,eI (tI .i64) s2 g_s2] = X at hS0 ⊢
 clear hS hX
 have hS:=hS0
 clear hS0
 refine calls_entryP Tryz.func50 rfl Tryz.ntmps50 rfl fun _ H => ?_
 refine s_reg [] [0,1] (fS [0,1] [vL g_s1 s1,vL g_s2 s2]) [] H (by kernel_rfl) trivial fun _ _ H2 hb => ?_
 replace hS:=hS.below hb
 clear H hb
 apply w_seq
 refine s_reg [] [0,1,10] (fS [0,1,10] [vL g_s1 s1,vL g_s2 s2,vB ((ln s1) != (ln s2))]) [] H2 (by kernel_rfl) trivial fun _ _ H4 hb => ?_
 replace hS:=hS.below hb
 clear H2 hb
 refine w_if H4 rfl (fun hc => ?c29) (fun hc => ?_)
 case c29 =>
  replace hm:=bT hc hm
  refine s_reg [] [4] [(4,[],vF)] [] H4 (by kernel_rfl) trivial fun _ _ H6 hb => ?_
  replace hS:=hS.below hb
  clear H4 hb
  replace hS : SH M X w [] _:=hS.sel [] rfl
  apply w_ret
  obtain rfl:=someE hm
  exact retR1 H6 rfl rfl ⟨_,rfl,rfl,(hS.sel [] rfl)⟩
 replace hm:=bF hc hm
 apply w_skip
 obtain ⟨z7,hz,hm_z7⟩:=bindE hm
 refine w_cut (fun a' w' => ∃ s_z7 : Unit,z7 = Sum.inr s_z7 ∧ Fr 26 [] a' ∧ SH M X w [eI (tI .i64) s1 g_s1,eI (tI .i64) s2 g_s2] w') ?_ ?_
 ·replace hm:=hz
  refine s_reg [] [0,1,12,13] (fS [0,1,12,13] [vL g_s1 s1,vL g_s2 s2,vI (ln s1),vI 0]) [] H4 (by kernel_rfl) trivial fun _ _ H9 hb => ?_
  replace hS:=hS.below hb
  clear H4 hb
  apply w_block
  refine w_loop (fun kk a' w' => ∃ (v10 : Int),slices_Equal_int_int_L1 m s1 s2 kk v10 = some _ ∧ Fr 26 (fS [0,1,12,13] [vL g_s1 s1,vL g_s2 s2,vI (ln s1),vI v10]) a' ∧ SH M X w [eI (tI .i64) s1 g_s1,eI (tI .i64) s2 g_s2] w') ⟨_,0,hm,FrG.keep (ks:=[0,1,12,13]) H9 (by kernel_rfl),hS⟩ ?_
  clear hm H9 hS
  rintro kk _ _ ⟨v10,hm,H,hS⟩
  cases kk with
  | zero => exact noneE hm
  | succ kk =>
   rw [slices_Equal_int_int_L1] at hm
   refine s_reg [] [0,1,12,13,14] (fS [0,1,12,13,14] [vL g_s1 s1,vL g_s2 s2,vI (ln s1),vI v10,vB (decide (v10 < (ln s1)))]) [] H (by kernel_rfl) trivial fun _ _ H12 hb => ?_
   replace hS:=hS.below hb
   clear H hb
   apply w_seq
   refine w_if H12 rfl (fun hc => ?_) (fun hc => ?c24)
   case c24 =>
    replace hm:=bF hc hm
    apply w_exit rfl
    obtain rfl:=someE hm
    exact ⟨_,rfl,FrG.keep (ks:=[]) H12 (by kernel_rfl),hS⟩
   replace hm:=bT hc hm
   apply w_skip
   apply w_seq
   apply w_block
   refine s_reg [] [0,1,5,12,13] (fS [0,1,5,12,13] [vL g_s1 s1,vL g_s2 s2,vI v10,vI (ln s1),vI v10]) [] H12 (by kernel_rfl) trivial fun _ _ H14 hb => ?_
   replace hS:=hS.below hb
   clear H12 hb
   obtain ⟨ho15,hm⟩:=chkE hm
   obtain ⟨ho16,hm⟩:=chkE hm
   refine s_draw [(vI (gi s1 v10)),(vI (gi s2 v10))] [0,1,12,13,24] (fS [0,1,12,13,24] [vL g_s1 s1,vL g_s2 s2,vI (ln s1),vI v10,vB ((gi s1 v10) != (gi s2 v10))]) [fun _ => oka g_s1.a ∧ 0 ≤ v10 ∧ v10 < ln s1,fun wz => V.at1 ⟨ab g_s1.a,ao g_s1.a + (v10).toNat * 1,none⟩ (vI (gi s1 v10)) wz,fun _ => oka g_s2.a ∧ 0 ≤ v10 ∧ v10 < ln s2,fun wz => V.at1 ⟨ab g_s2.a,ao g_s2.a + (v10).toNat * 1,none⟩ (vI (gi s2 v10)) wz] H14 (by kernel_rfl) (by kernel_rfl) (by kernel_rfl) ⟨((hS.im 0 rfl).oki ho15),((hS.im 0 rfl).at1 ho15 0 rfl),((hS.im 1 rfl).oki ho16),((hS.im 1 rfl).at1 ho16 0 rfl),trivial⟩ fun _ _ H18 hb => ?_
   replace hS:=hS.below hb
   clear H14 hb
   refine w_if H18 rfl (fun hc => ?_) (fun hc => ?c23)
   case c23 =>
    replace hm:=bF hc hm
    apply w_skip
    refine w_reg [] [0,1,12,13] (fS [0,1,12,13] [vL g_s1 s1,vL g_s2 s2,vI (ln s1),vI (w64 (v10 + 1))]) [] H18 (by kernel_rfl) trivial fun _ _ H22 hb => ?_
    replace hS:=hS.below hb
    clear H18 hb
    exact ⟨_,Nat.lt_succ_self _,w64 (v10 + 1),hm,FrG.keep (ks:=[0,1,12,13]) H22 (by kernel_rfl),hS⟩
   replace hm:=bT hc hm
   refine s_reg [] [4] [(4,[],vF)] [] H18 (by kernel_rfl) trivial fun _ _ H20 hb => ?_
   replace hS:=hS.below hb
   clear H18 hb
   apply w_ret
   obtain rfl:=someE hm
   have hm:=hm_z7
   obtain rfl:=someE hm
   exact retR1 H20 rfl rfl ⟨_,rfl,rfl,(hS.sel [] rfl)⟩
 ·rintro _ _ ⟨s_z7,hz,H,hS⟩
  subst hz
  replace hm:=sumR hm_z7
  replace hS : SH M X w [] _:=hS.sel [] rfl
  refine s_reg [] [4] [(4,[],vT)] [] H (by kernel_rfl) trivial fun _ _ H27 hb => ?_
  replace hS:=hS.below hb
  clear H hb
  apply w_ret
  obtain rfl:=someE hm
  exact retR1 H27 rfl rfl ⟨_,rfl,rfl,(hS.sel [] rfl)⟩
theorem slices_Equal_int_int_ok {g_s1 : Gh} {g_s2 : Gh} (m : Nat) (s1 : List Int) (s2 : List Int) (r : Bool) (hm : slices_Equal_int_int m s1 s2 = some r) (w : World) (hL : S0 F0 [eI (tI .i64) s1 g_s1,eI (tI .i64) s2 g_s2] w ∧ fpl [eI (tI .i64) s1 g_s1,eI (tI .i64) s2 g_s2] = []) : RetB Tryz.prog 50 ⟨[vL g_s1 s1,vL g_s2 s2]⟩ (vB r) w:=retB_of hL (Tryz.call50 _) (fun w' h => slices_Equal_int_int_w F0 m   s1 s2 r hm w' h)

theorem answer_same_w {g_a__0 : Gh} {g_a__1 : Gh} {g_b__0 : Gh} {g_b__1 : Gh} (M : Av) (m : Nat) (a_ : TAnswer) (b_ : TAnswer) (r : Bool) (hm : answer_same m a_ b_ = some r) (w : World) (hS : S0 M [eI tS a_.Texts g_a__0,eI (tI .i64) a_.Numbers g_a__1,eI tS b_.Texts g_b__0,eI (tI .i64) b_.Numbers g_b__1] w) : Calls Tryz.prog 26 ⟨[vG [vI a_.Err,vI a_.Num,vL g_a__0 a_.Texts,vL g_a__1 a_.Numbers],vG [vI b_.Err,vI b_.Num,vL g_b__0 b_.Texts,vL g_b__1 b_.Numbers]]⟩ w (fun e w' => ∃ v,e = .returned v ∧ v = vB r ∧ SH M (fpl [eI tS a_.Texts g_a__0,eI (tI .i64) a_.Numbers g_a__1,eI tS b_.Texts g_b__0,eI (tI .i64) b_.Numbers g_b__1]) w [] w'):=by
 rw [answer_same] at hm
 have hS0 : SH M (fpl [eI tS a_.Texts g_a__0,eI (tI .i64) a_.Numbers g_a__1,eI tS b_.Texts g_b__0,eI (tI .i64) b_.Numbers g_b__1]) w [eI tS a_.Texts g_a__0,eI (tI .i64) a_.Numbers g_a__1,eI tS b_.Texts g_b__0,eI (tI .i64) b_.Numbers g_b__1] w:=hS
 generalize hX : fpl [eI tS a_.Texts g_a__0,eI (tI .i64) a_.Numbers g_a__1,eI tS b_.Texts g_b__0,eI (tI .i64) b_.Numbers g_b__1] = X at hS0 ⊢
 clear hS hX
 have hS:=hS0
 clear hS0
 refine calls_entryP Tryz.func26 rfl Tryz.ntmps26 rfl fun _ H => ?_
 apply w_seq
 apply wl_start
 have hd:=hS.hand [] [0,1,2,3] rfl rfl
 refine m_stp [2,1] [(1,[],vG [vI b_.Err,vI b_.Num,vL g_b__0 b_.Texts,vL g_b__1 b_.Numbers])] H rfl rfl rfl rfl (o_box [vI a_.Err,vI a_.Num,vL g_a__0 a_.Texts,vL g_a__1 a_.Numbers] H hd rfl rfl) (fun _ => rfl) fun _ _ v H3 hq => ?_
 clear H hd
 obtain ⟨b1,rfl,hq⟩:=hq
 replace hS : SH M X w [eB b1 [vI a_.Err,vI a_.Num,vL g_a__0 a_.Texts,vL g_a__1 a_.Numbers],eI tS a_.Texts g_a__0,eI (tI .i64) a_.Numbers g_a__1,eI tS b_.Texts g_b__0,eI (tI .i64) b_.Numbers g_b__1] _:=hS.join [] [0,1,2,3] rfl rfl hq
 clear hq
 have hd:=hS.hand [] [0,1,2,3,4] rfl rfl
 refine m_stp [3,2] [(2,[],vP b1)] H3 rfl rfl rfl rfl (o_box [vI b_.Err,vI b_.Num,vL g_b__0 b_.Texts,vL g_b__1 b_.Numbers] H3 hd rfl rfl) (fun _ => rfl) fun _ _ v H6 hq => ?_
 clear H3 hd
 obtain ⟨b4,rfl,hq⟩:=hq
 replace hS : SH M X w [eB b4 [vI b_.Err,vI b_.Num,vL g_b__0 b_.Texts,vL g_b__1 b_.Numbers],eB b1 [vI a_.Err,vI a_.Num,vL g_a__0 a_.Texts,vL g_a__1 a_.Numbers],eI tS a_.Texts g_a__0,eI (tI .i64) a_.Numbers g_a__1,eI tS b_.Texts g_b__0,eI (tI .i64) b_.Numbers g_b__1] _:=hS.join [] [0,1,2,3,4] rfl rfl hq
 clear hq
 refine wl_batch 2 3 [] [2,3] (fS [2,3] [vP b1,vP b4]) [] H6 (by decide) (by kernel_rfl) trivial fun _ _ H8 hb => ?_
 replace hS:=hS.below hb
 clear H6 hb
 apply wl_end rfl
 obtain ⟨x9,hx9,hm⟩:=letE hm
 obtain ⟨y10,hy10,hm⟩:=bindE hm
 obtain ⟨y11,hy11,hm⟩:=bindE hm
 refine s_reg [(vI a_.Err),(vI b_.Err),(vI a_.Num),(vI b_.Num),(vL g_a__0 a_.Texts),(vL g_b__0 b_.Texts),(vB y10),(vL g_a__1 a_.Numbers),(vL g_b__1 b_.Numbers),(vB y11)] [4] [(4,[],vB (cond (cond x9 y10 false) y11 false))] [rA b1 0 (vI a_.Err),rA b4 0 (vI b_.Err),fun wz => ((a_.Err == b_.Err) = true ∧ True → V.at1 ⟨b1,1,none⟩ (vI a_.Num) wz),fun wz => ((a_.Err == b_.Err) = true ∧ True → V.at1 ⟨b4,1,none⟩ (vI b_.Num) wz),fun wz => (x9 = true ∧ True → V.at1 ⟨b1,2,none⟩ (vL g_a__0 a_.Texts) wz),fun wz => (x9 = true ∧ True → V.at1 ⟨b4,2,none⟩ (vL g_b__0 b_.Texts) wz),fun wz => (x9 = true ∧ True → RetB Tryz.prog 49 ⟨[vL g_a__0 a_.Texts,vL g_b__0 b_.Texts]⟩ (vB y10) wz),fun wz => ((cond x9 y10 false) = true ∧ True → V.at1 ⟨b1,3,none⟩ (vL g_a__1 a_.Numbers) wz),fun wz => ((cond x9 y10 false) = true ∧ True → V.at1 ⟨b4,3,none⟩ (vL g_b__1 b_.Numbers) wz),fun wz => ((cond x9 y10 false) = true ∧ True → RetB Tryz.prog 50 ⟨[vL g_a__1 a_.Numbers,vL g_b__1 b_.Numbers]⟩ (vB y11) wz)] H8 (by subst hx9; kernel_rfl) ⟨((hS.bk 1 rfl).at1 rfl),((hS.bk 0 rfl).at1 rfl),fun hg => (hS.bk 1 rfl).at1 rfl,fun hg => (hS.bk 0 rfl).at1 rfl,fun hg => (hS.bk 1 rfl).at1 rfl,fun hg => (hS.bk 0 rfl).at1 rfl,fun hg => slices_Equal_string_string_ok (g_s1:=g_a__0) (g_s2:=g_b__0) m _ _ _ (bT (hg.1) hy10) _ (s0im (s0im s0nil (hS.im 4 rfl)) (hS.im 2 rfl)),fun hg => (hS.bk 1 rfl).at1 rfl,fun hg => (hS.bk 0 rfl).at1 rfl,fun hg => slices_Equal_int_int_ok (g_s1:=g_a__1) (g_s2:=g_b__1) m _ _ _ (bT (hg.1) hy11) _ (s0im (s0im s0nil (hS.im 5 rfl)) (hS.im 3 rfl)),trivial⟩ fun _ _ H13 hb => ?_
 replace hS:=hS.below hb
 clear H8 hb
 replace hS : SH M X w [] _:=hS.sel [] rfl
 apply w_ret
 obtain rfl:=someE hm
 exact retR1 H13 rfl rfl ⟨_,rfl,rfl,(hS.sel [] rfl)⟩
theorem answer_same_ok {g_a__0 : Gh} {g_a__1 : Gh} {g_b__0 : Gh} {g_b__1 : Gh} (m : Nat) (a_ : TAnswer) (b_ : TAnswer) (r : Bool) (hm : answer_same m a_ b_ = some r) (w : World) (hL : S0 F0 [eI tS a_.Texts g_a__0,eI (tI .i64) a_.Numbers g_a__1,eI tS b_.Texts g_b__0,eI (tI .i64) b_.Numbers g_b__1] w ∧ fpl [eI tS a_.Texts g_a__0,eI (tI .i64) a_.Numbers g_a__1,eI tS b_.Texts g_b__0,eI (tI .i64) b_.Numbers g_b__1] = []) : RetB Tryz.prog 26 ⟨[vG [vI a_.Err,vI a_.Num,vL g_a__0 a_.Texts,vL g_a__1 a_.Numbers],vG [vI b_.Err,vI b_.Num,vL g_b__0 b_.Texts,vL g_b__1 b_.Numbers]]⟩ (vB r) w:=retB_of hL (Tryz.call26 _) (fun w' h => answer_same_w F0 m   a_ b_ r hm w' h)

theorem answer_First_w {g_a_ : Gh} {g_b_ : Gh} (M : Av) (m : Nat) (a_ : List TAnswer) (b_ : List TAnswer) (r : Int × Int) (hm : answer_First m a_ b_ = some r) (w : World) (hS : S0 M [eI tyAnswer a_ g_a_,eI tyAnswer b_ g_b_] w) : Calls Tryz.prog 9 ⟨[vL g_a_ a_,vL g_b_ b_]⟩ w (fun e w' => ∃ v,e = .returned v ∧ v = vW [vI r.1,vI r.2] ∧ SH M (fpl [eI tyAnswer a_ g_a_,eI tyAnswer b_ g_b_]) w [] w'):=by
 rw [answer_First] at hm
 have hS0 : SH M (fpl [eI tyAnswer a_ g_a_,eI tyAnswer b_ g_b_]) w [eI tyAnswer a_ g_a_,eI tyAnswer b_ g_b_] w:=hS
 generalize hX : fpl [eI tyAnswer a_ g_a_,eI tyAnswer b_ g_b_] = X at hS0 ⊢
 clear hS hX
 have hS:=hS0
 clear hS0
 refine calls_entryP Tryz.func9 rfl Tryz.ntmps9 rfl fun _ H => ?_
 refine s_reg [] [0,1] (fS [0,1] [vL g_a_ a_,vL g_b_ b_]) [] H (by kernel_rfl) trivial fun _ _ H2 hb => ?_
 replace hS:=hS.below hb
 clear H hb
 apply w_seq
 obtain ⟨y3,hy3,hm⟩:=bindE hm
 refine s_reg [(vI y3)] [0,1,6] (fS [0,1,6] [vL g_a_ a_,vL g_b_ b_,vI y3]) [rB 13 [vL g_a_ a_] (vI y3)] H2 (by kernel_rfl) ⟨(answer_check_ok (g_l_:=g_a_) m _ _ hy3 _ (s0im s0nil (hS.im 0 rfl))),trivial⟩ fun _ _ H5 hb => ?_
 replace hS:=hS.below hb
 clear H2 hb
 refine s_reg [] [0,1,6,13] (fS [0,1,6,13] [vL g_a_ a_,vL g_b_ b_,vI y3,vB (y3 != 0)]) [] H5 (by kernel_rfl) trivial fun _ _ H7 hb => ?_
 replace hS:=hS.below hb
 clear H5 hb
 refine w_if H7 rfl (fun hc => ?c49) (fun hc => ?_)
 case c49 =>
  replace hm:=bT hc hm
  refine s_reg [] [4,5] (fS [4,5] [vI 0,vI y3]) [] H7 (by kernel_rfl) trivial fun _ _ H9 hb => ?_
  replace hS:=hS.below hb
  clear H7 hb
  replace hS : SH M X w [] _:=hS.sel [] rfl
  apply w_ret
  obtain rfl:=someE hm
  exact retR2 H9 rfl rfl rfl ⟨_,rfl,rfl,(hS.sel [] rfl)⟩
 replace hm:=bF hc hm
 apply w_skip
 apply w_seq
 obtain ⟨y10,hy10,hm⟩:=bindE hm
 refine s_reg [(vI y10)] [0,1,7] (fS [0,1,7] [vL g_a_ a_,vL g_b_ b_,vI y10]) [rB 13 [vL g_b_ b_] (vI y10)] H7 (by kernel_rfl) ⟨(answer_check_ok (g_l_:=g_b_) m _ _ hy10 _ (s0im s0nil (hS.im 1 rfl))),trivial⟩ fun _ _ H12 hb => ?_
 replace hS:=hS.below hb
 clear H7 hb
 refine s_reg [] [0,1,7,18] (fS [0,1,7,18] [vL g_a_ a_,vL g_b_ b_,vI y10,vB (y10 != 0)]) [] H12 (by kernel_rfl) trivial fun _ _ H14 hb => ?_
 replace hS:=hS.below hb
 clear H12 hb
 refine w_if H14 rfl (fun hc => ?c48) (fun hc => ?_)
 case c48 =>
  replace hm:=bT hc hm
  refine s_reg [] [4,5] (fS [4,5] [vI 0,vI y10]) [] H14 (by kernel_rfl) trivial fun _ _ H16 hb => ?_
  replace hS:=hS.below hb
  clear H14 hb
  replace hS : SH M X w [] _:=hS.sel [] rfl
  apply w_ret
  obtain rfl:=someE hm
  exact retR2 H16 rfl rfl rfl ⟨_,rfl,rfl,(hS.sel [] rfl)⟩
 replace hm:=bF hc hm
 apply w_skip
 refine s_reg [] [0,1,8] (fS [0,1,8] [vL g_a_ a_,vL g_b_ b_,vI (if ln b_ < ln a_ then ln b_ else ln a_)]) [] H14 (by kernel_rfl) trivial fun _ _ H18 hb => ?_
 replace hS:=hS.below hb
 clear H14 hb
 obtain ⟨z19,hz,hm_z19⟩:=bindE hm
 refine w_cut (fun a' w' => ∃ s_z19 : Unit,z19 = Sum.inr s_z19 ∧ Fr 47 (fS [0,1,8] [vL g_a_ a_,vL g_b_ b_,vI (if ln b_ < ln a_ then ln b_ else ln a_)]) a' ∧ SH M X w [eI tyAnswer a_ g_a_,eI tyAnswer b_ g_b_] w') ?_ ?_
 ·replace hm:=hz
  refine s_reg [] [0,1,8,25,26] (fS [0,1,8,25,26] [vL g_a_ a_,vL g_b_ b_,vI (if ln b_ < ln a_ then ln b_ else ln a_),vI (if ln b_ < ln a_ then ln b_ else ln a_),vI 0]) [] H18 (by kernel_rfl) trivial fun _ _ H21 hb => ?_
  replace hS:=hS.below hb
  clear H18 hb
  apply w_block
  refine w_loop (fun kk a' w' => ∃ (v22 : Int),answer_First_L1 m a_ b_ kk v22 = some _ ∧ Fr 47 (fS [0,1,8,25,26] [vL g_a_ a_,vL g_b_ b_,vI (if ln b_ < ln a_ then ln b_ else ln a_),vI (if ln b_ < ln a_ then ln b_ else ln a_),vI v22]) a' ∧ SH M X w [eI tyAnswer a_ g_a_,eI tyAnswer b_ g_b_] w') ⟨_,0,hm,FrG.keep (ks:=[0,1,8,25,26]) H21 (by kernel_rfl),hS⟩ ?_
  clear hm H21 hS
  rintro kk _ _ ⟨v22,hm,H,hS⟩
  cases kk with
  | zero => exact noneE hm
  | succ kk =>
   rw [answer_First_L1] at hm
   obtain ⟨x23,hx23,hm⟩:=letE hm
   refine s_reg [] [0,1,8,25,26,27] (fS [0,1,8,25,26,27] [vL g_a_ a_,vL g_b_ b_,vI (if ln b_ < ln a_ then ln b_ else ln a_),vI (if ln b_ < ln a_ then ln b_ else ln a_),vI v22,vB x23]) [] H (by subst hx23; kernel_rfl) trivial fun _ _ H25 hb => ?_
   replace hS:=hS.below hb
   clear H hb
   apply w_seq
   refine w_if H25 rfl (fun hc => ?_) (fun hc => ?c38)
   case c38 =>
    replace hm:=bF hc hm
    apply w_exit rfl
    obtain rfl:=someE hm
    exact ⟨_,rfl,FrG.keep (ks:=[0,1,8]) H25 (by kernel_rfl),hS⟩
   replace hm:=bT hc hm
   apply w_skip
   apply w_seq
   apply w_block
   refine s_reg [] [0,1,8,9,25,26] (fS [0,1,8,9,25,26] [vL g_a_ a_,vL g_b_ b_,vI (if ln b_ < ln a_ then ln b_ else ln a_),vI v22,vI (if ln b_ < ln a_ then ln b_ else ln a_),vI v22]) [] H25 (by kernel_rfl) trivial fun _ _ H27 hb => ?_
   replace hS:=hS.below hb
   clear H25 hb
   obtain ⟨ho28,hm⟩:=chkE hm
   obtain ⟨ho29,hm⟩:=chkE hm
   obtain ⟨y30,hy30,hm⟩:=bindE hm
   refine s_draw [(vG [vI ((gi a_ v22).Err),vI ((gi a_ v22).Num),.slice (g_a_.s (v22).toNat 0).a (((gi a_ v22).Texts).length) (g_a_.s (v22).toNat 0).c,.slice (g_a_.s (v22).toNat 1).a (((gi a_ v22).Numbers).length) (g_a_.s (v22).toNat 1).c]),(vG [vI ((gi b_ v22).Err),vI ((gi b_ v22).Num),.slice (g_b_.s (v22).toNat 0).a (((gi b_ v22).Texts).length) (g_b_.s (v22).toNat 0).c,.slice (g_b_.s (v22).toNat 1).a (((gi b_ v22).Numbers).length) (g_b_.s (v22).toNat 1).c]),(vB y30)] [0,1,8,9,25,26,38] (fS [0,1,8,9,25,26,38] [vL g_a_ a_,vL g_b_ b_,vI (if ln b_ < ln a_ then ln b_ else ln a_),vI v22,vI (if ln b_ < ln a_ then ln b_ else ln a_),vI v22,vB (!y30)]) [fun _ => oka g_a_.a ∧ 0 ≤ v22 ∧ v22 < ln a_,fun wz => V.atN (ab g_a_.a) (ao g_a_.a + (v22).toNat * 4) [vI ((gi a_ v22).Err),vI ((gi a_ v22).Num),.slice (g_a_.s (v22).toNat 0).a (((gi a_ v22).Texts).length) (g_a_.s (v22).toNat 0).c,.slice (g_a_.s (v22).toNat 1).a (((gi a_ v22).Numbers).length) (g_a_.s (v22).toNat 1).c] 0 wz,fun _ => oka g_b_.a ∧ 0 ≤ v22 ∧ v22 < ln b_,fun wz => V.atN (ab g_b_.a) (ao g_b_.a + (v22).toNat * 4) [vI ((gi b_ v22).Err),vI ((gi b_ v22).Num),.slice (g_b_.s (v22).toNat 0).a (((gi b_ v22).Texts).length) (g_b_.s (v22).toNat 0).c,.slice (g_b_.s (v22).toNat 1).a (((gi b_ v22).Numbers).length) (g_b_.s (v22).toNat 1).c] 0 wz,rB 26 [vG [vI ((gi a_ v22).Err),vI ((gi a_ v22).Num),.slice (g_a_.s (v22).toNat 0).a (((gi a_ v22).Texts).length) (g_a_.s (v22).toNat 0).c,.slice (g_a_.s (v22).toNat 1).a (((gi a_ v22).Numbers).length) (g_a_.s (v22).toNat 1).c],vG [vI ((gi b_ v22).Err),vI ((gi b_ v22).Num),.slice (g_b_.s (v22).toNat 0).a (((gi b_ v22).Texts).length) (g_b_.s (v22).toNat 0).c,.slice (g_b_.s (v22).toNat 1).a (((gi b_ v22).Numbers).length) (g_b_.s (v22).toNat 1).c]] (vB y30)] H27 (by kernel_rfl) (by kernel_rfl) (by kernel_rfl) ⟨((hS.im 0 rfl).oki ho28),((hS.im 0 rfl).atA ho28 0 rfl),((hS.im 1 rfl).oki ho29),((hS.im 1 rfl).atA ho29 0 rfl),(answer_same_ok (g_a__0:=(g_a_.s (v22).toNat 0)) (g_a__1:=(g_a_.s (v22).toNat 1)) (g_b__0:=(g_b_.s (v22).toNat 0)) (g_b__1:=(g_b_.s (v22).toNat 1)) m _ _ _ hy30 _ (s0im (s0im (s0im (s0im s0nil (tyAnswer_i1 ((hS.im 1 rfl).el ho29))) (tyAnswer_i0 ((hS.im 1 rfl).el ho29))) (tyAnswer_i1 ((hS.im 0 rfl).el ho28))) (tyAnswer_i0 ((hS.im 0 rfl).el ho28)))),trivial⟩ fun _ _ H32 hb => ?_
   replace hS:=hS.below hb
   clear H27 hb
   refine w_if H32 rfl (fun hc => ?_) (fun hc => ?c37)
   case c37 =>
    replace hm:=bF hc hm
    apply w_skip
    refine w_reg [] [0,1,8,25,26] (fS [0,1,8,25,26] [vL g_a_ a_,vL g_b_ b_,vI (if ln b_ < ln a_ then ln b_ else ln a_),vI (if ln b_ < ln a_ then ln b_ else ln a_),vI (w64 (v22 + 1))]) [] H32 (by kernel_rfl) trivial fun _ _ H36 hb => ?_
    replace hS:=hS.below hb
    clear H32 hb
    exact ⟨_,Nat.lt_succ_self _,w64 (v22 + 1),hm,FrG.keep (ks:=[0,1,8,25,26]) H36 (by kernel_rfl),hS⟩
   replace hm:=bT hc hm
   refine s_reg [] [4,5] (fS [4,5] [vI v22,vI 0]) [] H32 (by kernel_rfl) trivial fun _ _ H34 hb => ?_
   replace hS:=hS.below hb
   clear H32 hb
   apply w_ret
   obtain rfl:=someE hm
   have hm:=hm_z19
   obtain rfl:=someE hm
   exact retR2 H34 rfl rfl rfl ⟨_,rfl,rfl,(hS.sel [] rfl)⟩
 ·rintro _ _ ⟨s_z19,hz,H,hS⟩
  subst hz
  replace hm:=sumR hm_z19
  apply w_seq
  refine s_reg [] [8,45] (fS [8,45] [vI (if ln b_ < ln a_ then ln b_ else ln a_),vB ((ln a_) == (ln b_))]) [] H (by kernel_rfl) trivial fun _ _ H41 hb => ?_
  replace hS:=hS.below hb
  clear H hb
  replace hS : SH M X w [] _:=hS.sel [] rfl
  refine w_if H41 rfl (fun hc => ?c46) (fun hc => ?_)
  case c46 =>
   replace hm:=bT hc hm
   refine s_reg [] [4,5] (fS [4,5] [vI 0,vI 6]) [] H41 (by kernel_rfl) trivial fun _ _ H43 hb => ?_
   replace hS:=hS.below hb
   clear H41 hb
   apply w_ret
   obtain rfl:=someE hm
   exact retR2 H43 rfl rfl rfl ⟨_,rfl,rfl,(hS.sel [] rfl)⟩
  replace hm:=bF hc hm
  apply w_skip
  refine s_reg [] [4,5] (fS [4,5] [vI (if ln b_ < ln a_ then ln b_ else ln a_),vI 0]) [] H41 (by kernel_rfl) trivial fun _ _ H45 hb => ?_
  replace hS:=hS.below hb
  clear H41 hb
  apply w_ret
  obtain rfl:=someE hm
  exact retR2 H45 rfl rfl rfl ⟨_,rfl,rfl,(hS.sel [] rfl)⟩
theorem answer_First_ok {g_a_ : Gh} {g_b_ : Gh} (m : Nat) (a_ : List TAnswer) (b_ : List TAnswer) (r : Int × Int) (hm : answer_First m a_ b_ = some r) (w : World) (hL : S0 F0 [eI tyAnswer a_ g_a_,eI tyAnswer b_ g_b_] w ∧ fpl [eI tyAnswer a_ g_a_,eI tyAnswer b_ g_b_] = []) : RetB Tryz.prog 9 ⟨[vL g_a_ a_,vL g_b_ b_]⟩ (vW [vI r.1,vI r.2]) w:=retB_of hL (Tryz.call9 _) (fun w' h => answer_First_w F0 m   a_ b_ r hm w' h)

theorem r40_Same_w {g_a__0 : Gh} {g_a__1 : Gh} {g_b__0 : Gh} {g_b__1 : Gh} (M : Av) (m : Nat) (a_ : TAnswer) (b_ : TAnswer) (r : Bool) (hm : r40_Same m a_ b_ = some r) (w : World) (hS : S0 M [eI tS a_.Texts g_a__0,eI (tI .i64) a_.Numbers g_a__1,eI tS b_.Texts g_b__0,eI (tI .i64) b_.Numbers g_b__1] w) : Calls Tryz.prog 27 ⟨[vG [vI a_.Err,vI a_.Num,vL g_a__0 a_.Texts,vL g_a__1 a_.Numbers],vG [vI b_.Err,vI b_.Num,vL g_b__0 b_.Texts,vL g_b__1 b_.Numbers]]⟩ w (fun e w' => ∃ v,e = .returned v ∧ v = vB r ∧ SH M (fpl [eI tS a_.Texts g_a__0,eI (tI .i64) a_.Numbers g_a__1,eI tS b_.Texts g_b__0,eI (tI .i64) b_.Numbers g_b__1]) w [] w'):=by
 rw [r40_Same] at hm
 have hS0 : SH M (fpl [eI tS a_.Texts g_a__0,eI (tI .i64) a_.Numbers g_a__1,eI tS b_.Texts g_b__0,eI (tI .i64) b_.Numbers g_b__1]) w [eI tS a_.Texts g_a__0,eI (tI .i64) a_.Numbers g_a__1,eI tS b_.Texts g_b__0,eI (tI .i64) b_.Numbers g_b__1] w:=hS
 generalize hX : fpl [eI tS a_.Texts g_a__0,eI (tI .i64) a_.Numbers g_a__1,eI tS b_.Texts g_b__0,eI (tI .i64) b_.Numbers g_b__1] = X at hS0 ⊢
 clear hS hX
 have hS:=hS0
 clear hS0
 refine calls_entryP Tryz.func27 rfl Tryz.ntmps27 rfl fun _ H => ?_
 apply w_seq
 apply wl_start
 have hd:=hS.hand [] [0,1,2,3] rfl rfl
 refine m_stp [2,1] [(1,[],vG [vI b_.Err,vI b_.Num,vL g_b__0 b_.Texts,vL g_b__1 b_.Numbers])] H rfl rfl rfl rfl (o_box [vI a_.Err,vI a_.Num,vL g_a__0 a_.Texts,vL g_a__1 a_.Numbers] H hd rfl rfl) (fun _ => rfl) fun _ _ v H3 hq => ?_
 clear H hd
 obtain ⟨b1,rfl,hq⟩:=hq
 replace hS : SH M X w [eB b1 [vI a_.Err,vI a_.Num,vL g_a__0 a_.Texts,vL g_a__1 a_.Numbers],eI tS a_.Texts g_a__0,eI (tI .i64) a_.Numbers g_a__1,eI tS b_.Texts g_b__0,eI (tI .i64) b_.Numbers g_b__1] _:=hS.join [] [0,1,2,3] rfl rfl hq
 clear hq
 have hd:=hS.hand [] [0,1,2,3,4] rfl rfl
 refine m_stp [3,2] [(2,[],vP b1)] H3 rfl rfl rfl rfl (o_box [vI b_.Err,vI b_.Num,vL g_b__0 b_.Texts,vL g_b__1 b_.Numbers] H3 hd rfl rfl) (fun _ => rfl) fun _ _ v H6 hq => ?_
 clear H3 hd
 obtain ⟨b4,rfl,hq⟩:=hq
 replace hS : SH M X w [eB b4 [vI b_.Err,vI b_.Num,vL g_b__0 b_.Texts,vL g_b__1 b_.Numbers],eB b1 [vI a_.Err,vI a_.Num,vL g_a__0 a_.Texts,vL g_a__1 a_.Numbers],eI tS a_.Texts g_a__0,eI (tI .i64) a_.Numbers g_a__1,eI tS b_.Texts g_b__0,eI (tI .i64) b_.Numbers g_b__1] _:=hS.join [] [0,1,2,3,4] rfl rfl hq
 clear hq
 refine wl_batch 2 3 [] [2,3] (fS [2,3] [vP b1,vP b4]) [] H6 (by decide) (by kernel_rfl) trivial fun _ _ H8 hb => ?_
 replace hS:=hS.below hb
 clear H6 hb
 apply wl_end rfl
 apply w_seq
 obtain ⟨x9,hx9,hm⟩:=letE hm
 obtain ⟨x10,hx10,hm⟩:=letE hm
 obtain ⟨x11,hx11,hm⟩:=letE hm
 refine s_reg [(vI a_.Err),(vI b_.Err),(vI a_.Num),(vI b_.Num),(vL g_a__0 a_.Texts),(vL g_b__0 b_.Texts),(vL g_a__1 a_.Numbers),(vL g_b__1 b_.Numbers)] [2,3,36] (fS [2,3,36] [vP b1,vP b4,vB x11]) [rA b1 0 (vI a_.Err),rA b4 0 (vI b_.Err),fun wz => ((a_.Err != b_.Err) = false ∧ True → V.at1 ⟨b1,1,none⟩ (vI a_.Num) wz),fun wz => ((a_.Err != b_.Err) = false ∧ True → V.at1 ⟨b4,1,none⟩ (vI b_.Num) wz),fun wz => (x9 = false ∧ True → V.at1 ⟨b1,2,none⟩ (vL g_a__0 a_.Texts) wz),fun wz => (x9 = false ∧ True → V.at1 ⟨b4,2,none⟩ (vL g_b__0 b_.Texts) wz),fun wz => (x10 = false ∧ True → V.at1 ⟨b1,3,none⟩ (vL g_a__1 a_.Numbers) wz),fun wz => (x10 = false ∧ True → V.at1 ⟨b4,3,none⟩ (vL g_b__1 b_.Numbers) wz)] H8 (by subst hx9 hx10 hx11; kernel_rfl) ⟨((hS.bk 1 rfl).at1 rfl),((hS.bk 0 rfl).at1 rfl),fun hg => (hS.bk 1 rfl).at1 rfl,fun hg => (hS.bk 0 rfl).at1 rfl,fun hg => (hS.bk 1 rfl).at1 rfl,fun hg => (hS.bk 0 rfl).at1 rfl,fun hg => (hS.bk 1 rfl).at1 rfl,fun hg => (hS.bk 0 rfl).at1 rfl,trivial⟩ fun _ _ H13 hb => ?_
 replace hS:=hS.below hb
 clear H8 hb
 refine w_if H13 rfl (fun hc => ?c56) (fun hc => ?_)
 case c56 =>
  replace hm:=bT hc hm
  refine s_reg [] [4] [(4,[],vF)] [] H13 (by kernel_rfl) trivial fun _ _ H15 hb => ?_
  replace hS:=hS.below hb
  clear H13 hb
  replace hS : SH M X w [] _:=hS.sel [] rfl
  apply w_ret
  obtain rfl:=someE hm
  exact retR1 H15 rfl rfl ⟨_,rfl,rfl,(hS.sel [] rfl)⟩
 replace hm:=bF hc hm
 apply w_skip
 obtain ⟨z16,hz,hm_z16⟩:=bindE hm
 refine w_cut (fun a' w' => ∃ s_z16 : Unit,z16 = Sum.inr s_z16 ∧ Fr 73 (fS [2,3] [vP b1,vP b4]) a' ∧ SH M X w [eB b4 [vI b_.Err,vI b_.Num,vL g_b__0 b_.Texts,vL g_b__1 b_.Numbers],eB b1 [vI a_.Err,vI a_.Num,vL g_a__0 a_.Texts,vL g_a__1 a_.Numbers],eI tS a_.Texts g_a__0,eI (tI .i64) a_.Numbers g_a__1,eI tS b_.Texts g_b__0,eI (tI .i64) b_.Numbers g_b__1] w') ?_ ?_
 ·replace hm:=hz
  refine s_reg [] [2,3,5] (fS [2,3,5] [vP b1,vP b4,vI 0]) [] H13 (by kernel_rfl) trivial fun _ _ H18 hb => ?_
  replace hS:=hS.below hb
  clear H13 hb
  apply w_block
  refine w_loop (fun kk a' w' => ∃ (v19 : Int),r40_Same_L1 m a_ b_ kk v19 = some _ ∧ Fr 73 (fS [2,3,5] [vP b1,vP b4,vI v19]) a' ∧ SH M X w [eB b4 [vI b_.Err,vI b_.Num,vL g_b__0 b_.Texts,vL g_b__1 b_.Numbers],eB b1 [vI a_.Err,vI a_.Num,vL g_a__0 a_.Texts,vL g_a__1 a_.Numbers],eI tS a_.Texts g_a__0,eI (tI .i64) a_.Numbers g_a__1,eI tS b_.Texts g_b__0,eI (tI .i64) b_.Numbers g_b__1] w') ⟨_,0,hm,FrG.keep (ks:=[2,3,5]) H18 (by kernel_rfl),hS⟩ ?_
  clear hm H18 hS
  rintro kk _ _ ⟨v19,hm,H,hS⟩
  cases kk with
  | zero => exact noneE hm
  | succ kk =>
   rw [r40_Same_L1] at hm
   apply w_seq
   refine s_reg [(vL g_a__0 a_.Texts)] [2,3,5,41] (fS [2,3,5,41] [vP b1,vP b4,vI v19,vB (decide (v19 < (ln a_.Texts)))]) [rA b1 2 (vL g_a__0 a_.Texts)] H (by kernel_rfl) ⟨((hS.bk 1 rfl).at1 rfl),trivial⟩ fun _ _ H21 hb => ?_
   replace hS:=hS.below hb
   clear H hb
   refine w_if H21 rfl (fun hc => ?_) (fun hc => ?c32)
   case c32 =>
    replace hm:=bF hc hm
    apply w_exit rfl
    obtain rfl:=someE hm
    exact ⟨_,rfl,FrG.keep (ks:=[2,3]) H21 (by kernel_rfl),hS⟩
   replace hm:=bT hc hm
   apply w_skip
   apply w_seq
   apply w_block
   obtain ⟨ho22,hm⟩:=chkE hm
   obtain ⟨ho23,hm⟩:=chkE hm
   obtain ⟨x24,hx24,hm⟩:=letE hm
   refine s_draw [(vL g_a__0 a_.Texts),(vS (gi a_.Texts v19)),(vL g_b__0 b_.Texts),(vS (gi b_.Texts v19))] [2,3,5,54] (fS [2,3,5,54] [vP b1,vP b4,vI v19,vB x24]) [rA b1 2 (vL g_a__0 a_.Texts),fun _ => oka g_a__0.a ∧ 0 ≤ v19 ∧ v19 < ln a_.Texts,fun wz => V.at1 ⟨ab g_a__0.a,ao g_a__0.a + (v19).toNat * 1,none⟩ (vS (gi a_.Texts v19)) wz,rA b4 2 (vL g_b__0 b_.Texts),fun _ => oka g_b__0.a ∧ 0 ≤ v19 ∧ v19 < ln b_.Texts,fun wz => V.at1 ⟨ab g_b__0.a,ao g_b__0.a + (v19).toNat * 1,none⟩ (vS (gi b_.Texts v19)) wz] H21 (by kernel_rfl) (by kernel_rfl) (by subst hx24; kernel_rfl) ⟨((hS.bk 1 rfl).at1 rfl),((hS.im 2 rfl).oki ho22),((hS.im 2 rfl).at1 ho22 0 rfl),((hS.bk 0 rfl).at1 rfl),((hS.im 4 rfl).oki ho23),((hS.im 4 rfl).at1 ho23 0 rfl),trivial⟩ fun _ _ H26 hb => ?_
   replace hS:=hS.below hb
   clear H21 hb
   refine w_if H26 rfl (fun hc => ?_) (fun hc => ?c31)
   case c31 =>
    replace hm:=bF hc hm
    apply w_skip
    refine w_reg [] [2,3,5] (fS [2,3,5] [vP b1,vP b4,vI (w64 (v19 + 1))]) [] H26 (by kernel_rfl) trivial fun _ _ H30 hb => ?_
    replace hS:=hS.below hb
    clear H26 hb
    exact ⟨_,Nat.lt_succ_self _,w64 (v19 + 1),hm,FrG.keep (ks:=[2,3,5]) H30 (by kernel_rfl),hS⟩
   replace hm:=bT hc hm
   refine s_reg [] [4] [(4,[],vF)] [] H26 (by kernel_rfl) trivial fun _ _ H28 hb => ?_
   replace hS:=hS.below hb
   clear H26 hb
   apply w_ret
   obtain rfl:=someE hm
   have hm:=hm_z16
   obtain rfl:=someE hm
   exact retR1 H28 rfl rfl ⟨_,rfl,rfl,(hS.sel [] rfl)⟩
 ·rintro _ _ ⟨s_z16,hz,H,hS⟩
  subst hz
  replace hm:=sumR hm_z16
  obtain ⟨z34,hz,hm_z34⟩:=bindE hm
  refine w_cut (fun a' w' => ∃ s_z34 : Unit,z34 = Sum.inr s_z34 ∧ Fr 73 [] a' ∧ SH M X w [eB b4 [vI b_.Err,vI b_.Num,vL g_b__0 b_.Texts,vL g_b__1 b_.Numbers],eB b1 [vI a_.Err,vI a_.Num,vL g_a__0 a_.Texts,vL g_a__1 a_.Numbers],eI tS a_.Texts g_a__0,eI (tI .i64) a_.Numbers g_a__1,eI tS b_.Texts g_b__0,eI (tI .i64) b_.Numbers g_b__1] w') ?_ ?_
  ·replace hm:=hz
   refine s_reg [] [2,3,6] (fS [2,3,6] [vP b1,vP b4,vI 0]) [] H (by kernel_rfl) trivial fun _ _ H36 hb => ?_
   replace hS:=hS.below hb
   clear H hb
   apply w_block
   refine w_loop (fun kk a' w' => ∃ (v37 : Int),r40_Same_L2 m a_ b_ kk v37 = some _ ∧ Fr 73 (fS [2,3,6] [vP b1,vP b4,vI v37]) a' ∧ SH M X w [eB b4 [vI b_.Err,vI b_.Num,vL g_b__0 b_.Texts,vL g_b__1 b_.Numbers],eB b1 [vI a_.Err,vI a_.Num,vL g_a__0 a_.Texts,vL g_a__1 a_.Numbers],eI tS a_.Texts g_a__0,eI (tI .i64) a_.Numbers g_a__1,eI tS b_.Texts g_b__0,eI (tI .i64) b_.Numbers g_b__1] w') ⟨_,0,hm,FrG.keep (ks:=[2,3,6]) H36 (by kernel_rfl),hS⟩ ?_
   clear hm H36 hS
   rintro kk _ _ ⟨v37,hm,H,hS⟩
   cases kk with
   | zero => exact noneE hm
   | succ kk =>
    rw [r40_Same_L2] at hm
    apply w_seq
    refine s_reg [(vL g_a__1 a_.Numbers)] [2,3,6,59] (fS [2,3,6,59] [vP b1,vP b4,vI v37,vB (decide (v37 < (ln a_.Numbers)))]) [rA b1 3 (vL g_a__1 a_.Numbers)] H (by kernel_rfl) ⟨((hS.bk 1 rfl).at1 rfl),trivial⟩ fun _ _ H39 hb => ?_
    replace hS:=hS.below hb
    clear H hb
    refine w_if H39 rfl (fun hc => ?_) (fun hc => ?c50)
    case c50 =>
     replace hm:=bF hc hm
     apply w_exit rfl
     obtain rfl:=someE hm
     exact ⟨_,rfl,FrG.keep (ks:=[]) H39 (by kernel_rfl),hS⟩
    replace hm:=bT hc hm
    apply w_skip
    apply w_seq
    apply w_block
    obtain ⟨ho40,hm⟩:=chkE hm
    obtain ⟨ho41,hm⟩:=chkE hm
    obtain ⟨x42,hx42,hm⟩:=letE hm
    refine s_draw [(vL g_a__1 a_.Numbers),(vI (gi a_.Numbers v37)),(vL g_b__1 b_.Numbers),(vI (gi b_.Numbers v37))] [2,3,6,72] (fS [2,3,6,72] [vP b1,vP b4,vI v37,vB x42]) [rA b1 3 (vL g_a__1 a_.Numbers),fun _ => oka g_a__1.a ∧ 0 ≤ v37 ∧ v37 < ln a_.Numbers,fun wz => V.at1 ⟨ab g_a__1.a,ao g_a__1.a + (v37).toNat * 1,none⟩ (vI (gi a_.Numbers v37)) wz,rA b4 3 (vL g_b__1 b_.Numbers),fun _ => oka g_b__1.a ∧ 0 ≤ v37 ∧ v37 < ln b_.Numbers,fun wz => V.at1 ⟨ab g_b__1.a,ao g_b__1.a + (v37).toNat * 1,none⟩ (vI (gi b_.Numbers v37)) wz] H39 (by kernel_rfl) (by kernel_rfl) (by subst hx42; kernel_rfl) ⟨((hS.bk 1 rfl).at1 rfl),((hS.im 3 rfl).oki ho40),((hS.im 3 rfl).at1 ho40 0 rfl),((hS.bk 0 rfl).at1 rfl),((hS.im 5 rfl).oki ho41),((hS.im 5 rfl).at1 ho41 0 rfl),trivial⟩ fun _ _ H44 hb => ?_
    replace hS:=hS.below hb
    clear H39 hb
    refine w_if H44 rfl (fun hc => ?_) (fun hc => ?c49)
    case c49 =>
     replace hm:=bF hc hm
     apply w_skip
     refine w_reg [] [2,3,6] (fS [2,3,6] [vP b1,vP b4,vI (w64 (v37 + 1))]) [] H44 (by kernel_rfl) trivial fun _ _ H48 hb => ?_
     replace hS:=hS.below hb
     clear H44 hb
     exact ⟨_,Nat.lt_succ_self _,w64 (v37 + 1),hm,FrG.keep (ks:=[2,3,6]) H48 (by kernel_rfl),hS⟩
    replace hm:=bT hc hm
    refine s_reg [] [4] [(4,[],vF)] [] H44 (by kernel_rfl) trivial fun _ _ H46 hb => ?_
    replace hS:=hS.below hb
    clear H44 hb
    apply w_ret
    obtain rfl:=someE hm
    have hm:=hm_z34
    obtain rfl:=someE hm
    exact retR1 H46 rfl rfl ⟨_,rfl,rfl,(hS.sel [] rfl)⟩
  ·rintro _ _ ⟨s_z34,hz,H,hS⟩
   subst hz
   replace hm:=sumR hm_z34
   replace hS : SH M X w [] _:=hS.sel [] rfl
   refine s_reg [] [4] [(4,[],vT)] [] H (by kernel_rfl) trivial fun _ _ H53 hb => ?_
   replace hS:=hS.below hb
   clear H hb
   apply w_ret
   obtain rfl:=someE hm
   exact retR1 H53 rfl rfl ⟨_,rfl,rfl,(hS.sel [] rfl)⟩
theorem r40_Same_ok {g_a__0 : Gh} {g_a__1 : Gh} {g_b__0 : Gh} {g_b__1 : Gh} (m : Nat) (a_ : TAnswer) (b_ : TAnswer) (r : Bool) (hm : r40_Same m a_ b_ = some r) (w : World) (hL : S0 F0 [eI tS a_.Texts g_a__0,eI (tI .i64) a_.Numbers g_a__1,eI tS b_.Texts g_b__0,eI (tI .i64) b_.Numbers g_b__1] w ∧ fpl [eI tS a_.Texts g_a__0,eI (tI .i64) a_.Numbers g_a__1,eI tS b_.Texts g_b__0,eI (tI .i64) b_.Numbers g_b__1] = []) : RetB Tryz.prog 27 ⟨[vG [vI a_.Err,vI a_.Num,vL g_a__0 a_.Texts,vL g_a__1 a_.Numbers],vG [vI b_.Err,vI b_.Num,vL g_b__0 b_.Texts,vL g_b__1 b_.Numbers]]⟩ (vB r) w:=retB_of hL (Tryz.call27 _) (fun w' h => r40_Same_w F0 m   a_ b_ r hm w' h)

theorem r40_First_w {g_a_ : Gh} {g_b_ : Gh} (M : Av) (m : Nat) (a_ : List TAnswer) (b_ : List TAnswer) (r : Int × Int) (hm : r40_First m a_ b_ = some r) (w : World) (hS : S0 M [eI tyAnswer a_ g_a_,eI tyAnswer b_ g_b_] w) : Calls Tryz.prog 10 ⟨[vL g_a_ a_,vL g_b_ b_]⟩ w (fun e w' => ∃ v,e = .returned v ∧ v = vW [vI r.1,vI r.2] ∧ SH M (fpl [eI tyAnswer a_ g_a_,eI tyAnswer b_ g_b_]) w [] w'):=by
 rw [r40_First] at hm
 have hS0 : SH M (fpl [eI tyAnswer a_ g_a_,eI tyAnswer b_ g_b_]) w [eI tyAnswer a_ g_a_,eI tyAnswer b_ g_b_] w:=hS
 generalize hX : fpl [eI tyAnswer a_ g_a_,eI tyAnswer b_ g_b_] = X at hS0 ⊢
 clear hS hX
 have hS:=hS0
 clear hS0
 refine calls_entryP Tryz.func10 rfl Tryz.ntmps10 rfl fun _ H => ?_
 refine s_reg [] [0,1] (fS [0,1] [vL g_a_ a_,vL g_b_ b_]) [] H (by kernel_rfl) trivial fun _ _ H2 hb => ?_
 replace hS:=hS.below hb
 clear H hb
 apply w_seq
 obtain ⟨y3,hy3,hm⟩:=bindE hm
 refine s_reg [(vI y3)] [0,1,6] (fS [0,1,6] [vL g_a_ a_,vL g_b_ b_,vI y3]) [rB 17 [vL g_a_ a_] (vI y3)] H2 (by kernel_rfl) ⟨(r40_Log_ok (g_l_:=g_a_) m _ _ hy3 _ (s0im s0nil (hS.im 0 rfl))),trivial⟩ fun _ _ H5 hb => ?_
 replace hS:=hS.below hb
 clear H2 hb
 refine s_reg [] [0,1,6,12] (fS [0,1,6,12] [vL g_a_ a_,vL g_b_ b_,vI y3,vB (y3 != 0)]) [] H5 (by kernel_rfl) trivial fun _ _ H7 hb => ?_
 replace hS:=hS.below hb
 clear H5 hb
 refine w_if H7 rfl (fun hc => ?c41) (fun hc => ?_)
 case c41 =>
  replace hm:=bT hc hm
  refine s_reg [] [4,5] (fS [4,5] [vI 0,vI y3]) [] H7 (by kernel_rfl) trivial fun _ _ H9 hb => ?_
  replace hS:=hS.below hb
  clear H7 hb
  replace hS : SH M X w [] _:=hS.sel [] rfl
  apply w_ret
  obtain rfl:=someE hm
  exact retR2 H9 rfl rfl rfl ⟨_,rfl,rfl,(hS.sel [] rfl)⟩
 replace hm:=bF hc hm
 apply w_skip
 apply w_seq
 obtain ⟨y10,hy10,hm⟩:=bindE hm
 refine s_reg [(vI y10)] [0,1,7] (fS [0,1,7] [vL g_a_ a_,vL g_b_ b_,vI y10]) [rB 17 [vL g_b_ b_] (vI y10)] H7 (by kernel_rfl) ⟨(r40_Log_ok (g_l_:=g_b_) m _ _ hy10 _ (s0im s0nil (hS.im 1 rfl))),trivial⟩ fun _ _ H12 hb => ?_
 replace hS:=hS.below hb
 clear H7 hb
 refine s_reg [] [0,1,7,17] (fS [0,1,7,17] [vL g_a_ a_,vL g_b_ b_,vI y10,vB (y10 != 0)]) [] H12 (by kernel_rfl) trivial fun _ _ H14 hb => ?_
 replace hS:=hS.below hb
 clear H12 hb
 refine w_if H14 rfl (fun hc => ?c40) (fun hc => ?_)
 case c40 =>
  replace hm:=bT hc hm
  refine s_reg [] [4,5] (fS [4,5] [vI 0,vI y10]) [] H14 (by kernel_rfl) trivial fun _ _ H16 hb => ?_
  replace hS:=hS.below hb
  clear H14 hb
  replace hS : SH M X w [] _:=hS.sel [] rfl
  apply w_ret
  obtain rfl:=someE hm
  exact retR2 H16 rfl rfl rfl ⟨_,rfl,rfl,(hS.sel [] rfl)⟩
 replace hm:=bF hc hm
 apply w_skip
 obtain ⟨z17,hz,hm_z17⟩:=bindE hm
 refine w_cut (fun a' w' => ∃ s_z17 : Unit,z17 = Sum.inr s_z17 ∧ Fr 54 [] a' ∧ SH M X w [eI tyAnswer a_ g_a_,eI tyAnswer b_ g_b_] w') ?_ ?_
 ·replace hm:=hz
  refine s_reg [] [0,1,8] (fS [0,1,8] [vL g_a_ a_,vL g_b_ b_,vI 0]) [] H14 (by kernel_rfl) trivial fun _ _ H19 hb => ?_
  replace hS:=hS.below hb
  clear H14 hb
  apply w_block
  refine w_loop (fun kk a' w' => ∃ (v20 : Int),r40_First_L1 m a_ b_ kk v20 = some _ ∧ Fr 54 (fS [0,1,8] [vL g_a_ a_,vL g_b_ b_,vI v20]) a' ∧ SH M X w [eI tyAnswer a_ g_a_,eI tyAnswer b_ g_b_] w') ⟨_,0,hm,FrG.keep (ks:=[0,1,8]) H19 (by kernel_rfl),hS⟩ ?_
  clear hm H19 hS
  rintro kk _ _ ⟨v20,hm,H,hS⟩
  cases kk with
  | zero => exact noneE hm
  | succ kk =>
   rw [r40_First_L1] at hm
   apply w_seq
   obtain ⟨x21,hx21,hm⟩:=letE hm
   refine s_reg [] [0,1,8,28] (fS [0,1,8,28] [vL g_a_ a_,vL g_b_ b_,vI v20,vB x21]) [] H (by subst hx21; kernel_rfl) trivial fun _ _ H23 hb => ?_
   replace hS:=hS.below hb
   clear H hb
   refine w_if H23 rfl (fun hc => ?_) (fun hc => ?c35)
   case c35 =>
    replace hm:=bF hc hm
    apply w_exit rfl
    obtain rfl:=someE hm
    exact ⟨_,rfl,FrG.keep (ks:=[]) H23 (by kernel_rfl),hS⟩
   replace hm:=bT hc hm
   apply w_skip
   apply w_seq
   apply w_block
   obtain ⟨x24,hx24,hm⟩:=letE hm
   obtain ⟨ho25,hm⟩:=chkE hm
   obtain ⟨ho26,hm⟩:=chkE hm
   obtain ⟨y27,hy27,hm⟩:=bindE hm
   refine s_draw [(vG [vI ((gi a_ v20).Err),vI ((gi a_ v20).Num),.slice (g_a_.s (v20).toNat 0).a (((gi a_ v20).Texts).length) (g_a_.s (v20).toNat 0).c,.slice (g_a_.s (v20).toNat 1).a (((gi a_ v20).Numbers).length) (g_a_.s (v20).toNat 1).c]),(vG [vI ((gi b_ v20).Err),vI ((gi b_ v20).Num),.slice (g_b_.s (v20).toNat 0).a (((gi b_ v20).Texts).length) (g_b_.s (v20).toNat 0).c,.slice (g_b_.s (v20).toNat 1).a (((gi b_ v20).Numbers).length) (g_b_.s (v20).toNat 1).c]),(vB y27)] [0,1,8,52] (fS [0,1,8,52] [vL g_a_ a_,vL g_b_ b_,vI v20,vB (cond x24 true (!y27))]) [fun _ => (x24 = false ∧ True → oka g_a_.a ∧ 0 ≤ v20 ∧ v20 < ln a_),fun wz => (x24 = false ∧ True → V.atN (ab g_a_.a) (ao g_a_.a + (v20).toNat * 4) [vI ((gi a_ v20).Err),vI ((gi a_ v20).Num),.slice (g_a_.s (v20).toNat 0).a (((gi a_ v20).Texts).length) (g_a_.s (v20).toNat 0).c,.slice (g_a_.s (v20).toNat 1).a (((gi a_ v20).Numbers).length) (g_a_.s (v20).toNat 1).c] 0 wz),fun _ => (x24 = false ∧ True → oka g_b_.a ∧ 0 ≤ v20 ∧ v20 < ln b_),fun wz => (x24 = false ∧ True → V.atN (ab g_b_.a) (ao g_b_.a + (v20).toNat * 4) [vI ((gi b_ v20).Err),vI ((gi b_ v20).Num),.slice (g_b_.s (v20).toNat 0).a (((gi b_ v20).Texts).length) (g_b_.s (v20).toNat 0).c,.slice (g_b_.s (v20).toNat 1).a (((gi b_ v20).Numbers).length) (g_b_.s (v20).toNat 1).c] 0 wz),fun wz => (x24 = false ∧ True → RetB Tryz.prog 27 ⟨[vG [vI ((gi a_ v20).Err),vI ((gi a_ v20).Num),.slice (g_a_.s (v20).toNat 0).a (((gi a_ v20).Texts).length) (g_a_.s (v20).toNat 0).c,.slice (g_a_.s (v20).toNat 1).a (((gi a_ v20).Numbers).length) (g_a_.s (v20).toNat 1).c],vG [vI ((gi b_ v20).Err),vI ((gi b_ v20).Num),.slice (g_b_.s (v20).toNat 0).a (((gi b_ v20).Texts).length) (g_b_.s (v20).toNat 0).c,.slice (g_b_.s (v20).toNat 1).a (((gi b_ v20).Numbers).length) (g_b_.s (v20).toNat 1).c]]⟩ (vB y27) wz)] H23 (by kernel_rfl) (by kernel_rfl) (by subst hx24; kernel_rfl) ⟨fun hg => (hS.im 0 rfl).oki (ho25 hg.1),fun hg => (hS.im 0 rfl).atA (ho25 hg.1) 0 rfl,fun hg => (hS.im 1 rfl).oki (ho26 hg.1),fun hg => (hS.im 1 rfl).atA (ho26 hg.1) 0 rfl,fun hg => r40_Same_ok (g_a__0:=(g_a_.s (v20).toNat 0)) (g_a__1:=(g_a_.s (v20).toNat 1)) (g_b__0:=(g_b_.s (v20).toNat 0)) (g_b__1:=(g_b_.s (v20).toNat 1)) m _ _ _ (bF (hg.1) hy27) _ (s0im (s0im (s0im (s0im s0nil (tyAnswer_i1 ((hS.im 1 rfl).el (ho26 hg.1)))) (tyAnswer_i0 ((hS.im 1 rfl).el (ho26 hg.1)))) (tyAnswer_i1 ((hS.im 0 rfl).el (ho25 hg.1)))) (tyAnswer_i0 ((hS.im 0 rfl).el (ho25 hg.1)))),trivial⟩ fun _ _ H29 hb => ?_
   replace hS:=hS.below hb
   clear H23 hb
   refine w_if H29 rfl (fun hc => ?_) (fun hc => ?c34)
   case c34 =>
    replace hm:=bF hc hm
    apply w_skip
    refine w_reg [] [0,1,8] (fS [0,1,8] [vL g_a_ a_,vL g_b_ b_,vI (w64 (v20 + 1))]) [] H29 (by kernel_rfl) trivial fun _ _ H33 hb => ?_
    replace hS:=hS.below hb
    clear H29 hb
    exact ⟨_,Nat.lt_succ_self _,w64 (v20 + 1),hm,FrG.keep (ks:=[0,1,8]) H33 (by kernel_rfl),hS⟩
   replace hm:=bT hc hm
   refine s_reg [] [4,5] (fS [4,5] [vI v20,vI 0]) [] H29 (by kernel_rfl) trivial fun _ _ H31 hb => ?_
   replace hS:=hS.below hb
   clear H29 hb
   apply w_ret
   obtain rfl:=someE hm
   have hm:=hm_z17
   obtain rfl:=someE hm
   exact retR2 H31 rfl rfl rfl ⟨_,rfl,rfl,(hS.sel [] rfl)⟩
 ·rintro _ _ ⟨s_z17,hz,H,hS⟩
  subst hz
  replace hm:=sumR hm_z17
  replace hS : SH M X w [] _:=hS.sel [] rfl
  refine s_reg [] [4,5] (fS [4,5] [vI 0,vI 6]) [] H (by kernel_rfl) trivial fun _ _ H38 hb => ?_
  replace hS:=hS.below hb
  clear H hb
  apply w_ret
  obtain rfl:=someE hm
  exact retR2 H38 rfl rfl rfl ⟨_,rfl,rfl,(hS.sel [] rfl)⟩
theorem r40_First_ok {g_a_ : Gh} {g_b_ : Gh} (m : Nat) (a_ : List TAnswer) (b_ : List TAnswer) (r : Int × Int) (hm : r40_First m a_ b_ = some r) (w : World) (hL : S0 F0 [eI tyAnswer a_ g_a_,eI tyAnswer b_ g_b_] w ∧ fpl [eI tyAnswer a_ g_a_,eI tyAnswer b_ g_b_] = []) : RetB Tryz.prog 10 ⟨[vL g_a_ a_,vL g_b_ b_]⟩ (vW [vI r.1,vI r.2]) w:=retB_of hL (Tryz.call10 _) (fun w' h => r40_First_w F0 m   a_ b_ r hm w' h)

theorem r40_SameAll_w {g_a_ : Gh} {g_b_ : Gh} (M : Av) (m : Nat) (a_ : List TAnswer) (b_ : List TAnswer) (r : Bool) (hm : r40_SameAll m a_ b_ = some r) (w : World) (hS : S0 M [eI tyAnswer a_ g_a_,eI tyAnswer b_ g_b_] w) : Calls Tryz.prog 11 ⟨[vL g_a_ a_,vL g_b_ b_]⟩ w (fun e w' => ∃ v,e = .returned v ∧ v = vB r ∧ SH M (fpl [eI tyAnswer a_ g_a_,eI tyAnswer b_ g_b_]) w [] w'):=by
 rw [r40_SameAll] at hm
 have hS0 : SH M (fpl [eI tyAnswer a_ g_a_,eI tyAnswer b_ g_b_]) w [eI tyAnswer a_ g_a_,eI tyAnswer b_ g_b_] w:=hS
 generalize hX : fpl [eI tyAnswer a_ g_a_,eI tyAnswer b_ g_b_] = X at hS0 ⊢
 clear hS hX
 have hS:=hS0
 clear hS0
 refine calls_entryP Tryz.func11 rfl Tryz.ntmps11 rfl fun _ H => ?_
 refine s_reg [] [0,1] (fS [0,1] [vL g_a_ a_,vL g_b_ b_]) [] H (by kernel_rfl) trivial fun _ _ H2 hb => ?_
 replace hS:=hS.below hb
 clear H hb
 apply w_seq
 refine s_reg [] [0,1,10] (fS [0,1,10] [vL g_a_ a_,vL g_b_ b_,vB ((ln a_) != (ln b_))]) [] H2 (by kernel_rfl) trivial fun _ _ H4 hb => ?_
 replace hS:=hS.below hb
 clear H2 hb
 refine w_if H4 rfl (fun hc => ?c28) (fun hc => ?_)
 case c28 =>
  replace hm:=bT hc hm
  refine s_reg [] [4] [(4,[],vF)] [] H4 (by kernel_rfl) trivial fun _ _ H6 hb => ?_
  replace hS:=hS.below hb
  clear H4 hb
  replace hS : SH M X w [] _:=hS.sel [] rfl
  apply w_ret
  obtain rfl:=someE hm
  exact retR1 H6 rfl rfl ⟨_,rfl,rfl,(hS.sel [] rfl)⟩
 replace hm:=bF hc hm
 apply w_skip
 obtain ⟨z7,hz,hm_z7⟩:=bindE hm
 refine w_cut (fun a' w' => ∃ s_z7 : Unit,z7 = Sum.inr s_z7 ∧ Fr 27 [] a' ∧ SH M X w [eI tyAnswer a_ g_a_,eI tyAnswer b_ g_b_] w') ?_ ?_
 ·replace hm:=hz
  refine s_reg [] [0,1,5] (fS [0,1,5] [vL g_a_ a_,vL g_b_ b_,vI 0]) [] H4 (by kernel_rfl) trivial fun _ _ H9 hb => ?_
  replace hS:=hS.below hb
  clear H4 hb
  apply w_block
  refine w_loop (fun kk a' w' => ∃ (v10 : Int),r40_SameAll_L1 m a_ b_ kk v10 = some _ ∧ Fr 27 (fS [0,1,5] [vL g_a_ a_,vL g_b_ b_,vI v10]) a' ∧ SH M X w [eI tyAnswer a_ g_a_,eI tyAnswer b_ g_b_] w') ⟨_,0,hm,FrG.keep (ks:=[0,1,5]) H9 (by kernel_rfl),hS⟩ ?_
  clear hm H9 hS
  rintro kk _ _ ⟨v10,hm,H,hS⟩
  cases kk with
  | zero => exact noneE hm
  | succ kk =>
   rw [r40_SameAll_L1] at hm
   apply w_seq
   refine s_reg [] [0,1,5,14] (fS [0,1,5,14] [vL g_a_ a_,vL g_b_ b_,vI v10,vB (decide (v10 < (ln a_)))]) [] H (by kernel_rfl) trivial fun _ _ H12 hb => ?_
   replace hS:=hS.below hb
   clear H hb
   refine w_if H12 rfl (fun hc => ?_) (fun hc => ?c23)
   case c23 =>
    replace hm:=bF hc hm
    apply w_exit rfl
    obtain rfl:=someE hm
    exact ⟨_,rfl,FrG.keep (ks:=[]) H12 (by kernel_rfl),hS⟩
   replace hm:=bT hc hm
   apply w_skip
   apply w_seq
   apply w_block
   obtain ⟨ho13,hm⟩:=chkE hm
   obtain ⟨ho14,hm⟩:=chkE hm
   obtain ⟨y15,hy15,hm⟩:=bindE hm
   refine s_draw [(vG [vI ((gi a_ v10).Err),vI ((gi a_ v10).Num),.slice (g_a_.s (v10).toNat 0).a (((gi a_ v10).Texts).length) (g_a_.s (v10).toNat 0).c,.slice (g_a_.s (v10).toNat 1).a (((gi a_ v10).Numbers).length) (g_a_.s (v10).toNat 1).c]),(vG [vI ((gi b_ v10).Err),vI ((gi b_ v10).Num),.slice (g_b_.s (v10).toNat 0).a (((gi b_ v10).Texts).length) (g_b_.s (v10).toNat 0).c,.slice (g_b_.s (v10).toNat 1).a (((gi b_ v10).Numbers).length) (g_b_.s (v10).toNat 1).c]),(vB y15)] [0,1,5,26] (fS [0,1,5,26] [vL g_a_ a_,vL g_b_ b_,vI v10,vB (!y15)]) [fun _ => oka g_a_.a ∧ 0 ≤ v10 ∧ v10 < ln a_,fun wz => V.atN (ab g_a_.a) (ao g_a_.a + (v10).toNat * 4) [vI ((gi a_ v10).Err),vI ((gi a_ v10).Num),.slice (g_a_.s (v10).toNat 0).a (((gi a_ v10).Texts).length) (g_a_.s (v10).toNat 0).c,.slice (g_a_.s (v10).toNat 1).a (((gi a_ v10).Numbers).length) (g_a_.s (v10).toNat 1).c] 0 wz,fun _ => oka g_b_.a ∧ 0 ≤ v10 ∧ v10 < ln b_,fun wz => V.atN (ab g_b_.a) (ao g_b_.a + (v10).toNat * 4) [vI ((gi b_ v10).Err),vI ((gi b_ v10).Num),.slice (g_b_.s (v10).toNat 0).a (((gi b_ v10).Texts).length) (g_b_.s (v10).toNat 0).c,.slice (g_b_.s (v10).toNat 1).a (((gi b_ v10).Numbers).length) (g_b_.s (v10).toNat 1).c] 0 wz,rB 27 [vG [vI ((gi a_ v10).Err),vI ((gi a_ v10).Num),.slice (g_a_.s (v10).toNat 0).a (((gi a_ v10).Texts).length) (g_a_.s (v10).toNat 0).c,.slice (g_a_.s (v10).toNat 1).a (((gi a_ v10).Numbers).length) (g_a_.s (v10).toNat 1).c],vG [vI ((gi b_ v10).Err),vI ((gi b_ v10).Num),.slice (g_b_.s (v10).toNat 0).a (((gi b_ v10).Texts).length) (g_b_.s (v10).toNat 0).c,.slice (g_b_.s (v10).toNat 1).a (((gi b_ v10).Numbers).length) (g_b_.s (v10).toNat 1).c]] (vB y15)] H12 (by kernel_rfl) (by kernel_rfl) (by kernel_rfl) ⟨((hS.im 0 rfl).oki ho13),((hS.im 0 rfl).atA ho13 0 rfl),((hS.im 1 rfl).oki ho14),((hS.im 1 rfl).atA ho14 0 rfl),(r40_Same_ok (g_a__0:=(g_a_.s (v10).toNat 0)) (g_a__1:=(g_a_.s (v10).toNat 1)) (g_b__0:=(g_b_.s (v10).toNat 0)) (g_b__1:=(g_b_.s (v10).toNat 1)) m _ _ _ hy15 _ (s0im (s0im (s0im (s0im s0nil (tyAnswer_i1 ((hS.im 1 rfl).el ho14))) (tyAnswer_i0 ((hS.im 1 rfl).el ho14))) (tyAnswer_i1 ((hS.im 0 rfl).el ho13))) (tyAnswer_i0 ((hS.im 0 rfl).el ho13)))),trivial⟩ fun _ _ H17 hb => ?_
   replace hS:=hS.below hb
   clear H12 hb
   refine w_if H17 rfl (fun hc => ?_) (fun hc => ?c22)
   case c22 =>
    replace hm:=bF hc hm
    apply w_skip
    refine w_reg [] [0,1,5] (fS [0,1,5] [vL g_a_ a_,vL g_b_ b_,vI (w64 (v10 + 1))]) [] H17 (by kernel_rfl) trivial fun _ _ H21 hb => ?_
    replace hS:=hS.below hb
    clear H17 hb
    exact ⟨_,Nat.lt_succ_self _,w64 (v10 + 1),hm,FrG.keep (ks:=[0,1,5]) H21 (by kernel_rfl),hS⟩
   replace hm:=bT hc hm
   refine s_reg [] [4] [(4,[],vF)] [] H17 (by kernel_rfl) trivial fun _ _ H19 hb => ?_
   replace hS:=hS.below hb
   clear H17 hb
   apply w_ret
   obtain rfl:=someE hm
   have hm:=hm_z7
   obtain rfl:=someE hm
   exact retR1 H19 rfl rfl ⟨_,rfl,rfl,(hS.sel [] rfl)⟩
 ·rintro _ _ ⟨s_z7,hz,H,hS⟩
  subst hz
  replace hm:=sumR hm_z7
  replace hS : SH M X w [] _:=hS.sel [] rfl
  refine s_reg [] [4] [(4,[],vT)] [] H (by kernel_rfl) trivial fun _ _ H26 hb => ?_
  replace hS:=hS.below hb
  clear H hb
  apply w_ret
  obtain rfl:=someE hm
  exact retR1 H26 rfl rfl ⟨_,rfl,rfl,(hS.sel [] rfl)⟩
theorem r40_SameAll_ok {g_a_ : Gh} {g_b_ : Gh} (m : Nat) (a_ : List TAnswer) (b_ : List TAnswer) (r : Bool) (hm : r40_SameAll m a_ b_ = some r) (w : World) (hL : S0 F0 [eI tyAnswer a_ g_a_,eI tyAnswer b_ g_b_] w ∧ fpl [eI tyAnswer a_ g_a_,eI tyAnswer b_ g_b_] = []) : RetB Tryz.prog 11 ⟨[vL g_a_ a_,vL g_b_ b_]⟩ (vB r) w:=retB_of hL (Tryz.call11 _) (fun w' h => r40_SameAll_w F0 m   a_ b_ r hm w' h)

theorem law40_AnswerTexts_w {g_l_ : Gh} {g_m_ : Gh} (M : Av) (m : Nat) (l_ : List TAnswer) (m_ : List TAnswer) (s : Str) (r : Bool) (hm : law40_AnswerTexts m l_ m_ s = some r) (w : World) (hS : S0 M [eI tyAnswer l_ g_l_,eI tyAnswer m_ g_m_,Ent.tab 1 (Lib.pow10Tab.map fun z => Value.int .u64 z),Ent.gifc 2,Ent.gifc 3] w) : Calls Tryz.prog 3 ⟨[vL g_l_ l_,vL g_m_ m_,vS s]⟩ w (fun e w' => ∃ v,e = .returned v ∧ v = vB r ∧ SH M (fpl [eI tyAnswer l_ g_l_,eI tyAnswer m_ g_m_,Ent.tab 1 (Lib.pow10Tab.map fun z => Value.int .u64 z),Ent.gifc 2,Ent.gifc 3]) w [] w'):=by
 rw [law40_AnswerTexts] at hm
 have hS0 : SH M (fpl [eI tyAnswer l_ g_l_,eI tyAnswer m_ g_m_,Ent.tab 1 (Lib.pow10Tab.map fun z => Value.int .u64 z),Ent.gifc 2,Ent.gifc 3]) w [eI tyAnswer l_ g_l_,eI tyAnswer m_ g_m_,Ent.tab 1 (Lib.pow10Tab.map fun z => Value.int .u64 z),Ent.gifc 2,Ent.gifc 3] w:=hS
 generalize hX : fpl [eI tyAnswer l_ g_l_,eI tyAnswer m_ g_m_,Ent.tab 1 (Lib.pow10Tab.map fun z => Value.int .u64 z),Ent.gifc 2,Ent.gifc 3] = X at hS0 ⊢
 clear hS hX
 have hS:=hS0
 clear hS0
 refine calls_entryP Tryz.func3 rfl Tryz.ntmps3 rfl fun _ H => ?_
 refine s_reg [] [0,1,2] (fS [0,1,2] [vL g_l_ l_,vL g_m_ m_,vS s]) [] H (by kernel_rfl) trivial fun _ _ H2 hb => ?_
 replace hS:=hS.below hb
 clear H hb
 apply w_seq
 obtain ⟨y3,hy3,hm⟩:=bindE hm
 obtain ⟨y4,hy4,hm⟩:=bindE hm
 obtain ⟨x5,hx5,hm⟩:=letE hm
 refine s_reg [(vB y3),(vB y4)] [0,1,2,39] (fS [0,1,2,39] [vL g_l_ l_,vL g_m_ m_,vS s,vB (cond x5 true (decide (5400100 < (ln s))))]) [rB 4 [vL g_l_ l_] (vB y3),fun wz => (y3 = false ∧ True → RetB Tryz.prog 4 ⟨[vL g_m_ m_]⟩ (vB y4) wz)] H2 (by subst hx5; kernel_rfl) ⟨(r40_Great_ok (g_l_:=g_l_) m _ _ hy3 _ (s0im s0nil (hS.im 0 rfl))),fun hg => r40_Great_ok (g_l_:=g_m_) m _ _ (bF (hg.1) hy4) _ (s0im s0nil (hS.im 1 rfl)),trivial⟩ fun _ _ H7 hb => ?_
 replace hS:=hS.below hb
 clear H2 hb
 refine w_if H7 rfl (fun hc => ?c46) (fun hc => ?_)
 case c46 =>
  replace hm:=bT hc hm
  refine s_reg [] [6] [(6,[],vT)] [] H7 (by kernel_rfl) trivial fun _ _ H9 hb => ?_
  replace hS:=hS.below hb
  clear H7 hb
  replace hS : SH M X w [Ent.tab 1 (Lib.pow10Tab.map fun z => Value.int .u64 z),Ent.gifc 2,Ent.gifc 3] _:=hS.sel [2,3,4] rfl
  apply w_ret
  obtain rfl:=someE hm
  exact retR1 H9 rfl rfl ⟨_,rfl,rfl,(hS.sel [] rfl)⟩
 replace hm:=bF hc hm
 apply w_skip
 obtain ⟨y10,hy10,hm⟩:=bindE hm
 refine s_reg [(vW [vS y10.1,vI y10.2])] [0,1,2,7,8] (fS [0,1,2,7,8] [vL g_l_ l_,vL g_m_ m_,vS s,vS y10.1,vI y10.2]) [rB 5 [vL g_l_ l_] (vW [vS y10.1,vI y10.2])] H7 (by kernel_rfl) ⟨(answer_Text_ok (g_l_:=g_l_) m _ _ hy10 _ (s0im (s0tab s0nil (hS.at 2 rfl)) (hS.im 0 rfl))),trivial⟩ fun _ _ H12 hb => ?_
 replace hS:=hS.below hb
 clear H7 hb
 obtain ⟨y13,hy13,hm⟩:=bindE hm
 refine s_reg [(vW [vS y13.1,vI y13.2])] [0,1,2,7,8,9,10] (fS [0,1,2,7,8,9,10] [vL g_l_ l_,vL g_m_ m_,vS s,vS y10.1,vI y10.2,vS y13.1,vI y13.2]) [rB 6 [vL g_l_ l_] (vW [vS y13.1,vI y13.2])] H12 (by kernel_rfl) ⟨(r40_Text_ok (g_l_:=g_l_) m _ _ hy13 _ (s0im s0nil (hS.im 0 rfl))),trivial⟩ fun _ _ H15 hb => ?_
 replace hS:=hS.below hb
 clear H12 hb
 apply w_seq
 apply wl_start
 refine wl_batch 0 1 [] [0,1,2,7,8,9,10,51] (fS [0,1,2,7,8,9,10,51] [vL g_l_ l_,vL g_m_ m_,vS s,vS y10.1,vI y10.2,vS y13.1,vI y13.2,vS s]) [] H15 (by decide) (by kernel_rfl) trivial fun _ _ H17 hb => ?_
 replace hS:=hS.below hb
 clear H15 hb
 obtain ⟨y18,hy18,hm⟩:=bindE hm
 have hd:=hS.hand [3,4,2] [0,1,2,3,4] rfl rfl
 refine m_stp [52,0,1,2,7,8,9,10] (fS [0,1,2,7,8,9,10] [vL g_l_ l_,vL g_m_ m_,vS s,vS y10.1,vI y10.2,vS y13.1,vI y13.2]) H17 rfl rfl rfl rfl (o_callx H17 rfl rfl (answer_ReadText_ok m _ _ hy18 _ _ hd)) (fun _ => rfl) fun _ _ v H22 hq => ?_
 clear H17 hd
 obtain ⟨g19,rfl,hq⟩:=hq
 replace hS : SH M X w [eO 43 tyAnswer y18.1 g19,eI tyAnswer l_ g_l_,eI tyAnswer m_ g_m_,Ent.tab 1 (Lib.pow10Tab.map fun z => Value.int .u64 z),Ent.gifc 2,Ent.gifc 3] _:=hS.join [3,4,2] [0,1,2,3,4] rfl rfl hq
 clear hq
 refine wl_batch 2 7 [] [0,1,2,7,8,9,10,11,12] (fS [0,1,2,7,8,9,10,11,12] [vL g_l_ l_,vL g_m_ m_,vS s,vS y10.1,vI y10.2,vS y13.1,vI y13.2,vL g19 y18.1,vI y18.2]) [] H22 (by decide) (by kernel_rfl) trivial fun _ _ H24 hb => ?_
 replace hS:=hS.below hb
 clear H22 hb
 apply wl_end rfl
 apply w_seq
 apply wl_start
 refine wl_batch 0 1 [] [0,1,7,8,9,10,11,12,56] (fS [0,1,7,8,9,10,11,12,56] [vL g_l_ l_,vL g_m_ m_,vS y10.1,vI y10.2,vS y13.1,vI y13.2,vL g19 y18.1,vI y18.2,vS s]) [] H24 (by decide) (by kernel_rfl) trivial fun _ _ H26 hb => ?_
 replace hS:=hS.below hb
 clear H24 hb
 obtain ⟨y27,hy27,hm⟩:=bindE hm
 have hd:=hS.hand [] [0,1,2,3,4,5] rfl rfl
 refine m_stp [57,0,1,7,8,9,10,11,12] (fS [0,1,7,8,9,10,11,12] [vL g_l_ l_,vL g_m_ m_,vS y10.1,vI y10.2,vS y13.1,vI y13.2,vL g19 y18.1,vI y18.2]) H26 rfl rfl rfl rfl (o_callx H26 rfl rfl (r40_ReadText_ok m _ _ hy27 _ _ hd)) (fun _ => rfl) fun _ _ v H31 hq => ?_
 clear H26 hd
 obtain ⟨g28,rfl,hq⟩:=hq
 replace hS : SH M X w [eO 43 tyAnswer y27.1 g28,eO 43 tyAnswer y18.1 g19,eI tyAnswer l_ g_l_,eI tyAnswer m_ g_m_,Ent.tab 1 (Lib.pow10Tab.map fun z => Value.int .u64 z),Ent.gifc 2,Ent.gifc 3] _:=hS.join [] [0,1,2,3,4,5] rfl rfl hq
 clear hq
 refine wl_batch 2 7 [] [0,1,7,8,9,10,11,12,13,14] (fS [0,1,7,8,9,10,11,12,13,14] [vL g_l_ l_,vL g_m_ m_,vS y10.1,vI y10.2,vS y13.1,vI y13.2,vL g19 y18.1,vI y18.2,vL g28 y27.1,vI y27.2]) [] H31 (by decide) (by kernel_rfl) trivial fun _ _ H33 hb => ?_
 replace hS:=hS.below hb
 clear H31 hb
 apply wl_end rfl
 obtain ⟨y34,hy34,hm⟩:=bindE hm
 refine s_reg [(vW [vI y34.1,vI y34.2])] [0,1,7,8,9,10,11,12,13,14,15,16] (fS [0,1,7,8,9,10,11,12,13,14,15,16] [vL g_l_ l_,vL g_m_ m_,vS y10.1,vI y10.2,vS y13.1,vI y13.2,vL g19 y18.1,vI y18.2,vL g28 y27.1,vI y27.2,vI y34.1,vI y34.2]) [rB 9 [vL g_l_ l_,vL g_m_ m_] (vW [vI y34.1,vI y34.2])] H33 (by kernel_rfl) ⟨(answer_First_ok (g_a_:=g_l_) (g_b_:=g_m_) m _ _ _ hy34 _ (s0im (s0im s0nil (hS.im 3 rfl)) (hS.im 2 rfl))),trivial⟩ fun _ _ H36 hb => ?_
 replace hS:=hS.below hb
 clear H33 hb
 obtain ⟨y37,hy37,hm⟩:=bindE hm
 refine s_reg [(vW [vI y37.1,vI y37.2])] [7,8,9,10,11,12,13,14,15,16,17,18] (fS [7,8,9,10,11,12,13,14,15,16,17,18] [vS y10.1,vI y10.2,vS y13.1,vI y13.2,vL g19 y18.1,vI y18.2,vL g28 y27.1,vI y27.2,vI y34.1,vI y34.2,vI y37.1,vI y37.2]) [rB 10 [vL g_l_ l_,vL g_m_ m_] (vW [vI y37.1,vI y37.2])] H36 (by kernel_rfl) ⟨(r40_First_ok (g_a_:=g_l_) (g_b_:=g_m_) m _ _ _ hy37 _ (s0im (s0im s0nil (hS.im 3 rfl)) (hS.im 2 rfl))),trivial⟩ fun _ _ H39 hb => ?_
 replace hS:=hS.below hb
 clear H36 hb
 replace hS : SH M X w [eO 43 tyAnswer y27.1 g28,eO 43 tyAnswer y18.1 g19,Ent.tab 1 (Lib.pow10Tab.map fun z => Value.int .u64 z),Ent.gifc 2,Ent.gifc 3] _:=hS.sel [0,1,4,5,6] rfl
 obtain ⟨x40,hx40,hm⟩:=letE hm
 obtain ⟨y41,hy41,hm⟩:=bindE hm
 obtain ⟨x42,hx42,hm⟩:=letE hm
 obtain ⟨x43,hx43,hm⟩:=letE hm
 refine s_reg [(vB y41)] [6] [(6,[],vB x43)] [fun wz => (x40 = true ∧ True → RetB Tryz.prog 11 ⟨[vL g19 y18.1,vL g28 y27.1]⟩ (vB y41) wz)] H39 (by subst hx40 hx42 hx43; kernel_rfl) ⟨fun hg => r40_SameAll_ok (g_a_:=g19) (g_b_:=g28) m _ _ _ (bT (hg.1) hy41) _ (s0im (s0im s0nil (hS.osl 0 rfl)) (hS.osl 1 rfl)),trivial⟩ fun _ _ H45 hb => ?_
 replace hS:=hS.below hb
 clear H39 hb
 replace hS : SH M X w [Ent.tab 1 (Lib.pow10Tab.map fun z => Value.int .u64 z),Ent.gifc 2,Ent.gifc 3] _:=hS.sel [2,3,4] rfl
 apply w_ret
 obtain rfl:=someE hm
 exact retR1 H45 rfl rfl ⟨_,rfl,rfl,(hS.sel [] rfl)⟩
theorem law40_AnswerTexts_ok {g_l_ : Gh} {g_m_ : Gh} (m : Nat) (l_ : List TAnswer) (m_ : List TAnswer) (s : Str) (r : Bool) (hm : law40_AnswerTexts m l_ m_ s = some r) (w : World) (hL : S0 F0 [eI tyAnswer l_ g_l_,eI tyAnswer m_ g_m_,Ent.tab 1 (Lib.pow10Tab.map fun z => Value.int .u64 z),Ent.gifc 2,Ent.gifc 3] w ∧ fpl [eI tyAnswer l_ g_l_,eI tyAnswer m_ g_m_,Ent.tab 1 (Lib.pow10Tab.map fun z => Value.int .u64 z),Ent.gifc 2,Ent.gifc 3] = []) : RetB Tryz.prog 3 ⟨[vL g_l_ l_,vL g_m_ m_,vS s]⟩ (vB r) w:=retB_of hL (Tryz.call3 _) (fun w' h => law40_AnswerTexts_w F0 m   l_ m_ s r hm w' h)

end Go.Proofs.YtipafpkdkhnjmaaGreatDoor
