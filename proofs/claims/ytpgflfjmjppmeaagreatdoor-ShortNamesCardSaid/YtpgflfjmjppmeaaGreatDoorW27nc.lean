/-
  What the Go functions compute, as Lean functions, and that a call returns just that. Printed by a program.
-/
import Derived.Test.YtpgflfjmjppmeaaGreatDoorRows
import Derived.Test.YtpgflfjmjppmeaaGreatDoorX
import Derived.Test.YtpgflfjmjppmeaaGreatDoorMP
import Derived.Test.YtpgflfjmjppmeaaGreatDoorCO
import Derived.Test.YtpgflfjmjppmeaaGreatDoorAF
import Derived.Test.YtpgflfjmjppmeaaGreatDoorM
import Derived.Test.YtpgflfjmjppmeaaGreatDoorW27nb
set_option linter.unusedVariables false
set_option maxRecDepth 20000
set_option maxHeartbeats 4000000
namespace Go.Proofs.YtpgflfjmjppmeaaGreatDoor
open Go.V Go.RowKit

theorem parseval_color_w {g_v__0 : Gh} (M : Av) (m : Nat) (v_ : TValue) (r : TColor × Bool) (hm : parseval_color m v_ = some r) (w : World) (hS : S0 M [eI tyValue v_.List_ g_v__0] w) : Calls Tryz.prog 68 ⟨[vG [vU v_.Token.Kind,vS v_.Token.Text,vI v_.Token.Num,vS v_.Token.Unit,vB v_.Token.Flag,vL g_v__0 v_.List_]]⟩ w (fun e w' => ∃ v,e = .returned v ∧ v = vW [vG (cC r.1),vB r.2] ∧ SH M (fpl [eI tyValue v_.List_ g_v__0]) w [] w'):=by
 rw [parseval_color] at hm
 have hS0 : SH M (fpl [eI tyValue v_.List_ g_v__0]) w [eI tyValue v_.List_ g_v__0] w:=hS
 generalize hX : fpl [eI tyValue v_.List_ g_v__0] = X at hS0 ⊢
 clear hS hX
 have hS:=hS0
 clear hS0
 refine calls_entryP Tryz.func68 rfl Tryz.ntmps68 rfl fun _ H => ?_
 apply w_seq
 apply wl_start
 have hd:=hS.hand [] [0] rfl rfl
 refine m_stp [1] [] H rfl rfl rfl rfl (o_box [vU v_.Token.Kind,vS v_.Token.Text,vI v_.Token.Num,vS v_.Token.Unit,vB v_.Token.Flag,vL g_v__0 v_.List_] H hd rfl rfl) (fun _ => rfl) fun _ _ v H3 hq => ?_
 obtain ⟨b1,rfl,hq⟩:=hq
 replace hS : SH M X w [eB b1 [vU v_.Token.Kind,vS v_.Token.Text,vI v_.Token.Num,vS v_.Token.Unit,vB v_.Token.Flag,vL g_v__0 v_.List_],eI tyValue v_.List_ g_v__0] _:=hS.join [] [0] rfl rfl hq
 have hd:=hS.hand [] [0,1] rfl rfl
 refine m_stp [2,1] [(1,[],vP b1)] H3 rfl rfl rfl rfl (o_alloc [vU 0,vU 0,vU 0,vU 0] (z:=vG [vU 0,vU 0,vU 0,vU 0]) hd (by kernel_rfl) rfl) (fun _ => rfl) fun _ _ v H6 hq => ?_
 obtain ⟨b4,rfl,hq⟩:=hq
 replace hS : SH M X w [eB b4 [vU 0,vU 0,vU 0,vU 0],eB b1 [vU v_.Token.Kind,vS v_.Token.Text,vI v_.Token.Num,vS v_.Token.Unit,vB v_.Token.Flag,vL g_v__0 v_.List_],eI tyValue v_.List_ g_v__0] _:=hS.join [] [0,1] rfl rfl hq
 refine wl_batch 2 3 [] [1,2] (fS [1,2] [vP b1,vP b4]) [] H6 (by decide) (by kernel_rfl) trivial fun _ _ H8 hb => ?_
 replace hS:=hS.below hb
 apply wl_end rfl
 obtain ⟨z9,hz,hm_z9⟩:=bindE hm
 refine w_cut (fun a' w' => ∃ s_z9 : Unit,z9 = Sum.inr s_z9 ∧ Fr 48 [(2,[],vP b4)] a' ∧ SH M X w [eB b4 [vU 0,vU 0,vU 0,vU 0],eB b1 [vU v_.Token.Kind,vS v_.Token.Text,vI v_.Token.Num,vS v_.Token.Unit,vB v_.Token.Flag,vL g_v__0 v_.List_],eI tyValue v_.List_ g_v__0] w') ?_ ?_
 ·replace hm:=hz
  refine s_reg [(vU v_.Token.Kind)] [1,2,9] (fS [1,2,9] [vP b1,vP b4,vU v_.Token.Kind]) [rA b1 0 (vU v_.Token.Kind)] H8 (by kernel_rfl) ⟨((hS.bk 1 rfl).at1 rfl),trivial⟩ fun _ _ H11 hb => ?_
  replace hS:=hS.below hb
  apply w_block
  refine s_reg [] [1,2,9,10] (fS [1,2,9,10] [vP b1,vP b4,vU v_.Token.Kind,vB (v_.Token.Kind == 1)]) [] H11 (by kernel_rfl) trivial fun _ _ H13 hb => ?_
  replace hS:=hS.below hb
  refine w_if H13 rfl (fun hc => ?c57) (fun hc => ?_)
  case c57 =>
   replace hm:=bT hc hm
   apply w_seq
   apply wl_start
   obtain ⟨y14,hy14,hm⟩:=bindE hm
   refine wl_batch 0 7 [(vS v_.Token.Text),(vW [vG (cC y14.1),vI y14.2])] [2,17,18] (fS [2,17,18] [vP b4,vG (cC y14.1),vI y14.2]) [rA b1 1 (vS v_.Token.Text),rB 86 [vS v_.Token.Text] (vW [vG (cC y14.1),vI y14.2])] H13 (by decide) (by kernel_rfl) ⟨((hS.bk 1 rfl).at1 rfl),((parseval_Named_ok m _ _ hy14).b),trivial⟩ fun _ _ H16 hb => ?_
   replace hS:=hS.below hb
   have hd:=hS.hand [] [0,1,2] rfl rfl
   refine m_stp [4,2,17,18] (fS [2,17,18] [vP b4,vG (cC y14.1),vI y14.2]) H16 rfl rfl rfl rfl (o_alloc [vU 0,vU 0,vU 0,vU 0] (z:=vG [vU 0,vU 0,vU 0,vU 0]) hd (by kernel_rfl) rfl) (fun _ => rfl) fun _ _ v H19 hq => ?_
   obtain ⟨b17,rfl,hq⟩:=hq
   replace hS : SH M X w [eB b17 [vU 0,vU 0,vU 0,vU 0],eB b4 [vU 0,vU 0,vU 0,vU 0],eB b1 [vU v_.Token.Kind,vS v_.Token.Text,vI v_.Token.Num,vS v_.Token.Unit,vB v_.Token.Flag,vL g_v__0 v_.List_],eI tyValue v_.List_ g_v__0] _:=hS.join [] [0,1,2] rfl rfl hq
   have hd:=hS.hand [0] [1,2,3] rfl rfl
   refine m_stp0 [2,4,18] (fS [2,4,18] [vP b4,vP b17,vI y14.2]) H19 rfl rfl rfl (o_store (cC y14.1) H19 hd rfl rfl (by kernel_rfl) rfl rfl rfl) rfl fun _ _ H21 hq => ?_
   obtain ⟨_,hq⟩:=hq
   replace hS : SH M X w [eB b17 (cC y14.1),eB b4 [vU 0,vU 0,vU 0,vU 0],eB b1 [vU v_.Token.Kind,vS v_.Token.Text,vI v_.Token.Num,vS v_.Token.Unit,vB v_.Token.Flag,vL g_v__0 v_.List_],eI tyValue v_.List_ g_v__0] _:=hS.join [0] [1,2,3] rfl rfl hq
   refine wl_batch 9 10 [] [2,4,5] (fS [2,4,5] [vP b4,vP b17,vI y14.2]) [] H21 (by decide) (by kernel_rfl) trivial fun _ _ H23 hb => ?_
   replace hS:=hS.below hb
   apply wl_end rfl
   apply w_seq
   apply wl_start
   refine wl_batch 0 3 [(vG (cC y14.1))] [2,19,21] (fS [2,19,21] [vP b4,vG (cC y14.1),vB (y14.2 == 0)]) [rN b17 0 (cC y14.1)] H23 (by decide) (by kernel_rfl) ⟨((hS.bk 0 rfl).atD rfl),trivial⟩ fun _ _ H25 hb => ?_
   replace hS:=hS.below hb
   have hd:=hS.hand [1] [0,2,3] rfl rfl
   refine m_stp0 [2,21] (fS [2,21] [vP b4,vB (y14.2 == 0)]) H25 rfl rfl rfl (o_store (cC y14.1) H25 hd rfl rfl (by kernel_rfl) rfl rfl rfl) rfl fun _ _ H27 hq => ?_
   obtain ⟨_,hq⟩:=hq
   replace hS : SH M X w [eB b4 (cC y14.1),eB b17 (cC y14.1),eB b1 [vU v_.Token.Kind,vS v_.Token.Text,vI v_.Token.Num,vS v_.Token.Unit,vB v_.Token.Flag,vL g_v__0 v_.List_],eI tyValue v_.List_ g_v__0] _:=hS.join [1] [0,2,3] rfl rfl hq
   refine wl_batch 4 5 [] [2,3] (fS [2,3] [vP b4,vB (y14.2 == 0)]) [] H27 (by decide) (by kernel_rfl) trivial fun _ _ H29 hb => ?_
   replace hS:=hS.below hb
   apply wl_end rfl
   replace hS : SH M X w [eB b4 (cC y14.1),eB b1 [vU v_.Token.Kind,vS v_.Token.Text,vI v_.Token.Num,vS v_.Token.Unit,vB v_.Token.Flag,vL g_v__0 v_.List_],eI tyValue v_.List_ g_v__0] _:=hS.sel [0,2,3] rfl
   apply w_ret
   obtain rfl:=someE hm
   have hm:=hm_z9
   obtain rfl:=someE hm
   exact retR2 H29 rfl (oneRes_agg rfl (hS.bk 0 rfl) Tryz.underlying55 rfl (by kernel_rfl)) rfl ⟨_,rfl,rfl,(hS.sel [] rfl)⟩
  replace hm:=bF hc hm
  refine s_reg [] [1,2,9,22] (fS [1,2,9,22] [vP b1,vP b4,vU v_.Token.Kind,vB (v_.Token.Kind == 4)]) [] H13 (by kernel_rfl) trivial fun _ _ H31 hb => ?_
  replace hS:=hS.below hb
  refine w_if H31 rfl (fun hc => ?c56) (fun hc => ?_)
  case c56 =>
   replace hm:=bT hc hm
   apply w_seq
   apply wl_start
   obtain ⟨y32,hy32,hm⟩:=bindE hm
   refine wl_batch 0 6 [(vS v_.Token.Text),(vW [vG (cC y32.1),vB y32.2])] [2,28,29] (fS [2,28,29] [vP b4,vG (cC y32.1),vB y32.2]) [rA b1 1 (vS v_.Token.Text),rB 87 [vS v_.Token.Text] (vW [vG (cC y32.1),vB y32.2])] H31 (by decide) (by kernel_rfl) ⟨((hS.bk 1 rfl).at1 rfl),((parseval_hash_ok m _ _ hy32).b),trivial⟩ fun _ _ H34 hb => ?_
   replace hS:=hS.below hb
   have hd:=hS.hand [0] [1,2] rfl rfl
   refine m_stp0 [2,29] (fS [2,29] [vP b4,vB y32.2]) H34 rfl rfl rfl (o_store (cC y32.1) H34 hd rfl rfl (by kernel_rfl) rfl rfl rfl) rfl fun _ _ H36 hq => ?_
   obtain ⟨_,hq⟩:=hq
   replace hS : SH M X w [eB b4 (cC y32.1),eB b1 [vU v_.Token.Kind,vS v_.Token.Text,vI v_.Token.Num,vS v_.Token.Unit,vB v_.Token.Flag,vL g_v__0 v_.List_],eI tyValue v_.List_ g_v__0] _:=hS.join [0] [1,2] rfl rfl hq
   refine wl_batch 7 8 [] [2,3] (fS [2,3] [vP b4,vB y32.2]) [] H36 (by decide) (by kernel_rfl) trivial fun _ _ H38 hb => ?_
   replace hS:=hS.below hb
   apply wl_end rfl
   apply w_ret
   obtain rfl:=someE hm
   have hm:=hm_z9
   obtain rfl:=someE hm
   exact retR2 H38 rfl (oneRes_agg rfl (hS.bk 0 rfl) Tryz.underlying55 rfl (by kernel_rfl)) rfl ⟨_,rfl,rfl,(hS.sel [] rfl)⟩
  replace hm:=bF hc hm
  refine s_reg [] [1,2,30] (fS [1,2,30] [vP b1,vP b4,vB (v_.Token.Kind == 2)]) [] H31 (by kernel_rfl) trivial fun _ _ H40 hb => ?_
  replace hS:=hS.below hb
  refine w_if H40 rfl (fun hc => ?_) (fun hc => ?c55)
  case c55 =>
   replace hm:=bF hc hm
   apply w_skip
   obtain rfl:=someE hm
   exact ⟨_,rfl,FrG.keep (ks:=[2]) H40 (by kernel_rfl),hS⟩
  replace hm:=bT hc hm
  obtain ⟨y41,hy41,hm⟩:=bindE hm
  refine s_reg [(vS v_.Token.Text),(vS y41)] [1,2,6] (fS [1,2,6] [vP b1,vP b4,vS y41]) [rA b1 1 (vS v_.Token.Text),rB 69 [vS v_.Token.Text] (vS y41)] H40 (by kernel_rfl) ⟨((hS.bk 1 rfl).at1 rfl),((parseval_small_ok m _ _ hy41).b),trivial⟩ fun _ _ H43 hb => ?_
  replace hS:=hS.below hb
  obtain ⟨x44,hx44,hm⟩:=letE hm
  refine s_reg [] [1,2,41] (fS [1,2,41] [vP b1,vP b4,vB x44]) [] H43 (by subst hx44; kernel_rfl) trivial fun _ _ H46 hb => ?_
  replace hS:=hS.below hb
  refine w_if H46 rfl (fun hc => ?_) (fun hc => ?c54)
  case c54 =>
   replace hm:=bF hc hm
   apply w_skip
   obtain rfl:=someE hm
   exact ⟨_,rfl,FrG.keep (ks:=[2]) H46 (by kernel_rfl),hS⟩
  replace hm:=bT hc hm
  apply w_seq
  apply wl_start
  obtain ⟨y47,hy47,hm⟩:=bindE hm
  refine wl_batch 0 5 [(vL g_v__0 v_.List_),(vW [vG (cC y47.1),vB y47.2])] [2,45,46] (fS [2,45,46] [vP b4,vG (cC y47.1),vB y47.2]) [rA b1 5 (vL g_v__0 v_.List_),rB 88 [vL g_v__0 v_.List_] (vW [vG (cC y47.1),vB y47.2])] H46 (by decide) (by kernel_rfl) ⟨((hS.bk 1 rfl).at1 rfl),(parseval_rgb_ok (g_l_:=g_v__0) m _ _ hy47 _ (s0im s0nil (hS.im 2 rfl))),trivial⟩ fun _ _ H49 hb => ?_
  replace hS:=hS.below hb
  have hd:=hS.hand [0] [1,2] rfl rfl
  refine m_stp0 [2,46] (fS [2,46] [vP b4,vB y47.2]) H49 rfl rfl rfl (o_store (cC y47.1) H49 hd rfl rfl (by kernel_rfl) rfl rfl rfl) rfl fun _ _ H51 hq => ?_
  obtain ⟨_,hq⟩:=hq
  replace hS : SH M X w [eB b4 (cC y47.1),eB b1 [vU v_.Token.Kind,vS v_.Token.Text,vI v_.Token.Num,vS v_.Token.Unit,vB v_.Token.Flag,vL g_v__0 v_.List_],eI tyValue v_.List_ g_v__0] _:=hS.join [0] [1,2] rfl rfl hq
  refine wl_batch 6 7 [] [2,3] (fS [2,3] [vP b4,vB y47.2]) [] H51 (by decide) (by kernel_rfl) trivial fun _ _ H53 hb => ?_
  replace hS:=hS.below hb
  apply wl_end rfl
  apply w_ret
  obtain rfl:=someE hm
  have hm:=hm_z9
  obtain rfl:=someE hm
  exact retR2 H53 rfl (oneRes_agg rfl (hS.bk 0 rfl) Tryz.underlying55 rfl (by kernel_rfl)) rfl ⟨_,rfl,rfl,(hS.sel [] rfl)⟩
 ·rintro _ _ ⟨s_z9,hz,H,hS⟩
  subst hz
  replace hm:=sumR hm_z9
  replace hS : SH M X w [eB b4 [vU 0,vU 0,vU 0,vU 0]] _:=hS.sel [0] rfl
  apply w_seq
  apply wl_start
  refine wl_batch 0 1 [] [2,47] (fS [2,47] [vP b4,vG [vU 0,vU 0,vU 0,vU 0]]) [] H (by decide) (by kernel_rfl) trivial fun _ _ H59 hb => ?_
  replace hS:=hS.below hb
  have hd:=hS.hand [0] [] rfl rfl
  refine m_stp0 [2] [(2,[],vP b4)] H59 rfl rfl rfl (o_store [vU 0,vU 0,vU 0,vU 0] H59 hd rfl rfl (by kernel_rfl) rfl rfl rfl) rfl fun _ _ H61 hq => ?_
  obtain ⟨_,hq⟩:=hq
  replace hS : SH M X w [eB b4 [vU 0,vU 0,vU 0,vU 0]] _:=hS.join [0] [] rfl rfl hq
  refine wl_batch 2 3 [] [2,3] (fS [2,3] [vP b4,vF]) [] H61 (by decide) (by kernel_rfl) trivial fun _ _ H63 hb => ?_
  replace hS:=hS.below hb
  apply wl_end rfl
  apply w_ret
  obtain rfl:=someE hm
  exact retR2 H63 rfl (oneRes_agg rfl (hS.bk 0 rfl) Tryz.underlying55 rfl (by kernel_rfl)) rfl ⟨_,rfl,rfl,(hS.sel [] rfl)⟩
theorem parseval_color_ok {g_v__0 : Gh} (m : Nat) (v_ : TValue) (r : TColor × Bool) (hm : parseval_color m v_ = some r) (w : World) (hL : S0 F0 [eI tyValue v_.List_ g_v__0] w ∧ fpl [eI tyValue v_.List_ g_v__0] = []) : RetB Tryz.prog 68 ⟨[vG [vU v_.Token.Kind,vS v_.Token.Text,vI v_.Token.Num,vS v_.Token.Unit,vB v_.Token.Flag,vL g_v__0 v_.List_]]⟩ (vW [vG (cC r.1),vB r.2]) w:=retB_of hL (Tryz.call68 _) (fun w' h => parseval_color_w F0 m   v_ r hm w' h)

theorem parseval_maybe_w {g_v__0 : Gh} (M : Av) (m : Nat) (v_ : TValue) (r : List TVal) (hm : parseval_maybe m v_ = some r) (w : World) (hS : S0 M [eI tyValue v_.List_ g_v__0] w) : Calls Tryz.prog 46 ⟨[vG [vU v_.Token.Kind,vS v_.Token.Text,vI v_.Token.Num,vS v_.Token.Unit,vB v_.Token.Flag,vL g_v__0 v_.List_]]⟩ w (fun e w' => ∃ v,e = .returned v ∧ ∃ (g901 : Gh),v = vL g901 r ∧ SH M (fpl [eI tyValue v_.List_ g_v__0]) w [eO 57 tyVal r g901] w'):=by
 rw [parseval_maybe] at hm
 have hS0 : SH M (fpl [eI tyValue v_.List_ g_v__0]) w [eI tyValue v_.List_ g_v__0] w:=hS
 generalize hX : fpl [eI tyValue v_.List_ g_v__0] = X at hS0 ⊢
 clear hS hX
 have hS:=hS0
 clear hS0
 refine calls_entryP Tryz.func46 rfl Tryz.ntmps46 rfl fun _ H => ?_
 apply w_seq
 apply wl_start
 have hd:=hS.hand [] [0] rfl rfl
 refine m_stp [1] [] H rfl rfl rfl rfl (o_box [vU v_.Token.Kind,vS v_.Token.Text,vI v_.Token.Num,vS v_.Token.Unit,vB v_.Token.Flag,vL g_v__0 v_.List_] H hd rfl rfl) (fun _ => rfl) fun _ _ v H3 hq => ?_
 obtain ⟨b1,rfl,hq⟩:=hq
 replace hS : SH M X w [eB b1 [vU v_.Token.Kind,vS v_.Token.Text,vI v_.Token.Num,vS v_.Token.Unit,vB v_.Token.Flag,vL g_v__0 v_.List_],eI tyValue v_.List_ g_v__0] _:=hS.join [] [0] rfl rfl hq
 refine wl_batch 1 2 [] [1] [(1,[],vP b1)] [] H3 (by decide) (by kernel_rfl) trivial fun _ _ H5 hb => ?_
 replace hS:=hS.below hb
 apply wl_end rfl
 apply w_seq
 apply wl_start
 refine wl_batch 0 2 [(vG (cT v_.Token))] [1,10] (fS [1,10] [vP b1,vG (cT v_.Token)]) [rN b1 0 (cT v_.Token)] H5 (by decide) (by kernel_rfl) ⟨((hS.bk 0 rfl).atD rfl),trivial⟩ fun _ _ H7 hb => ?_
 replace hS:=hS.below hb
 have hd:=hS.hand [] [0,1] rfl rfl
 refine m_stp [3,1,10] (fS [1,10] [vP b1,vG (cT v_.Token)]) H7 rfl rfl rfl rfl (o_alloc [vU 0,vN,vI 0,vN,vF] (z:=vG [vU 0,vN,vI 0,vN,vF]) hd (by kernel_rfl) rfl) (fun _ => rfl) fun _ _ v H10 hq => ?_
 obtain ⟨b8,rfl,hq⟩:=hq
 replace hS : SH M X w [eB b8 [vU 0,vN,vI 0,vN,vF],eB b1 [vU v_.Token.Kind,vS v_.Token.Text,vI v_.Token.Num,vS v_.Token.Unit,vB v_.Token.Flag,vL g_v__0 v_.List_],eI tyValue v_.List_ g_v__0] _:=hS.join [] [0,1] rfl rfl hq
 have hd:=hS.hand [0] [1,2] rfl rfl
 refine m_stp0 [1,3] (fS [1,3] [vP b1,vP b8]) H10 rfl rfl rfl (o_store (cT v_.Token) H10 hd rfl rfl (by kernel_rfl) rfl rfl rfl) rfl fun _ _ H12 hq => ?_
 obtain ⟨_,hq⟩:=hq
 replace hS : SH M X w [eB b8 (cT v_.Token),eB b1 [vU v_.Token.Kind,vS v_.Token.Text,vI v_.Token.Num,vS v_.Token.Unit,vB v_.Token.Flag,vL g_v__0 v_.List_],eI tyValue v_.List_ g_v__0] _:=hS.join [0] [1,2] rfl rfl hq
 apply wl_end rfl
 refine s_reg [] [1,3,4] (fS [1,3,4] [vP b1,vP b8,vO]) [] H12 (by kernel_rfl) trivial fun _ _ H14 hb => ?_
 replace hS:=hS.below hb
 obtain ⟨z15,hz,hm⟩:=bindE hm
 refine w_cut (fun a' w' => ∃ (g44 : Gh),Fr 82 (fS [3,4] [vP b8,vL g44 z15]) a' ∧ SH M X w [eO 57 tyVal z15 g44,eB b8 (cT v_.Token),eB b1 [vU v_.Token.Kind,vS v_.Token.Text,vI v_.Token.Num,vS v_.Token.Unit,vB v_.Token.Flag,vL g_v__0 v_.List_],eI tyValue v_.List_ g_v__0] w') ?_ ?_
 ·replace hm:=hz
  apply w_seq
  apply wl_start
  obtain ⟨y16,hy16,hm⟩:=bindE hm
  refine wl_batch 0 5 [(vG [vU v_.Token.Kind,vS v_.Token.Text,vI v_.Token.Num,vS v_.Token.Unit,vB v_.Token.Flag,vL g_v__0 v_.List_]),(vW [vG (cC y16.1),vB y16.2])] [3,4,14,15] (fS [3,4,14,15] [vP b8,vO,vG (cC y16.1),vB y16.2]) [rN b1 0 [vU v_.Token.Kind,vS v_.Token.Text,vI v_.Token.Num,vS v_.Token.Unit,vB v_.Token.Flag,vL g_v__0 v_.List_],rB 68 [vG [vU v_.Token.Kind,vS v_.Token.Text,vI v_.Token.Num,vS v_.Token.Unit,vB v_.Token.Flag,vL g_v__0 v_.List_]] (vW [vG (cC y16.1),vB y16.2])] H14 (by decide) (by kernel_rfl) ⟨((hS.bk 1 rfl).atD rfl),(parseval_color_ok (g_v__0:=g_v__0) m _ _ hy16 _ (s0im s0nil (hS.im 2 rfl))),trivial⟩ fun _ _ H18 hb => ?_
  replace hS:=hS.below hb
  have hd:=hS.hand [] [0,1,2] rfl rfl
  refine m_stp [5,3,4,14,15] (fS [3,4,14,15] [vP b8,vO,vG (cC y16.1),vB y16.2]) H18 rfl rfl rfl rfl (o_alloc [vU 0,vU 0,vU 0,vU 0] (z:=vG [vU 0,vU 0,vU 0,vU 0]) hd (by kernel_rfl) rfl) (fun _ => rfl) fun _ _ v H21 hq => ?_
  obtain ⟨b19,rfl,hq⟩:=hq
  replace hS : SH M X w [eB b19 [vU 0,vU 0,vU 0,vU 0],eB b8 (cT v_.Token),eB b1 [vU v_.Token.Kind,vS v_.Token.Text,vI v_.Token.Num,vS v_.Token.Unit,vB v_.Token.Flag,vL g_v__0 v_.List_],eI tyValue v_.List_ g_v__0] _:=hS.join [] [0,1,2] rfl rfl hq
  have hd:=hS.hand [0] [1,2,3] rfl rfl
  refine m_stp0 [3,4,5,15] (fS [3,4,5,15] [vP b8,vO,vP b19,vB y16.2]) H21 rfl rfl rfl (o_store (cC y16.1) H21 hd rfl rfl (by kernel_rfl) rfl rfl rfl) rfl fun _ _ H23 hq => ?_
  obtain ⟨_,hq⟩:=hq
  replace hS : SH M X w [eB b19 (cC y16.1),eB b8 (cT v_.Token),eB b1 [vU v_.Token.Kind,vS v_.Token.Text,vI v_.Token.Num,vS v_.Token.Unit,vB v_.Token.Flag,vL g_v__0 v_.List_],eI tyValue v_.List_ g_v__0] _:=hS.join [0] [1,2,3] rfl rfl hq
  refine wl_batch 7 8 [] [3,4,5,6] (fS [3,4,5,6] [vP b8,vO,vP b19,vB y16.2]) [] H23 (by decide) (by kernel_rfl) trivial fun _ _ H25 hb => ?_
  replace hS:=hS.below hb
  apply wl_end rfl
  refine s_reg [] [3,4,5,16] (fS [3,4,5,16] [vP b8,vO,vP b19,vB y16.2]) [] H25 (by kernel_rfl) trivial fun _ _ H27 hb => ?_
  replace hS:=hS.below hb
  refine w_if H27 rfl (fun hc => ?_) (fun hc => ?c43)
  case c43 =>
   replace hm:=bF hc hm
   apply w_skip
   obtain rfl:=someE hm
   replace hS : SH M X w [eO 57 tyVal ([] : List TVal) (.nil),eB b19 (cC y16.1),eB b8 (cT v_.Token),eB b1 [vU v_.Token.Kind,vS v_.Token.Text,vI v_.Token.Num,vS v_.Token.Unit,vB v_.Token.Flag,vL g_v__0 v_.List_],eI tyValue v_.List_ g_v__0] _:=hS.addNil 57 tyVal
   replace hS : SH M X w [eO 57 tyVal ([] : List TVal) (.nil),eB b8 (cT v_.Token),eB b1 [vU v_.Token.Kind,vS v_.Token.Text,vI v_.Token.Num,vS v_.Token.Unit,vB v_.Token.Flag,vL g_v__0 v_.List_],eI tyValue v_.List_ g_v__0] _:=hS.sel [0,2,3,4] rfl
   exact ⟨Gh.nil,FrG.keep (ks:=[3,4]) H27 (by kernel_rfl),hS⟩
  replace hm:=bT hc hm
  apply wl_start
  refine wl_batch 0 3 [(vG (cC y16.1))] [3,17,19] (fS [3,17,19] [vP b8,vO,vG [vU 7,vN,vI 0,vU y16.1.Red,vU y16.1.Green,vU y16.1.Blue,vU y16.1.Alpha]]) [rN b19 0 (cC y16.1)] H27 (by decide) (by kernel_rfl) ⟨((hS.bk 0 rfl).atD rfl),trivial⟩ fun _ _ H29 hb => ?_
  replace hS:=hS.below hb
  have hd:=hS.hand [] [0,1,2,3] rfl rfl
  refine m_stp [20,3,17] (fS [3,17] [vP b8,vO]) H29 rfl rfl rfl rfl (o_lit (T:=tyVal) (E:=57) (zv:=vG [vU 0,vN,vI 0,vU 0,vU 0,vU 0,vU 0]) [vU 7,vN,vI 0,vU y16.1.Red,vU y16.1.Green,vU y16.1.Blue,vU y16.1.Alpha] ([(TVal.mk 7 [] 0 y16.1)] : List TVal) [gL []] _ H29 hd rfl (by kernel_rfl) (by kernel_rfl) (by kernel_rfl) (by kernel_rfl) (by kernel_rfl) (by kernel_rfl) (by kernel_rfl) rfl (InnL.cons trivial InnL.nil)) (fun _ => rfl) fun _ _ v H33 hq => ?_
  obtain ⟨g30,rfl,hq⟩:=hq
  replace hS : SH M X w [eO 57 tyVal ([(TVal.mk 7 [] 0 y16.1)] : List TVal) g30,eB b19 (cC y16.1),eB b8 (cT v_.Token),eB b1 [vU v_.Token.Kind,vS v_.Token.Text,vI v_.Token.Num,vS v_.Token.Unit,vB v_.Token.Flag,vL g_v__0 v_.List_],eI tyValue v_.List_ g_v__0] _:=hS.join [] [0,1,2,3] rfl rfl hq
  replace hS : SH M X w [eO 57 tyVal ([] : List TVal) (.nil),eO 57 tyVal ([(TVal.mk 7 [] 0 y16.1)] : List TVal) g30,eB b19 (cC y16.1),eB b8 (cT v_.Token),eB b1 [vU v_.Token.Kind,vS v_.Token.Text,vI v_.Token.Num,vS v_.Token.Unit,vB v_.Token.Flag,vL g_v__0 v_.List_],eI tyValue v_.List_ g_v__0] _:=hS.addNil 57 tyVal
  obtain ⟨ho35,hm⟩:=chkE hm
  obtain ⟨q36,hq36,hm⟩:=letE hm
  have hd:=hS.hand [0,1] [2,3,4,5] rfl rfl
  refine m_stp [21,3] [(3,[],vP b8)] H33 rfl rfl rfl rfl (o_app2 (T:=tyVal) (zv:=vG [vU 0,vN,vI 0,vU 0,vU 0,vU 0,vU 0]) (g1:=Gh.nil) (g2:=g30) (l1:=([] : List TVal)) (l2:=([(TVal.mk 7 [] 0 y16.1)] : List TVal)) q36 hq36.symm H33 hd rfl rfl rfl rfl rfl rfl rfl (by kernel_rfl) (by kernel_rfl) rfl rfl ho35) (fun _ => rfl) fun _ _ v H38 hq => ?_
  obtain ⟨g39,rfl,hq⟩:=hq
  replace hS : SH M X w [eO 57 tyVal q36 g39,eO 57 tyVal ([(TVal.mk 7 [] 0 y16.1)] : List TVal) g30,eB b19 (cC y16.1),eB b8 (cT v_.Token),eB b1 [vU v_.Token.Kind,vS v_.Token.Text,vI v_.Token.Num,vS v_.Token.Unit,vB v_.Token.Flag,vL g_v__0 v_.List_],eI tyValue v_.List_ g_v__0] _:=hS.join [0,1] [2,3,4,5] rfl rfl hq
  refine wl_batch 5 6 [] [3,4] (fS [3,4] [vP b8,vL g39 q36]) [] H38 (by decide) (by kernel_rfl) trivial fun _ _ H41 hb => ?_
  replace hS:=hS.below hb
  apply wl_end rfl
  replace hS : SH M X w [eO 57 tyVal q36 g39,eB b8 (cT v_.Token),eB b1 [vU v_.Token.Kind,vS v_.Token.Text,vI v_.Token.Num,vS v_.Token.Unit,vB v_.Token.Flag,vL g_v__0 v_.List_],eI tyValue v_.List_ g_v__0] _:=hS.sel [0,3,4,5] rfl
  obtain rfl:=someE hm
  exact ⟨g39,FrG.keep (ks:=[3,4]) H41 (by kernel_rfl),hS⟩
 ·rintro _ _ ⟨g44,H,hS⟩
  replace hS : SH M X w [eO 57 tyVal z15 g44,eB b8 (cT v_.Token)] _:=hS.sel [0,1] rfl
  obtain ⟨z46,hz,hm⟩:=bindE hm
  refine w_cut (fun a' w' => ∃ (g173 : Gh),Fr 82 [(4,[],vL g173 z46)] a' ∧ SH M X w [eO 57 tyVal z46 g173,eB b8 (cT v_.Token)] w') ?_ ?_
  ·replace hm:=hz
   refine s_reg [(vU v_.Token.Kind)] [3,4,23] (fS [3,4,23] [vP b8,vL g44 z15,vU v_.Token.Kind]) [rA b8 0 (vU v_.Token.Kind)] H (by kernel_rfl) ⟨((hS.bk 1 rfl).at1 rfl),trivial⟩ fun _ _ H48 hb => ?_
   replace hS:=hS.below hb
   apply w_block
   refine s_reg [] [3,4,23,24] (fS [3,4,23,24] [vP b8,vL g44 z15,vU v_.Token.Kind,vB (v_.Token.Kind == 1)]) [] H48 (by kernel_rfl) trivial fun _ _ H50 hb => ?_
   replace hS:=hS.below hb
   refine w_if H50 rfl (fun hc => ?c172) (fun hc => ?_)
   case c172 =>
    replace hm:=bT hc hm
    obtain ⟨y51,hy51,hm⟩:=bindE hm
    refine s_reg [(vS v_.Token.Text),(vS y51)] [4,7] (fS [4,7] [vL g44 z15,vS y51]) [rA b8 1 (vS v_.Token.Text),rB 69 [vS v_.Token.Text] (vS y51)] H50 (by kernel_rfl) ⟨((hS.bk 1 rfl).at1 rfl),((parseval_small_ok m _ _ hy51).b),trivial⟩ fun _ _ H53 hb => ?_
    replace hS:=hS.below hb
    apply w_seq
    apply wl_start
    refine wl_batch 0 3 [] [7,29,31] (fS [7,29,31] [vS y51,vL g44 z15,vG [vU 1,vS y51,vI 0,vU 0,vU 0,vU 0,vU 0]]) [] H53 (by decide) (by kernel_rfl) trivial fun _ _ H55 hb => ?_
    replace hS:=hS.below hb
    have hd:=hS.hand [] [0,1] rfl rfl
    refine m_stp [32,7,29] (fS [7,29] [vS y51,vL g44 z15]) H55 rfl rfl rfl rfl (o_lit (T:=tyVal) (E:=57) (zv:=vG [vU 0,vN,vI 0,vU 0,vU 0,vU 0,vU 0]) [vU 1,vS y51,vI 0,vU 0,vU 0,vU 0,vU 0] ([(TVal.mk 1 y51 0 (TColor.mk 0 0 0 0))] : List TVal) [gL []] _ H55 hd rfl (by kernel_rfl) (by kernel_rfl) (by kernel_rfl) (by kernel_rfl) (by kernel_rfl) (by kernel_rfl) (by kernel_rfl) rfl (InnL.cons trivial InnL.nil)) (fun _ => rfl) fun _ _ v H59 hq => ?_
    obtain ⟨g56,rfl,hq⟩:=hq
    replace hS : SH M X w [eO 57 tyVal ([(TVal.mk 1 y51 0 (TColor.mk 0 0 0 0))] : List TVal) g56,eO 57 tyVal z15 g44,eB b8 (cT v_.Token)] _:=hS.join [] [0,1] rfl rfl hq
    obtain ⟨ho60,hm⟩:=chkE hm
    obtain ⟨q61,hq61,hm⟩:=letE hm
    have hd:=hS.hand [1,0] [2] rfl rfl
    refine m_stp [33,7] [(7,[],vS y51)] H59 rfl rfl rfl rfl (o_app2 (T:=tyVal) (zv:=vG [vU 0,vN,vI 0,vU 0,vU 0,vU 0,vU 0]) (g1:=g44) (g2:=g56) (l1:=z15) (l2:=([(TVal.mk 1 y51 0 (TColor.mk 0 0 0 0))] : List TVal)) q61 hq61.symm H59 hd rfl rfl rfl rfl rfl rfl rfl (by kernel_rfl) (by kernel_rfl) rfl rfl ho60) (fun _ => rfl) fun _ _ v H63 hq => ?_
    obtain ⟨g64,rfl,hq⟩:=hq
    replace hS : SH M X w [eO 57 tyVal q61 g64,eO 57 tyVal ([(TVal.mk 1 y51 0 (TColor.mk 0 0 0 0))] : List TVal) g56,eB b8 (cT v_.Token)] _:=hS.join [1,0] [2] rfl rfl hq
    refine wl_batch 5 6 [] [4,7] (fS [4,7] [vL g64 q61,vS y51]) [] H63 (by decide) (by kernel_rfl) trivial fun _ _ H66 hb => ?_
    replace hS:=hS.below hb
    apply wl_end rfl
    replace hS : SH M X w [eO 57 tyVal q61 g64,eB b8 (cT v_.Token)] _:=hS.sel [0,2] rfl
    obtain ⟨x67,hx67,hm⟩:=letE hm
    refine s_reg [] [4,35] (fS [4,35] [vL g64 q61,vB x67]) [] H66 (by subst hx67; kernel_rfl) trivial fun _ _ H69 hb => ?_
    replace hS:=hS.below hb
    refine w_if H69 rfl (fun hc => ?_) (fun hc => ?c83)
    case c83 =>
     replace hm:=bF hc hm
     apply w_skip
     obtain rfl:=someE hm
     exact ⟨g64,FrG.keep (ks:=[4]) H69 (by kernel_rfl),hS⟩
    replace hm:=bT hc hm
    apply wl_start
    refine wl_batch 0 2 [] [36,37] (fS [36,37] [vL g64 q61,vG [vU 8,vN,vI 0,vU 0,vU 0,vU 0,vU 0]]) [] H69 (by decide) (by kernel_rfl) trivial fun _ _ H71 hb => ?_
    replace hS:=hS.below hb
    have hd:=hS.hand [] [0,1] rfl rfl
    refine m_stp [38,36] [(36,[],vL g64 q61)] H71 rfl rfl rfl rfl (o_lit (T:=tyVal) (E:=57) (zv:=vG [vU 0,vN,vI 0,vU 0,vU 0,vU 0,vU 0]) [vU 8,vN,vI 0,vU 0,vU 0,vU 0,vU 0] ([(TVal.mk 8 [] 0 (TColor.mk 0 0 0 0))] : List TVal) [gL []] _ H71 hd rfl (by kernel_rfl) (by kernel_rfl) (by kernel_rfl) (by kernel_rfl) (by kernel_rfl) (by kernel_rfl) (by kernel_rfl) rfl (InnL.cons trivial InnL.nil)) (fun _ => rfl) fun _ _ v H75 hq => ?_
    obtain ⟨g72,rfl,hq⟩:=hq
    replace hS : SH M X w [eO 57 tyVal ([(TVal.mk 8 [] 0 (TColor.mk 0 0 0 0))] : List TVal) g72,eO 57 tyVal q61 g64,eB b8 (cT v_.Token)] _:=hS.join [] [0,1] rfl rfl hq
    obtain ⟨ho76,hm⟩:=chkE hm
    obtain ⟨q77,hq77,hm⟩:=letE hm
    have hd:=hS.hand [1,0] [2] rfl rfl
    refine m_stp [39] [] H75 rfl rfl rfl rfl (o_app2 (T:=tyVal) (zv:=vG [vU 0,vN,vI 0,vU 0,vU 0,vU 0,vU 0]) (g1:=g64) (g2:=g72) (l1:=q61) (l2:=([(TVal.mk 8 [] 0 (TColor.mk 0 0 0 0))] : List TVal)) q77 hq77.symm H75 hd rfl rfl rfl rfl rfl rfl rfl (by kernel_rfl) (by kernel_rfl) rfl rfl ho76) (fun _ => rfl) fun _ _ v H79 hq => ?_
    obtain ⟨g80,rfl,hq⟩:=hq
    replace hS : SH M X w [eO 57 tyVal q77 g80,eO 57 tyVal ([(TVal.mk 8 [] 0 (TColor.mk 0 0 0 0))] : List TVal) g72,eB b8 (cT v_.Token)] _:=hS.join [1,0] [2] rfl rfl hq
    refine wl_batch 4 5 [] [4] [(4,[],vL g80 q77)] [] H79 (by decide) (by kernel_rfl) trivial fun _ _ H82 hb => ?_
    replace hS:=hS.below hb
    apply wl_end rfl
    replace hS : SH M X w [eO 57 tyVal q77 g80,eB b8 (cT v_.Token)] _:=hS.sel [0,2] rfl
    obtain rfl:=someE hm
    exact ⟨g80,FrG.keep (ks:=[4]) H82 (by kernel_rfl),hS⟩
   replace hm:=bF hc hm
   refine s_reg [] [3,4,23,40] (fS [3,4,23,40] [vP b8,vL g44 z15,vU v_.Token.Kind,vB (v_.Token.Kind == 12)]) [] H50 (by kernel_rfl) trivial fun _ _ H85 hb => ?_
   replace hS:=hS.below hb
   refine w_if H85 rfl (fun hc => ?c171) (fun hc => ?_)
   case c171 =>
    replace hm:=bT hc hm
    apply w_seq
    apply wl_start
    have hd:=hS.hand [] [0,1] rfl rfl
    refine m_stp [42,3,4] (fS [3,4] [vP b8,vL g44 z15]) H85 rfl rfl rfl rfl (o_mkmap hd) (fun _ => rfl) fun _ _ v H88 hq => ?_
    obtain ⟨b86,rfl,hq⟩:=hq
    replace hS : SH M X w [Ent.mpo b86 [],eO 57 tyVal z15 g44,eB b8 (cT v_.Token)] _:=hS.join [] [0,1] rfl rfl hq
    have hd:=hS.hand [0] [1,2] rfl rfl
    refine m_stp0 [3,4,42] (fS [3,4,42] [vP b8,vL g44 z15,.map (some b86)]) H88 rfl rfl rfl (o_ins (kt:=9) (et:=5) H88 hd rfl rfl rfl (by kernel_rfl) (by kernel_rfl) rfl) rfl fun _ _ H90 hq => ?_
    obtain ⟨_,hq⟩:=hq
    replace hS : SH M X w [Ent.mpo b86 [([112,120],vU 2)],eO 57 tyVal z15 g44,eB b8 (cT v_.Token)] _:=hS.join [0] [1,2] rfl rfl hq
    have hd:=hS.hand [0] [1,2] rfl rfl
    refine m_stp0 [3,4,42] (fS [3,4,42] [vP b8,vL g44 z15,.map (some b86)]) H90 rfl rfl rfl (o_ins (kt:=9) (et:=5) H90 hd rfl rfl rfl (by kernel_rfl) (by kernel_rfl) rfl) rfl fun _ _ H92 hq => ?_
    obtain ⟨_,hq⟩:=hq
    replace hS : SH M X w [Ent.mpo b86 [([112,120],vU 2),([101,109],vU 3)],eO 57 tyVal z15 g44,eB b8 (cT v_.Token)] _:=hS.join [0] [1,2] rfl rfl hq
    have hd:=hS.hand [0] [1,2] rfl rfl
    refine m_stp0 [3,4,42] (fS [3,4,42] [vP b8,vL g44 z15,.map (some b86)]) H92 rfl rfl rfl (o_ins (kt:=9) (et:=5) H92 hd rfl rfl rfl (by kernel_rfl) (by kernel_rfl) rfl) rfl fun _ _ H94 hq => ?_
    obtain ⟨_,hq⟩:=hq
    replace hS : SH M X w [Ent.mpo b86 [([112,120],vU 2),([101,109],vU 3),([114,101,109],vU 4)],eO 57 tyVal z15 g44,eB b8 (cT v_.Token)] _:=hS.join [0] [1,2] rfl rfl hq
    obtain ⟨y95,hy95,hm⟩:=bindE hm
    refine wl_batch 4 8 [(vS v_.Token.Unit),(vS y95)] [3,4,43,46] (fS [3,4,43,46] [vP b8,vL g44 z15,.map (some b86),vS y95]) [rA b8 3 (vS v_.Token.Unit),rB 69 [vS v_.Token.Unit] (vS y95)] H94 (by decide) (by kernel_rfl) ⟨((hS.bk 2 rfl).at1 rfl),((parseval_small_ok m _ _ hy95).b),trivial⟩ fun _ _ H97 hb => ?_
    replace hS:=hS.below hb
    obtain ⟨x98,hx98,hm⟩:=letE hm
    have hd:=hS.hand [0] [1,2] rfl rfl
    refine m_stp [47,3,4] (fS [3,4] [vP b8,vL g44 z15]) H97 rfl rfl rfl rfl (o_look (kt:=9) (et:=5) (z:=vU 0) (ix:=x98) (fun q => vU (gi kL6 q)) (vU (gi kL6 x98)) H97 hd hx98 rfl rfl rfl (by kernel_rfl) (by kernel_rfl) (by kernel_rfl) rfl) (fun _ => rfl) fun _ _ v H100 hq => ?_
    obtain ⟨rfl,hq⟩:=hq
    replace hS : SH M X w [Ent.mpo b86 [([112,120],vU 2),([101,109],vU 3),([114,101,109],vU 4)],eO 57 tyVal z15 g44,eB b8 (cT v_.Token)] _:=hS.join [0] [1,2] rfl rfl hq
    refine wl_batch 9 10 [] [3,4,8] (fS [3,4,8] [vP b8,vL g44 z15,vU (gi kL6 x98)]) [] H100 (by decide) (by kernel_rfl) trivial fun _ _ H102 hb => ?_
    replace hS:=hS.below hb
    apply wl_end rfl
    replace hS : SH M X w [eO 57 tyVal z15 g44,eB b8 (cT v_.Token)] _:=hS.sel [1,2] rfl
    obtain ⟨x103,hx103,hm⟩:=letE hm
    refine s_reg [] [3,4,8,49] (fS [3,4,8,49] [vP b8,vL g44 z15,vU (gi kL6 x98),vB x103]) [] H102 (by subst hx103; kernel_rfl) trivial fun _ _ H105 hb => ?_
    replace hS:=hS.below hb
    refine w_if H105 rfl (fun hc => ?_) (fun hc => ?c119)
    case c119 =>
     replace hm:=bF hc hm
     apply w_skip
     obtain rfl:=someE hm
     exact ⟨g44,FrG.keep (ks:=[4]) H105 (by kernel_rfl),hS⟩
    replace hm:=bT hc hm
    apply wl_start
    refine wl_batch 0 5 [(vI v_.Token.Num)] [50,54] (fS [50,54] [vL g44 z15,vG [vU (gi kL6 x98),vN,vI v_.Token.Num,vU 0,vU 0,vU 0,vU 0]]) [rA b8 2 (vI v_.Token.Num)] H105 (by decide) (by kernel_rfl) ⟨((hS.bk 1 rfl).at1 rfl),trivial⟩ fun _ _ H107 hb => ?_
    replace hS:=hS.below hb
    have hd:=hS.hand [] [0,1] rfl rfl
    refine m_stp [55,50] [(50,[],vL g44 z15)] H107 rfl rfl rfl rfl (o_lit (T:=tyVal) (E:=57) (zv:=vG [vU 0,vN,vI 0,vU 0,vU 0,vU 0,vU 0]) [vU (gi kL6 x98),vN,vI v_.Token.Num,vU 0,vU 0,vU 0,vU 0] ([(TVal.mk (gi kL6 x98) [] v_.Token.Num (TColor.mk 0 0 0 0))] : List TVal) [gL []] _ H107 hd rfl (by kernel_rfl) (by kernel_rfl) (by kernel_rfl) (by kernel_rfl) (by kernel_rfl) (by kernel_rfl) (by kernel_rfl) rfl (InnL.cons trivial InnL.nil)) (fun _ => rfl) fun _ _ v H111 hq => ?_
    obtain ⟨g108,rfl,hq⟩:=hq
    replace hS : SH M X w [eO 57 tyVal ([(TVal.mk (gi kL6 x98) [] v_.Token.Num (TColor.mk 0 0 0 0))] : List TVal) g108,eO 57 tyVal z15 g44,eB b8 (cT v_.Token)] _:=hS.join [] [0,1] rfl rfl hq
    obtain ⟨ho112,hm⟩:=chkE hm
    obtain ⟨q113,hq113,hm⟩:=letE hm
    have hd:=hS.hand [1,0] [2] rfl rfl
    refine m_stp [56] [] H111 rfl rfl rfl rfl (o_app2 (T:=tyVal) (zv:=vG [vU 0,vN,vI 0,vU 0,vU 0,vU 0,vU 0]) (g1:=g44) (g2:=g108) (l1:=z15) (l2:=([(TVal.mk (gi kL6 x98) [] v_.Token.Num (TColor.mk 0 0 0 0))] : List TVal)) q113 hq113.symm H111 hd rfl rfl rfl rfl rfl rfl rfl (by kernel_rfl) (by kernel_rfl) rfl rfl ho112) (fun _ => rfl) fun _ _ v H115 hq => ?_
    obtain ⟨g116,rfl,hq⟩:=hq
    replace hS : SH M X w [eO 57 tyVal q113 g116,eO 57 tyVal ([(TVal.mk (gi kL6 x98) [] v_.Token.Num (TColor.mk 0 0 0 0))] : List TVal) g108,eB b8 (cT v_.Token)] _:=hS.join [1,0] [2] rfl rfl hq
    refine wl_batch 7 8 [] [4] [(4,[],vL g116 q113)] [] H115 (by decide) (by kernel_rfl) trivial fun _ _ H118 hb => ?_
    replace hS:=hS.below hb
    apply wl_end rfl
    replace hS : SH M X w [eO 57 tyVal q113 g116,eB b8 (cT v_.Token)] _:=hS.sel [0,2] rfl
    obtain rfl:=someE hm
    exact ⟨g116,FrG.keep (ks:=[4]) H118 (by kernel_rfl),hS⟩
   replace hm:=bF hc hm
   refine s_reg [] [3,4,57] (fS [3,4,57] [vP b8,vL g44 z15,vB (v_.Token.Kind == 10)]) [] H85 (by kernel_rfl) trivial fun _ _ H121 hb => ?_
   replace hS:=hS.below hb
   refine w_if H121 rfl (fun hc => ?_) (fun hc => ?c170)
   case c170 =>
    replace hm:=bF hc hm
    apply w_skip
    obtain rfl:=someE hm
    exact ⟨g44,FrG.keep (ks:=[4]) H121 (by kernel_rfl),hS⟩
   replace hm:=bT hc hm
   obtain ⟨z122,hz,hm⟩:=bindE hm
   refine w_cut (fun a' w' => ∃ (g139 : Gh),Fr 82 (fS [3,4] [vP b8,vL g139 z122]) a' ∧ SH M X w [eO 57 tyVal z122 g139,eB b8 (cT v_.Token)] w') ?_ ?_
   ·replace hm:=hz
    refine s_reg [(vB v_.Token.Flag)] [3,4,60] (fS [3,4,60] [vP b8,vL g44 z15,vB v_.Token.Flag]) [rA b8 4 (vB v_.Token.Flag)] H121 (by kernel_rfl) ⟨((hS.bk 1 rfl).at1 rfl),trivial⟩ fun _ _ H124 hb => ?_
    replace hS:=hS.below hb
    refine w_if H124 rfl (fun hc => ?_) (fun hc => ?c138)
    case c138 =>
     replace hm:=bF hc hm
     apply w_skip
     obtain rfl:=someE hm
     exact ⟨g44,FrG.keep (ks:=[3,4]) H124 (by kernel_rfl),hS⟩
    replace hm:=bT hc hm
    apply wl_start
    refine wl_batch 0 5 [(vI v_.Token.Num)] [3,61,65] (fS [3,61,65] [vP b8,vL g44 z15,vG [vU 6,vN,vI (w64 (Int.tdiv v_.Token.Num 1000)),vU 0,vU 0,vU 0,vU 0]]) [rA b8 2 (vI v_.Token.Num),fun _ => (1000 : Int) ≠ 0] H124 (by decide) (by kernel_rfl) ⟨((hS.bk 1 rfl).at1 rfl),(by show (1000 : Int) ≠ 0; decide),trivial⟩ fun _ _ H126 hb => ?_
    replace hS:=hS.below hb
    have hd:=hS.hand [] [0,1] rfl rfl
    refine m_stp [66,3,61] (fS [3,61] [vP b8,vL g44 z15]) H126 rfl rfl rfl rfl (o_lit (T:=tyVal) (E:=57) (zv:=vG [vU 0,vN,vI 0,vU 0,vU 0,vU 0,vU 0]) [vU 6,vN,vI (w64 (Int.tdiv v_.Token.Num 1000)),vU 0,vU 0,vU 0,vU 0] ([(TVal.mk 6 [] (w64 (Int.tdiv v_.Token.Num 1000)) (TColor.mk 0 0 0 0))] : List TVal) [gL []] _ H126 hd rfl (by kernel_rfl) (by kernel_rfl) (by kernel_rfl) (by kernel_rfl) (by kernel_rfl) (by kernel_rfl) (by kernel_rfl) rfl (InnL.cons trivial InnL.nil)) (fun _ => rfl) fun _ _ v H130 hq => ?_
    obtain ⟨g127,rfl,hq⟩:=hq
    replace hS : SH M X w [eO 57 tyVal ([(TVal.mk 6 [] (w64 (Int.tdiv v_.Token.Num 1000)) (TColor.mk 0 0 0 0))] : List TVal) g127,eO 57 tyVal z15 g44,eB b8 (cT v_.Token)] _:=hS.join [] [0,1] rfl rfl hq
    obtain ⟨ho131,hm⟩:=chkE hm
    obtain ⟨q132,hq132,hm⟩:=letE hm
    have hd:=hS.hand [1,0] [2] rfl rfl
    refine m_stp [67,3] [(3,[],vP b8)] H130 rfl rfl rfl rfl (o_app2 (T:=tyVal) (zv:=vG [vU 0,vN,vI 0,vU 0,vU 0,vU 0,vU 0]) (g1:=g44) (g2:=g127) (l1:=z15) (l2:=([(TVal.mk 6 [] (w64 (Int.tdiv v_.Token.Num 1000)) (TColor.mk 0 0 0 0))] : List TVal)) q132 hq132.symm H130 hd rfl rfl rfl rfl rfl rfl rfl (by kernel_rfl) (by kernel_rfl) rfl rfl ho131) (fun _ => rfl) fun _ _ v H134 hq => ?_
    obtain ⟨g135,rfl,hq⟩:=hq
    replace hS : SH M X w [eO 57 tyVal q132 g135,eO 57 tyVal ([(TVal.mk 6 [] (w64 (Int.tdiv v_.Token.Num 1000)) (TColor.mk 0 0 0 0))] : List TVal) g127,eB b8 (cT v_.Token)] _:=hS.join [1,0] [2] rfl rfl hq
    refine wl_batch 7 8 [] [3,4] (fS [3,4] [vP b8,vL g135 q132]) [] H134 (by decide) (by kernel_rfl) trivial fun _ _ H137 hb => ?_
    replace hS:=hS.below hb
    apply wl_end rfl
    replace hS : SH M X w [eO 57 tyVal q132 g135,eB b8 (cT v_.Token)] _:=hS.sel [0,2] rfl
    obtain rfl:=someE hm
    exact ⟨g135,FrG.keep (ks:=[3,4]) H137 (by kernel_rfl),hS⟩
   ·rintro _ _ ⟨g139,H,hS⟩
    apply w_seq
    apply wl_start
    refine wl_batch 0 4 [(vI v_.Token.Num)] [3,68,71] (fS [3,68,71] [vP b8,vL g139 z122,vG [vU 5,vN,vI v_.Token.Num,vU 0,vU 0,vU 0,vU 0]]) [rA b8 2 (vI v_.Token.Num)] H (by decide) (by kernel_rfl) ⟨((hS.bk 1 rfl).at1 rfl),trivial⟩ fun _ _ H141 hb => ?_
    replace hS:=hS.below hb
    have hd:=hS.hand [] [0,1] rfl rfl
    refine m_stp [72,3,68] (fS [3,68] [vP b8,vL g139 z122]) H141 rfl rfl rfl rfl (o_lit (T:=tyVal) (E:=57) (zv:=vG [vU 0,vN,vI 0,vU 0,vU 0,vU 0,vU 0]) [vU 5,vN,vI v_.Token.Num,vU 0,vU 0,vU 0,vU 0] ([(TVal.mk 5 [] v_.Token.Num (TColor.mk 0 0 0 0))] : List TVal) [gL []] _ H141 hd rfl (by kernel_rfl) (by kernel_rfl) (by kernel_rfl) (by kernel_rfl) (by kernel_rfl) (by kernel_rfl) (by kernel_rfl) rfl (InnL.cons trivial InnL.nil)) (fun _ => rfl) fun _ _ v H145 hq => ?_
    obtain ⟨g142,rfl,hq⟩:=hq
    replace hS : SH M X w [eO 57 tyVal ([(TVal.mk 5 [] v_.Token.Num (TColor.mk 0 0 0 0))] : List TVal) g142,eO 57 tyVal z122 g139,eB b8 (cT v_.Token)] _:=hS.join [] [0,1] rfl rfl hq
    obtain ⟨ho146,hm⟩:=chkE hm
    obtain ⟨q147,hq147,hm⟩:=letE hm
    have hd:=hS.hand [1,0] [2] rfl rfl
    refine m_stp [73,3] [(3,[],vP b8)] H145 rfl rfl rfl rfl (o_app2 (T:=tyVal) (zv:=vG [vU 0,vN,vI 0,vU 0,vU 0,vU 0,vU 0]) (g1:=g139) (g2:=g142) (l1:=z122) (l2:=([(TVal.mk 5 [] v_.Token.Num (TColor.mk 0 0 0 0))] : List TVal)) q147 hq147.symm H145 hd rfl rfl rfl rfl rfl rfl rfl (by kernel_rfl) (by kernel_rfl) rfl rfl ho146) (fun _ => rfl) fun _ _ v H149 hq => ?_
    obtain ⟨g150,rfl,hq⟩:=hq
    replace hS : SH M X w [eO 57 tyVal q147 g150,eO 57 tyVal ([(TVal.mk 5 [] v_.Token.Num (TColor.mk 0 0 0 0))] : List TVal) g142,eB b8 (cT v_.Token)] _:=hS.join [1,0] [2] rfl rfl hq
    refine wl_batch 6 7 [] [3,4] (fS [3,4] [vP b8,vL g150 q147]) [] H149 (by decide) (by kernel_rfl) trivial fun _ _ H152 hb => ?_
    replace hS:=hS.below hb
    apply wl_end rfl
    replace hS : SH M X w [eO 57 tyVal q147 g150,eB b8 (cT v_.Token)] _:=hS.sel [0,2] rfl
    refine s_reg [(vI v_.Token.Num)] [4,76] (fS [4,76] [vL g150 q147,vB (v_.Token.Num == 0)]) [rA b8 2 (vI v_.Token.Num)] H152 (by kernel_rfl) ⟨((hS.bk 1 rfl).at1 rfl),trivial⟩ fun _ _ H154 hb => ?_
    replace hS:=hS.below hb
    refine w_if H154 rfl (fun hc => ?_) (fun hc => ?c168)
    case c168 =>
     replace hm:=bF hc hm
     apply w_skip
     obtain rfl:=someE hm
     exact ⟨g150,FrG.keep (ks:=[4]) H154 (by kernel_rfl),hS⟩
    replace hm:=bT hc hm
    apply wl_start
    refine wl_batch 0 2 [] [77,78] (fS [77,78] [vL g150 q147,vG [vU 2,vN,vI 0,vU 0,vU 0,vU 0,vU 0]]) [] H154 (by decide) (by kernel_rfl) trivial fun _ _ H156 hb => ?_
    replace hS:=hS.below hb
    have hd:=hS.hand [] [0,1] rfl rfl
    refine m_stp [79,77] [(77,[],vL g150 q147)] H156 rfl rfl rfl rfl (o_lit (T:=tyVal) (E:=57) (zv:=vG [vU 0,vN,vI 0,vU 0,vU 0,vU 0,vU 0]) [vU 2,vN,vI 0,vU 0,vU 0,vU 0,vU 0] ([(TVal.mk 2 [] 0 (TColor.mk 0 0 0 0))] : List TVal) [gL []] _ H156 hd rfl (by kernel_rfl) (by kernel_rfl) (by kernel_rfl) (by kernel_rfl) (by kernel_rfl) (by kernel_rfl) (by kernel_rfl) rfl (InnL.cons trivial InnL.nil)) (fun _ => rfl) fun _ _ v H160 hq => ?_
    obtain ⟨g157,rfl,hq⟩:=hq
    replace hS : SH M X w [eO 57 tyVal ([(TVal.mk 2 [] 0 (TColor.mk 0 0 0 0))] : List TVal) g157,eO 57 tyVal q147 g150,eB b8 (cT v_.Token)] _:=hS.join [] [0,1] rfl rfl hq
    obtain ⟨ho161,hm⟩:=chkE hm
    obtain ⟨q162,hq162,hm⟩:=letE hm
    have hd:=hS.hand [1,0] [2] rfl rfl
    refine m_stp [80] [] H160 rfl rfl rfl rfl (o_app2 (T:=tyVal) (zv:=vG [vU 0,vN,vI 0,vU 0,vU 0,vU 0,vU 0]) (g1:=g150) (g2:=g157) (l1:=q147) (l2:=([(TVal.mk 2 [] 0 (TColor.mk 0 0 0 0))] : List TVal)) q162 hq162.symm H160 hd rfl rfl rfl rfl rfl rfl rfl (by kernel_rfl) (by kernel_rfl) rfl rfl ho161) (fun _ => rfl) fun _ _ v H164 hq => ?_
    obtain ⟨g165,rfl,hq⟩:=hq
    replace hS : SH M X w [eO 57 tyVal q162 g165,eO 57 tyVal ([(TVal.mk 2 [] 0 (TColor.mk 0 0 0 0))] : List TVal) g157,eB b8 (cT v_.Token)] _:=hS.join [1,0] [2] rfl rfl hq
    refine wl_batch 4 5 [] [4] [(4,[],vL g165 q162)] [] H164 (by decide) (by kernel_rfl) trivial fun _ _ H167 hb => ?_
    replace hS:=hS.below hb
    apply wl_end rfl
    replace hS : SH M X w [eO 57 tyVal q162 g165,eB b8 (cT v_.Token)] _:=hS.sel [0,2] rfl
    obtain rfl:=someE hm
    exact ⟨g165,FrG.keep (ks:=[4]) H167 (by kernel_rfl),hS⟩
  ·rintro _ _ ⟨g173,H,hS⟩
   replace hS : SH M X w [eO 57 tyVal z46 g173] _:=hS.sel [0] rfl
   refine s_reg [] [2] [(2,[],vL g173 z46)] [] H (by kernel_rfl) trivial fun _ _ H175 hb => ?_
   replace hS:=hS.below hb
   apply w_ret
   obtain rfl:=someE hm
   exact retR1 H175 rfl rfl ⟨_,rfl,g173,rfl,(hS.sel [0] rfl)⟩
theorem parseval_maybe_ok {g_v__0 : Gh} (m : Nat) (v_ : TValue) (r : List TVal) (hm : parseval_maybe m v_ = some r) (M : Av) (w : World) (hS : S0 M [eI tyValue v_.List_ g_v__0] w) : DoesX Tryz.prog 46 ⟨[vG [vU v_.Token.Kind,vS v_.Token.Text,vI v_.Token.Num,vS v_.Token.Unit,vB v_.Token.Flag,vL g_v__0 v_.List_]]⟩ w (fun v w' => ∃ (g901 : Gh),v = vL g901 r ∧ SH M (fpl [eI tyValue v_.List_ g_v__0]) w [eO 57 tyVal r g901] w'):=⟨Tryz.call46 _,parseval_maybe_w M m   v_ r hm w hS⟩

theorem props_Check_w  (M : Av) (v_ : TVal) (r : Int) (hm : props_Check v_ = some r) (w : World) (hS : S0 M [] w) : Calls Tryz.prog 70 ⟨[vG (cV v_)]⟩ w (fun e w' => ∃ v,e = .returned v ∧ v = vI r ∧ SH M (fpl []) w [] w'):=by
 rw [props_Check] at hm
 have hS0 : SH M (fpl []) w [] w:=hS
 generalize hX : fpl [] = X at hS0 ⊢
 clear hS hX
 have hS:=hS0
 clear hS0
 refine calls_entryP Tryz.func70 rfl Tryz.ntmps70 rfl fun _ H => ?_
 apply w_seq
 apply wl_start
 have hd:=hS.hand [] [] rfl rfl
 refine m_stp [1] [] H rfl rfl rfl rfl (o_box (cV v_) H hd rfl rfl) (fun _ => rfl) fun _ _ v H3 hq => ?_
 obtain ⟨b1,rfl,hq⟩:=hq
 replace hS : SH M X w [eB b1 (cV v_)] _:=hS.join [] [] rfl rfl hq
 refine wl_batch 1 2 [] [1] [(1,[],vP b1)] [] H3 (by decide) (by kernel_rfl) trivial fun _ _ H5 hb => ?_
 replace hS:=hS.below hb
 apply wl_end rfl
 apply w_seq
 apply wl_start
 refine wl_batch 0 3 [(vU v_.Kind)] [1,7] (fS [1,7] [vP b1,vG [vU v_.Kind,vN,vI 0,vU 0,vU 0,vU 0,vU 0]]) [rA b1 0 (vU v_.Kind)] H5 (by decide) (by kernel_rfl) ⟨((hS.bk 0 rfl).at1 rfl),trivial⟩ fun _ _ H7 hb => ?_
 replace hS:=hS.below hb
 have hd:=hS.hand [] [0] rfl rfl
 refine m_stp [3,1,7] (fS [1,7] [vP b1,vG [vU v_.Kind,vN,vI 0,vU 0,vU 0,vU 0,vU 0]]) H7 rfl rfl rfl rfl (o_alloc [vU 0,vN,vI 0,vU 0,vU 0,vU 0,vU 0] (z:=vG [vU 0,vN,vI 0,vU 0,vU 0,vU 0,vU 0]) hd (by kernel_rfl) rfl) (fun _ => rfl) fun _ _ v H10 hq => ?_
 obtain ⟨b8,rfl,hq⟩:=hq
 replace hS : SH M X w [eB b8 [vU 0,vN,vI 0,vU 0,vU 0,vU 0,vU 0],eB b1 (cV v_)] _:=hS.join [] [0] rfl rfl hq
 have hd:=hS.hand [0] [1] rfl rfl
 refine m_stp0 [1,3] (fS [1,3] [vP b1,vP b8]) H10 rfl rfl rfl (o_store [vU v_.Kind,vN,vI 0,vU 0,vU 0,vU 0,vU 0] H10 hd rfl rfl (by kernel_rfl) rfl rfl rfl) rfl fun _ _ H12 hq => ?_
 obtain ⟨_,hq⟩:=hq
 replace hS : SH M X w [eB b8 [vU v_.Kind,vN,vI 0,vU 0,vU 0,vU 0,vU 0],eB b1 (cV v_)] _:=hS.join [0] [1] rfl rfl hq
 apply wl_end rfl
 refine s_reg [] [1,3,4] (fS [1,3,4] [vP b1,vP b8,vI 1000000000000]) [] H12 (by kernel_rfl) trivial fun _ _ H14 hb => ?_
 replace hS:=hS.below hb
 obtain ⟨z15,hz,hm_z15⟩:=bindE hm
 refine w_cut (fun a' w' => ∃ s_z15 : Str × Int × Int × Int × Int × Int,z15 = Sum.inr s_z15 ∧ Fr 52 (fS [1,3] [vP b1,vP b8]) a' ∧ SH M X w [eB b8 [vU v_.Kind,vS s_z15.1,vI s_z15.2.2.2.2.2,vU s_z15.2.1,vU s_z15.2.2.1,vU s_z15.2.2.2.1,vU s_z15.2.2.2.2.1],eB b1 (cV v_)] w') ?_ ?_
 ·replace hm:=hz
  refine s_reg [(vU v_.Kind)] [1,3,4,9] (fS [1,3,4,9] [vP b1,vP b8,vI 1000000000000,vU v_.Kind]) [rA b1 0 (vU v_.Kind)] H14 (by kernel_rfl) ⟨((hS.bk 1 rfl).at1 rfl),trivial⟩ fun _ _ H17 hb => ?_
  replace hS:=hS.below hb
  apply w_block
  apply w_seq
  apply w_block
  apply w_seq
  apply w_block
  apply w_seq
  apply w_block
  obtain ⟨z18,hz,hm_z18⟩:=bindE hm
  refine w_cut (fun a' w' => ∃ s_z18 : Int,z18 = Sum.inr s_z18 ∧ Fr 52 (fS [1,3,4] [vP b1,vP b8,vI s_z18]) a' ∧ SH M X w [eB b8 [vU v_.Kind,vN,vI 0,vU 0,vU 0,vU 0,vU 0],eB b1 (cV v_)] w') ?_ ?_
  ·replace hm:=hz
   apply w_block
   apply w_seq
   apply w_block
   apply w_seq
   apply w_block
   apply w_seq
   apply w_seq
   refine s_reg [] [1,3,4,9,10] (fS [1,3,4,9,10] [vP b1,vP b8,vI 1000000000000,vU v_.Kind,vB (v_.Kind == 1)]) [] H17 (by kernel_rfl) trivial fun _ _ H20 hb => ?_
   replace hS:=hS.below hb
   refine w_if H20 rfl (fun hc => ?c60) (fun hc => ?_)
   case c60 =>
    replace hm:=bT hc hm
    apply w_exit rfl
    apply w_seq
    apply wl_start
    refine wl_batch 0 3 [(vS v_.Word)] [1,3,24,25] (fS [1,3,24,25] [vP b1,vP b8,vS v_.Word,vA b8 1]) [rA b1 1 (vS v_.Word)] H20 (by decide) (by kernel_rfl) ⟨((hS.bk 1 rfl).at1 rfl),trivial⟩ fun _ _ H22 hb => ?_
    replace hS:=hS.below hb
    have hd:=hS.hand [0] [1] rfl rfl
    refine m_stp0 [1,3] (fS [1,3] [vP b1,vP b8]) H22 rfl rfl rfl (o_store [vU v_.Kind,vS v_.Word,vI 0,vU 0,vU 0,vU 0,vU 0] H22 hd rfl rfl (by kernel_rfl) rfl rfl rfl) rfl fun _ _ H24 hq => ?_
    obtain ⟨_,hq⟩:=hq
    replace hS : SH M X w [eB b8 [vU v_.Kind,vS v_.Word,vI 0,vU 0,vU 0,vU 0,vU 0],eB b1 (cV v_)] _:=hS.join [0] [1] rfl rfl hq
    apply wl_end rfl
    apply w_exit rfl
    obtain ⟨r25,hr_r25,hm⟩:=bindE hm
    obtain rfl:=someE hm
    have hm:=hm_z18
    obtain rfl:=someE hm
    have hm:=hr_r25
    clear hr_r25
    obtain rfl:=someE hm
    exact ⟨_,rfl,FrG.keep (ks:=[1,3]) H24 (by kernel_rfl),hS⟩
   replace hm:=bF hc hm
   apply w_skip
   apply w_seq
   refine s_reg [] [1,3,4,9,12] (fS [1,3,4,9,12] [vP b1,vP b8,vI 1000000000000,vU v_.Kind,vB (v_.Kind == 6)]) [] H20 (by kernel_rfl) trivial fun _ _ H27 hb => ?_
   replace hS:=hS.below hb
   refine w_if H27 rfl (fun hc => ?c59) (fun hc => ?_)
   case c59 =>
    replace hm:=bT hc hm
    apply w_exit rfl
    refine w_reg [] [1,3,4] (fS [1,3,4] [vP b1,vP b8,vI (w64 (Int.tdiv 1000000000000 1000))]) [fun _ => (1000 : Int) ≠ 0] H27 (by kernel_rfl) ⟨(by show (1000 : Int) ≠ 0; decide),trivial⟩ fun _ _ H29 hb => ?_
    replace hS:=hS.below hb
    obtain rfl:=someE hm
    exact ⟨_,rfl,FrG.keep (ks:=[1,3,4]) H29 (by kernel_rfl),hS⟩
   replace hm:=bF hc hm
   apply w_skip
   apply w_seq
   obtain ⟨z30,hz,hm⟩:=bindE hm
   refine w_cut (fun a' w' => Fr 52 (fS [1,3,4,9,14] [vP b1,vP b8,vI 1000000000000,vU v_.Kind,vB z30]) a' ∧ SH M X w [eB b8 [vU v_.Kind,vN,vI 0,vU 0,vU 0,vU 0,vU 0],eB b1 (cV v_)] w') ?_ ?_
   ·replace hm:=hz
    refine s_reg [] [1,3,4,9,14] (fS [1,3,4,9,14] [vP b1,vP b8,vI 1000000000000,vU v_.Kind,vB (v_.Kind == 2)]) [] H27 (by kernel_rfl) trivial fun _ _ H32 hb => ?_
    replace hS:=hS.below hb
    refine w_if H32 rfl (fun hc => ?c41) (fun hc => ?_)
    case c41 =>
     replace hm:=bT hc hm
     apply w_skip
     obtain rfl:=someE hm
     exact ⟨FrG.keep (ks:=[1,3,4,9,14]) H32 (by kernel_rfl),hS⟩
    replace hm:=bF hc hm
    refine s_reg [] [1,3,4,9,14] (fS [1,3,4,9,14] [vP b1,vP b8,vI 1000000000000,vU v_.Kind,vB (v_.Kind == 3)]) [] H32 (by kernel_rfl) trivial fun _ _ H34 hb => ?_
    replace hS:=hS.below hb
    refine w_if H34 rfl (fun hc => ?c40) (fun hc => ?_)
    case c40 =>
     replace hm:=bT hc hm
     apply w_skip
     obtain rfl:=someE hm
     exact ⟨FrG.keep (ks:=[1,3,4,9,14]) H34 (by kernel_rfl),hS⟩
    replace hm:=bF hc hm
    refine s_reg [] [1,3,4,9,14] (fS [1,3,4,9,14] [vP b1,vP b8,vI 1000000000000,vU v_.Kind,vB (v_.Kind == 4)]) [] H34 (by kernel_rfl) trivial fun _ _ H36 hb => ?_
    replace hS:=hS.below hb
    refine w_if H36 rfl (fun hc => ?c39) (fun hc => ?_)
    case c39 =>
     replace hm:=bT hc hm
     apply w_skip
     obtain rfl:=someE hm
     exact ⟨FrG.keep (ks:=[1,3,4,9,14]) H36 (by kernel_rfl),hS⟩
    replace hm:=bF hc hm
    refine w_reg [] [1,3,4,9,14] (fS [1,3,4,9,14] [vP b1,vP b8,vI 1000000000000,vU v_.Kind,vB (v_.Kind == 5)]) [] H36 (by kernel_rfl) trivial fun _ _ H38 hb => ?_
    replace hS:=hS.below hb
    obtain rfl:=someE hm
    exact ⟨FrG.keep (ks:=[1,3,4,9,14]) H38 (by kernel_rfl),hS⟩
   ·rintro _ _ ⟨H,hS⟩
    refine w_if H rfl (fun hc => ?c57) (fun hc => ?_)
    case c57 =>
     replace hm:=bT hc hm
     apply w_exit rfl
     obtain rfl:=someE hm
     exact ⟨_,rfl,FrG.keep (ks:=[1,3,4]) H (by kernel_rfl),hS⟩
    replace hm:=bF hc hm
    apply w_skip
    apply w_seq
    refine s_reg [] [1,3,9,19] (fS [1,3,9,19] [vP b1,vP b8,vU v_.Kind,vB (v_.Kind == 7)]) [] H (by kernel_rfl) trivial fun _ _ H43 hb => ?_
    replace hS:=hS.below hb
    refine w_if H43 rfl (fun hc => ?c56) (fun hc => ?_)
    case c56 =>
     replace hm:=bT hc hm
     apply w_exit rfl
     obtain ⟨r48,hr_r48,hm⟩:=bindE hm
     obtain rfl:=someE hm
     have hm:=hm_z18
     obtain rfl:=someE hm
     have hm:=hr_r48
     clear hr_r48
     apply w_seq
     apply wl_start
     refine wl_batch 0 3 [(vG (cC v_.Color))] [1,3,37,38] (fS [1,3,37,38] [vP b1,vP b8,vG (cC v_.Color),vA b8 3]) [rN b1 3 (cC v_.Color)] H43 (by decide) (by kernel_rfl) ⟨((hS.bk 1 rfl).atD rfl),trivial⟩ fun _ _ H45 hb => ?_
     replace hS:=hS.below hb
     have hd:=hS.hand [0] [1] rfl rfl
     refine m_stp0 [1,3] (fS [1,3] [vP b1,vP b8]) H45 rfl rfl rfl (o_store [vU v_.Kind,vN,vI 0,vU v_.Color.Red,vU v_.Color.Green,vU v_.Color.Blue,vU v_.Color.Alpha] H45 hd rfl rfl (by kernel_rfl) rfl rfl rfl) rfl fun _ _ H47 hq => ?_
     obtain ⟨_,hq⟩:=hq
     replace hS : SH M X w [eB b8 [vU v_.Kind,vN,vI 0,vU v_.Color.Red,vU v_.Color.Green,vU v_.Color.Blue,vU v_.Color.Alpha],eB b1 (cV v_)] _:=hS.join [0] [1] rfl rfl hq
     apply wl_end rfl
     apply w_exit rfl
     obtain rfl:=someE hm
     exact ⟨_,rfl,FrG.keep (ks:=[1,3]) H47 (by kernel_rfl),hS⟩
    replace hm:=bF hc hm
    apply w_skip
    refine s_reg [] [1,3,21] (fS [1,3,21] [vP b1,vP b8,vB (v_.Kind == 8)]) [] H43 (by kernel_rfl) trivial fun _ _ H50 hb => ?_
    replace hS:=hS.below hb
    refine w_if H50 rfl (fun hc => ?c55) (fun hc => ?_)
    case c55 =>
     replace hm:=bT hc hm
     apply w_exit rfl
     obtain ⟨r51,hr_r51,hm⟩:=bindE hm
     obtain rfl:=someE hm
     have hm:=hm_z18
     obtain rfl:=someE hm
     have hm:=hr_r51
     clear hr_r51
     apply w_exit rfl
     obtain rfl:=someE hm
     exact ⟨_,rfl,FrG.keep (ks:=[1,3]) H50 (by kernel_rfl),hS⟩
    replace hm:=bF hc hm
    apply w_skip
    apply w_exit rfl
    obtain ⟨r54,hr_r54,hm⟩:=bindE hm
    obtain rfl:=someE hm
    have hm:=hm_z18
    obtain rfl:=someE hm
    have hm:=hr_r54
    clear hr_r54
    apply w_seq
    refine s_reg [] [2] [(2,[],vI 8)] [] H50 (by kernel_rfl) trivial fun _ _ H53 hb => ?_
    replace hS:=hS.below hb
    apply w_ret
    obtain rfl:=someE hm
    have hm:=hm_z15
    obtain rfl:=someE hm
    exact retR1 H53 rfl rfl ⟨_,rfl,rfl,(hS.sel [] rfl)⟩
  ·rintro _ _ ⟨s_z18,hz,H,hS⟩
   subst hz
   replace hm:=sumR hm_z18
   apply w_seq
   apply wl_start
   obtain ⟨x61,hx61,hm⟩:=letE hm
   refine wl_batch 0 8 [(vI v_.Num)] [1,3,34,35] (fS [1,3,34,35] [vP b1,vP b8,vI x61,vA b8 2]) [rA b1 2 (vI v_.Num)] H (by decide) (by subst hx61; kernel_rfl) ⟨((hS.bk 1 rfl).at1 rfl),trivial⟩ fun _ _ H63 hb => ?_
   replace hS:=hS.below hb
   have hd:=hS.hand [0] [1] rfl rfl
   refine m_stp0 [1,3] (fS [1,3] [vP b1,vP b8]) H63 rfl rfl rfl (o_store [vU v_.Kind,vN,vI x61,vU 0,vU 0,vU 0,vU 0] H63 hd rfl rfl (by kernel_rfl) rfl rfl rfl) rfl fun _ _ H65 hq => ?_
   obtain ⟨_,hq⟩:=hq
   replace hS : SH M X w [eB b8 [vU v_.Kind,vN,vI x61,vU 0,vU 0,vU 0,vU 0],eB b1 (cV v_)] _:=hS.join [0] [1] rfl rfl hq
   apply wl_end rfl
   apply w_exit rfl
   obtain rfl:=someE hm
   exact ⟨_,rfl,FrG.keep (ks:=[1,3]) H65 (by kernel_rfl),hS⟩
 ·rintro _ _ ⟨s_z15,hz,H,hS⟩
  subst hz
  replace hm:=sumR hm_z15
  apply w_seq
  obtain ⟨x67,hx67,hm⟩:=letE hm
  obtain ⟨x68,hx68,hm⟩:=letE hm
  refine s_reg [(vG (cV v_)),(vG [vU v_.Kind,vS s_z15.1,vI s_z15.2.2.2.2.2,vU s_z15.2.1,vU s_z15.2.2.1,vU s_z15.2.2.2.1,vU s_z15.2.2.2.2.1]),(vU v_.Kind),(vS v_.Word)] [51] [(51,[],vB x68)] [rN b1 0 (cV v_),rN b8 0 [vU v_.Kind,vS s_z15.1,vI s_z15.2.2.2.2.2,vU s_z15.2.1,vU s_z15.2.2.1,vU s_z15.2.2.2.1,vU s_z15.2.2.2.2.1],fun wz => (x67 = false ∧ True → V.at1 ⟨b1,0,none⟩ (vU v_.Kind) wz),fun wz => ((v_.Kind == 1) = true ∧ x67 = false ∧ True → V.at1 ⟨b1,1,none⟩ (vS v_.Word) wz)] H (by subst hx67 hx68; kernel_rfl) ⟨((hS.bk 1 rfl).atD rfl),((hS.bk 0 rfl).atD rfl),fun hg => (hS.bk 1 rfl).at1 rfl,fun hg => (hS.bk 1 rfl).at1 rfl,trivial⟩ fun _ _ H70 hb => ?_
  replace hS:=hS.below hb
  replace hS : SH M X w [] _:=hS.sel [] rfl
  refine w_if H70 rfl (fun hc => ?c75) (fun hc => ?_)
  case c75 =>
   replace hm:=bT hc hm
   refine s_reg [] [2] [(2,[],vI 8)] [] H70 (by kernel_rfl) trivial fun _ _ H72 hb => ?_
   replace hS:=hS.below hb
   apply w_ret
   obtain rfl:=someE hm
   exact retR1 H72 rfl rfl ⟨_,rfl,rfl,(hS.sel [] rfl)⟩
  replace hm:=bF hc hm
  apply w_skip
  refine s_reg [] [2] [(2,[],vI 0)] [] H70 (by kernel_rfl) trivial fun _ _ H74 hb => ?_
  replace hS:=hS.below hb
  apply w_ret
  obtain rfl:=someE hm
  exact retR1 H74 rfl rfl ⟨_,rfl,rfl,(hS.sel [] rfl)⟩
theorem props_Check_ok  (v_ : TVal) (r : Int) (hm : props_Check v_ = some r) : Ret Tryz.prog 70 ⟨[vG (cV v_)]⟩ (vI r):=retP_of (Tryz.call70 _) (fun w h => props_Check_w F0   v_ r hm w h)

theorem slices_Index_uint8_uint8_w {g_s : Gh} (M : Av) (m : Nat) (s : List Int) (v_ : Int) (r : Int) (hm : slices_Index_uint8_uint8 m s v_ = some r) (w : World) (hS : S0 M [eI (tI .u8) s g_s] w) : Calls Tryz.prog 89 ⟨[vL g_s s,vU v_]⟩ w (fun e w' => ∃ v,e = .returned v ∧ v = vI r ∧ SH M (fpl [eI (tI .u8) s g_s]) w [] w'):=by
 rw [slices_Index_uint8_uint8] at hm
 have hS0 : SH M (fpl [eI (tI .u8) s g_s]) w [eI (tI .u8) s g_s] w:=hS
 generalize hX : fpl [eI (tI .u8) s g_s] = X at hS0 ⊢
 clear hS hX
 have hS:=hS0
 clear hS0
 refine calls_entryP Tryz.func89 rfl Tryz.ntmps89 rfl fun _ H => ?_
 refine s_reg [] [0,1] (fS [0,1] [vL g_s s,vU v_]) [] H (by kernel_rfl) trivial fun _ _ H2 hb => ?_
 replace hS:=hS.below hb
 obtain ⟨z3,hz,hm_z3⟩:=bindE hm
 refine w_cut (fun a' w' => ∃ s_z3 : Unit,z3 = Sum.inr s_z3 ∧ Fr 19 [] a' ∧ SH M X w [eI (tI .u8) s g_s] w') ?_ ?_
 ·replace hm:=hz
  refine s_reg [] [0,1,7,8] (fS [0,1,7,8] [vL g_s s,vU v_,vI (ln s),vI 0]) [] H2 (by kernel_rfl) trivial fun _ _ H5 hb => ?_
  replace hS:=hS.below hb
  apply w_block
  refine w_loop (fun kk a' w' => ∃ (v6 : Int),slices_Index_uint8_uint8_L1 m s v_ kk v6 = some _ ∧ Fr 19 (fS [0,1,7,8] [vL g_s s,vU v_,vI (ln s),vI v6]) a' ∧ SH M X w [eI (tI .u8) s g_s] w') ⟨_,0,hm,FrG.keep (ks:=[0,1,7,8]) H5 (by kernel_rfl),hS⟩ ?_
  clear hm H5 hS
  rintro kk _ _ ⟨v6,hm,H,hS⟩
  cases kk with
  | zero => exact noneE hm
  | succ kk =>
   rw [slices_Index_uint8_uint8_L1] at hm
   refine s_reg [] [0,1,7,8,9] (fS [0,1,7,8,9] [vL g_s s,vU v_,vI (ln s),vI v6,vB (decide (v6 < (ln s)))]) [] H (by kernel_rfl) trivial fun _ _ H8 hb => ?_
   replace hS:=hS.below hb
   apply w_seq
   refine w_if H8 rfl (fun hc => ?_) (fun hc => ?c19)
   case c19 =>
    replace hm:=bF hc hm
    apply w_exit rfl
    obtain rfl:=someE hm
    exact ⟨_,rfl,FrG.keep (ks:=[]) H8 (by kernel_rfl),hS⟩
   replace hm:=bT hc hm
   apply w_skip
   apply w_seq
   apply w_block
   refine s_reg [] [0,1,5,7,8] (fS [0,1,5,7,8] [vL g_s s,vU v_,vI v6,vI (ln s),vI v6]) [] H8 (by kernel_rfl) trivial fun _ _ H10 hb => ?_
   replace hS:=hS.below hb
   obtain ⟨ho11,hm⟩:=chkE hm
   refine s_reg [(vU (gi s v6))] [0,1,5,7,8,16] (fS [0,1,5,7,8,16] [vL g_s s,vU v_,vI v6,vI (ln s),vI v6,vB (v_ == (gi s v6))]) [fun _ => oka g_s.a ∧ 0 ≤ v6 ∧ v6 < ln s,fun wz => V.at1 ⟨ab g_s.a,ao g_s.a + (v6).toNat * 1,none⟩ (vU (gi s v6)) wz] H10 (by kernel_rfl) ⟨((hS.im 0 rfl).oki ho11),((hS.im 0 rfl).at1 ho11 0 rfl),trivial⟩ fun _ _ H13 hb => ?_
   replace hS:=hS.below hb
   refine w_if H13 rfl (fun hc => ?_) (fun hc => ?c18)
   case c18 =>
    replace hm:=bF hc hm
    apply w_skip
    refine w_reg [] [0,1,7,8] (fS [0,1,7,8] [vL g_s s,vU v_,vI (ln s),vI (w64 (v6 + 1))]) [] H13 (by kernel_rfl) trivial fun _ _ H17 hb => ?_
    replace hS:=hS.below hb
    exact ⟨_,Nat.lt_succ_self _,w64 (v6 + 1),hm,FrG.keep (ks:=[0,1,7,8]) H17 (by kernel_rfl),hS⟩
   replace hm:=bT hc hm
   refine s_reg [] [4] [(4,[],vI v6)] [] H13 (by kernel_rfl) trivial fun _ _ H15 hb => ?_
   replace hS:=hS.below hb
   apply w_ret
   obtain rfl:=someE hm
   have hm:=hm_z3
   obtain rfl:=someE hm
   exact retR1 H15 rfl rfl ⟨_,rfl,rfl,(hS.sel [] rfl)⟩
 ·rintro _ _ ⟨s_z3,hz,H,hS⟩
  subst hz
  replace hm:=sumR hm_z3
  replace hS : SH M X w [] _:=hS.sel [] rfl
  refine s_reg [] [4] [(4,[],vI (-1))] [] H (by kernel_rfl) trivial fun _ _ H22 hb => ?_
  replace hS:=hS.below hb
  apply w_ret
  obtain rfl:=someE hm
  exact retR1 H22 rfl rfl ⟨_,rfl,rfl,(hS.sel [] rfl)⟩
theorem slices_Index_uint8_uint8_ok {g_s : Gh} (m : Nat) (s : List Int) (v_ : Int) (r : Int) (hm : slices_Index_uint8_uint8 m s v_ = some r) (w : World) (hL : S0 F0 [eI (tI .u8) s g_s] w ∧ fpl [eI (tI .u8) s g_s] = []) : RetB Tryz.prog 89 ⟨[vL g_s s,vU v_]⟩ (vI r) w:=retB_of hL (Tryz.call89 _) (fun w' h => slices_Index_uint8_uint8_w F0 m   s v_ r hm w' h)

theorem slices_Contains_uint8_uint8_w {g_s : Gh} (M : Av) (m : Nat) (s : List Int) (v_ : Int) (r : Bool) (hm : slices_Contains_uint8_uint8 m s v_ = some r) (w : World) (hS : S0 M [eI (tI .u8) s g_s] w) : Calls Tryz.prog 71 ⟨[vL g_s s,vU v_]⟩ w (fun e w' => ∃ v,e = .returned v ∧ v = vB r ∧ SH M (fpl [eI (tI .u8) s g_s]) w [] w'):=by
 rw [slices_Contains_uint8_uint8] at hm
 have hS0 : SH M (fpl [eI (tI .u8) s g_s]) w [eI (tI .u8) s g_s] w:=hS
 generalize hX : fpl [eI (tI .u8) s g_s] = X at hS0 ⊢
 clear hS hX
 have hS:=hS0
 clear hS0
 refine calls_entryP Tryz.func71 rfl Tryz.ntmps71 rfl fun _ H => ?_
 refine s_reg [] [0,1] (fS [0,1] [vL g_s s,vU v_]) [] H (by kernel_rfl) trivial fun _ _ H2 hb => ?_
 replace hS:=hS.below hb
 obtain ⟨y3,hy3,hm⟩:=bindE hm
 refine s_reg [(vI y3)] [4] [(4,[],vB (decide (0 ≤ y3)))] [rB 89 [vL g_s s,vU v_] (vI y3)] H2 (by kernel_rfl) ⟨(slices_Index_uint8_uint8_ok (g_s:=g_s) m _ _ _ hy3 _ (s0im s0nil (hS.im 0 rfl))),trivial⟩ fun _ _ H5 hb => ?_
 replace hS:=hS.below hb
 replace hS : SH M X w [] _:=hS.sel [] rfl
 apply w_ret
 obtain rfl:=someE hm
 exact retR1 H5 rfl rfl ⟨_,rfl,rfl,(hS.sel [] rfl)⟩
theorem slices_Contains_uint8_uint8_ok {g_s : Gh} (m : Nat) (s : List Int) (v_ : Int) (r : Bool) (hm : slices_Contains_uint8_uint8 m s v_ = some r) (w : World) (hL : S0 F0 [eI (tI .u8) s g_s] w ∧ fpl [eI (tI .u8) s g_s] = []) : RetB Tryz.prog 71 ⟨[vL g_s s,vU v_]⟩ (vB r) w:=retB_of hL (Tryz.call71 _) (fun w' h => slices_Contains_uint8_uint8_w F0 m   s v_ r hm w' h)

theorem props_Has_w  (M : Av) (m : Nat) (prop : Int) (v_ : TVal) (r : Bool × Int) (hm : props_Has m prop v_ = some r) (w : World) (hS : S0 M [gE0] w) : Calls Tryz.prog 47 ⟨[vI prop,vG (cV v_)]⟩ w (fun e w' => ∃ v,e = .returned v ∧ v = vW [vB r.1,vI r.2] ∧ SH M (fpl [gE0]) w [] w'):=by
 rw [props_Has] at hm
 have hS0 : SH M (fpl [gE0]) w [gE0] w:=hS
 generalize hX : fpl [gE0] = X at hS0 ⊢
 clear hS hX
 have hS:=hS0
 clear hS0
 refine calls_entryP Tryz.func47 rfl Tryz.ntmps47 rfl fun _ H => ?_
 apply w_seq
 apply wl_start
 have hd:=hS.hand [] [0] rfl rfl
 refine m_stp [3,0] [(0,[],vI prop)] H rfl rfl rfl rfl (o_box (cV v_) H hd rfl rfl) (fun _ => rfl) fun _ _ v H3 hq => ?_
 obtain ⟨b1,rfl,hq⟩:=hq
 replace hS : SH M X w [eB b1 (cV v_),gE0] _:=hS.join [] [0] rfl rfl hq
 refine wl_batch 1 3 [] [0,3] (fS [0,3] [vI prop,vP b1]) [] H3 (by decide) (by kernel_rfl) trivial fun _ _ H5 hb => ?_
 replace hS:=hS.below hb
 apply wl_end rfl
 apply w_seq
 obtain ⟨x6,hx6,hm⟩:=letE hm
 refine s_reg [] [0,3,12] (fS [0,3,12] [vI prop,vP b1,vB x6]) [] H5 (by subst hx6; kernel_rfl) trivial fun _ _ H8 hb => ?_
 replace hS:=hS.below hb
 refine w_if H8 rfl (fun hc => ?c40) (fun hc => ?_)
 case c40 =>
  replace hm:=bT hc hm
  refine s_reg [] [4,5] (fS [4,5] [vF,vI 2]) [] H8 (by kernel_rfl) trivial fun _ _ H10 hb => ?_
  replace hS:=hS.below hb
  replace hS : SH M X w [gE0] _:=hS.sel [1] rfl
  apply w_ret
  obtain rfl:=someE hm
  exact retR2 H10 rfl rfl rfl ⟨_,rfl,rfl,(hS.sel [] rfl)⟩
 replace hm:=bF hc hm
 apply w_skip
 apply w_seq
 apply wl_start
 obtain ⟨y11,hy11,hm⟩:=bindE hm
 have hd:=hS.hand [1] [0,1] rfl rfl
 refine m_stp [13,0,3] (fS [0,3] [vI prop,vP b1]) H8 rfl rfl rfl rfl (o_callx H8 rfl rfl (props_Table_ok m _ hy11 _ _ hd)) (fun _ => rfl) fun _ _ v H15 hq => ?_
 obtain ⟨g12,rfl,hq⟩:=hq
 replace hS : SH M X w [eO 100 tyProp y11 g12,eB b1 (cV v_),gE0] _:=hS.join [1] [0,1] rfl rfl hq
 obtain ⟨ho16,hm⟩:=chkE hm
 refine wl_batch 1 4 [(vG [vS (gi y11 prop).Name,vB ((gi y11 prop).Inherited),vU ((gi y11 prop).Initial.Kind),vS (gi y11 prop).Initial.Word,vI ((gi y11 prop).Initial.Num),vU ((gi y11 prop).Initial.Color.Red),vU ((gi y11 prop).Initial.Color.Green),vU ((gi y11 prop).Initial.Color.Blue),vU ((gi y11 prop).Initial.Color.Alpha),.slice (g12.s (prop).toNat 0).a (((gi y11 prop).Words).length) (g12.s (prop).toNat 0).c,.slice (g12.s (prop).toNat 1).a (((gi y11 prop).Kinds).length) (g12.s (prop).toNat 1).c,vB ((gi y11 prop).Least)])] [3,16] (fS [3,16] [vP b1,vG [vS (gi y11 prop).Name,vB ((gi y11 prop).Inherited),vU ((gi y11 prop).Initial.Kind),vS (gi y11 prop).Initial.Word,vI ((gi y11 prop).Initial.Num),vU ((gi y11 prop).Initial.Color.Red),vU ((gi y11 prop).Initial.Color.Green),vU ((gi y11 prop).Initial.Color.Blue),vU ((gi y11 prop).Initial.Color.Alpha),.slice (g12.s (prop).toNat 0).a (((gi y11 prop).Words).length) (g12.s (prop).toNat 0).c,.slice (g12.s (prop).toNat 1).a (((gi y11 prop).Kinds).length) (g12.s (prop).toNat 1).c,vB ((gi y11 prop).Least)]]) [fun _ => oka g12.a ∧ 0 ≤ prop ∧ prop < ln y11,fun wz => V.atN (ab g12.a) (ao g12.a + (prop).toNat * 12) [vS (gi y11 prop).Name,vB ((gi y11 prop).Inherited),vU ((gi y11 prop).Initial.Kind),vS (gi y11 prop).Initial.Word,vI ((gi y11 prop).Initial.Num),vU ((gi y11 prop).Initial.Color.Red),vU ((gi y11 prop).Initial.Color.Green),vU ((gi y11 prop).Initial.Color.Blue),vU ((gi y11 prop).Initial.Color.Alpha),.slice (g12.s (prop).toNat 0).a (((gi y11 prop).Words).length) (g12.s (prop).toNat 0).c,.slice (g12.s (prop).toNat 1).a (((gi y11 prop).Kinds).length) (g12.s (prop).toNat 1).c,vB ((gi y11 prop).Least)] 0 wz] H15 (by decide) (by kernel_rfl) ⟨((hS.osl 0 rfl).oki ho16),((hS.osl 0 rfl).atA ho16 0 rfl),trivial⟩ fun _ _ H18 hb => ?_
 replace hS:=hS.below hb
 have hd:=hS.hand [] [0,1,2] rfl rfl
 refine m_stp [6,3,16] (fS [3,16] [vP b1,vG [vS (gi y11 prop).Name,vB ((gi y11 prop).Inherited),vU ((gi y11 prop).Initial.Kind),vS (gi y11 prop).Initial.Word,vI ((gi y11 prop).Initial.Num),vU ((gi y11 prop).Initial.Color.Red),vU ((gi y11 prop).Initial.Color.Green),vU ((gi y11 prop).Initial.Color.Blue),vU ((gi y11 prop).Initial.Color.Alpha),.slice (g12.s (prop).toNat 0).a (((gi y11 prop).Words).length) (g12.s (prop).toNat 0).c,.slice (g12.s (prop).toNat 1).a (((gi y11 prop).Kinds).length) (g12.s (prop).toNat 1).c,vB ((gi y11 prop).Least)]]) H18 rfl rfl rfl rfl (o_alloc [vN,vF,vU 0,vN,vI 0,vU 0,vU 0,vU 0,vU 0,vO,vO,vF] (z:=vG [vN,vF,vU 0,vN,vI 0,vU 0,vU 0,vU 0,vU 0,vO,vO,vF]) hd (by kernel_rfl) rfl) (fun _ => rfl) fun _ _ v H21 hq => ?_
 obtain ⟨b19,rfl,hq⟩:=hq
 replace hS : SH M X w [eB b19 [vN,vF,vU 0,vN,vI 0,vU 0,vU 0,vU 0,vU 0,vO,vO,vF],eO 100 tyProp y11 g12,eB b1 (cV v_),gE0] _:=hS.join [] [0,1,2] rfl rfl hq
 have hd:=hS.hand [0] [1,2,3] rfl rfl
 refine m_stp0 [3,6] (fS [3,6] [vP b1,vP b19]) H21 rfl rfl rfl (o_store [vS (gi y11 prop).Name,vB ((gi y11 prop).Inherited),vU ((gi y11 prop).Initial.Kind),vS (gi y11 prop).Initial.Word,vI ((gi y11 prop).Initial.Num),vU ((gi y11 prop).Initial.Color.Red),vU ((gi y11 prop).Initial.Color.Green),vU ((gi y11 prop).Initial.Color.Blue),vU ((gi y11 prop).Initial.Color.Alpha),.slice (g12.s (prop).toNat 0).a (((gi y11 prop).Words).length) (g12.s (prop).toNat 0).c,.slice (g12.s (prop).toNat 1).a (((gi y11 prop).Kinds).length) (g12.s (prop).toNat 1).c,vB ((gi y11 prop).Least)] H21 hd rfl rfl (by kernel_rfl) rfl rfl rfl) rfl fun _ _ H23 hq => ?_
 obtain ⟨_,hq⟩:=hq
 replace hS : SH M X w [eB b19 [vS (gi y11 prop).Name,vB ((gi y11 prop).Inherited),vU ((gi y11 prop).Initial.Kind),vS (gi y11 prop).Initial.Word,vI ((gi y11 prop).Initial.Num),vU ((gi y11 prop).Initial.Color.Red),vU ((gi y11 prop).Initial.Color.Green),vU ((gi y11 prop).Initial.Color.Blue),vU ((gi y11 prop).Initial.Color.Alpha),.slice (g12.s (prop).toNat 0).a (((gi y11 prop).Words).length) (g12.s (prop).toNat 0).c,.slice (g12.s (prop).toNat 1).a (((gi y11 prop).Kinds).length) (g12.s (prop).toNat 1).c,vB ((gi y11 prop).Least)],eO 100 tyProp y11 g12,eB b1 (cV v_),gE0] _:=hS.join [0] [1,2,3] rfl rfl hq
 apply wl_end rfl
 apply w_seq
 apply w_block
 obtain ⟨y24,hy24,hm⟩:=bindE hm
 refine s_reg [(vG (cV v_)),(vI y24)] [3,6,17] (fS [3,6,17] [vP b1,vP b19,vB (y24 != 0)]) [rN b1 0 (cV v_),rB 70 [vG (cV v_)] (vI y24)] H23 (by kernel_rfl) ⟨((hS.bk 2 rfl).atD rfl),((props_Check_ok _ _ hy24).b),trivial⟩ fun _ _ H26 hb => ?_
 replace hS:=hS.below hb
 refine w_if H26 rfl (fun hc => ?c39) (fun hc => ?_)
 case c39 =>
  replace hm:=bT hc hm
  refine s_reg [] [4,5] (fS [4,5] [vF,vI 0]) [] H26 (by kernel_rfl) trivial fun _ _ H28 hb => ?_
  replace hS:=hS.below hb
  replace hS : SH M X w [gE0] _:=hS.sel [3] rfl
  apply w_ret
  obtain rfl:=someE hm
  exact retR2 H28 rfl rfl rfl ⟨_,rfl,rfl,(hS.sel [] rfl)⟩
 replace hm:=bF hc hm
 refine s_reg [(vU v_.Kind)] [3,6,21] (fS [3,6,21] [vP b1,vP b19,vB (v_.Kind == 1)]) [rA b1 0 (vU v_.Kind)] H26 (by kernel_rfl) ⟨((hS.bk 2 rfl).at1 rfl),trivial⟩ fun _ _ H30 hb => ?_
 replace hS:=hS.below hb
 refine w_if H30 rfl (fun hc => ?c38) (fun hc => ?_)
 case c38 =>
  replace hm:=bT hc hm
  obtain ⟨y31,hy31,hm⟩:=bindE hm
  refine s_reg [(.slice (g12.s (prop).toNat 0).a (((gi y11 prop).Words).length) (g12.s (prop).toNat 0).c),(vS v_.Word),(vB y31)] [4,5] (fS [4,5] [vB y31,vI 0]) [fun wz => V.at1 ⟨b19,9,none⟩ (.slice (g12.s (prop).toNat 0).a (((gi y11 prop).Words).length) (g12.s (prop).toNat 0).c) wz,rA b1 1 (vS v_.Word),rB 51 [.slice (g12.s (prop).toNat 0).a (((gi y11 prop).Words).length) (g12.s (prop).toNat 0).c,vS v_.Word] (vB y31)] H30 (by kernel_rfl) ⟨((hS.bk 0 rfl).at1 rfl),((hS.bk 2 rfl).at1 rfl),(slices_Contains_string_string_ok (g_s:=(g12.s (prop).toNat 0)) 64 _ _ _ hy31 _ (s0im s0nil (tyProp_i0 ((hS.osl 1 rfl).el ho16)))),trivial⟩ fun _ _ H33 hb => ?_
  replace hS:=hS.below hb
  replace hS : SH M X w [gE0] _:=hS.sel [3] rfl
  apply w_ret
  obtain rfl:=someE hm
  exact retR2 H33 rfl rfl rfl ⟨_,rfl,rfl,(hS.sel [] rfl)⟩
 replace hm:=bF hc hm
 apply w_skip
 obtain ⟨y34,hy34,hm⟩:=bindE hm
 obtain ⟨x35,hx35,hm⟩:=letE hm
 refine s_reg [(.slice (g12.s (prop).toNat 1).a (((gi y11 prop).Kinds).length) (g12.s (prop).toNat 1).c),(vU v_.Kind),(vB y34),(vB ((gi y11 prop).Least)),(vI v_.Num)] [4,5] (fS [4,5] [vB x35,vI 0]) [fun wz => V.at1 ⟨b19,10,none⟩ (.slice (g12.s (prop).toNat 1).a (((gi y11 prop).Kinds).length) (g12.s (prop).toNat 1).c) wz,rA b1 0 (vU v_.Kind),rB 71 [.slice (g12.s (prop).toNat 1).a (((gi y11 prop).Kinds).length) (g12.s (prop).toNat 1).c,vU v_.Kind] (vB y34),fun wz => (y34 = true ∧ True → V.at1 ⟨b19,11,none⟩ (vB ((gi y11 prop).Least)) wz),fun wz => ((!((gi y11 prop).Least)) = false ∧ y34 = true ∧ True → V.at1 ⟨b1,2,none⟩ (vI v_.Num) wz)] H30 (by subst hx35; kernel_rfl) ⟨((hS.bk 0 rfl).at1 rfl),((hS.bk 2 rfl).at1 rfl),(slices_Contains_uint8_uint8_ok (g_s:=(g12.s (prop).toNat 1)) m _ _ _ hy34 _ (s0im s0nil (tyProp_i1 ((hS.osl 1 rfl).el ho16)))),fun hg => (hS.bk 0 rfl).at1 rfl,fun hg => (hS.bk 2 rfl).at1 rfl,trivial⟩ fun _ _ H37 hb => ?_
 replace hS:=hS.below hb
 replace hS : SH M X w [gE0] _:=hS.sel [3] rfl
 apply w_ret
 obtain rfl:=someE hm
 exact retR2 H37 rfl rfl rfl ⟨_,rfl,rfl,(hS.sel [] rfl)⟩
theorem props_Has_ok  (m : Nat) (prop : Int) (v_ : TVal) (r : Bool × Int) (hm : props_Has m prop v_ = some r) (w : World) (hL : S0 F0 [gE0] w ∧ fpl [gE0] = []) : RetB Tryz.prog 47 ⟨[vI prop,vG (cV v_)]⟩ (vW [vB r.1,vI r.2]) w:=retB_of hL (Tryz.call47 _) (fun w' h => props_Has_w F0 m   prop v_ r hm w' h)

theorem parseval_Parse_w {g_l_ : Gh} (M : Av) (m : Nat) (prop : Int) (l_ : List TValue) (r : TVal × Int) (hm : parseval_Parse m prop l_ = some r) (w : World) (hS : S0 M [eI tyValue l_ g_l_,gE0] w) : Calls Tryz.prog 19 ⟨[vI prop,vL g_l_ l_]⟩ w (fun e w' => ∃ v,e = .returned v ∧ v = vW [vG (cV r.1),vI r.2] ∧ SH M (fpl [eI tyValue l_ g_l_,gE0]) w [] w'):=by
 rw [parseval_Parse] at hm
 have hS0 : SH M (fpl [eI tyValue l_ g_l_,gE0]) w [eI tyValue l_ g_l_,gE0] w:=hS
 generalize hX : fpl [eI tyValue l_ g_l_,gE0] = X at hS0 ⊢
 clear hS hX
 have hS:=hS0
 clear hS0
 refine calls_entryP Tryz.func19 rfl Tryz.ntmps19 rfl fun _ H => ?_
 apply w_seq
 apply wl_start
 have hd:=hS.hand [] [0,1] rfl rfl
 refine m_stp [4,0,1] (fS [0,1] [vI prop,vL g_l_ l_]) H rfl rfl rfl rfl (o_alloc [vU 0,vN,vI 0,vU 0,vU 0,vU 0,vU 0] (z:=vG [vU 0,vN,vI 0,vU 0,vU 0,vU 0,vU 0]) hd (by kernel_rfl) rfl) (fun _ => rfl) fun _ _ v H3 hq => ?_
 obtain ⟨b1,rfl,hq⟩:=hq
 replace hS : SH M X w [eB b1 [vU 0,vN,vI 0,vU 0,vU 0,vU 0,vU 0],eI tyValue l_ g_l_,gE0] _:=hS.join [] [0,1] rfl rfl hq
 refine wl_batch 1 2 [] [0,1,4] (fS [0,1,4] [vI prop,vL g_l_ l_,vP b1]) [] H3 (by decide) (by kernel_rfl) trivial fun _ _ H5 hb => ?_
 replace hS:=hS.below hb
 apply wl_end rfl
 apply w_seq
 obtain ⟨x6,hx6,hm⟩:=letE hm
 refine s_reg [] [0,1,4,15] (fS [0,1,4,15] [vI prop,vL g_l_ l_,vP b1,vB x6]) [] H5 (by subst hx6; kernel_rfl) trivial fun _ _ H8 hb => ?_
 replace hS:=hS.below hb
 refine w_if H8 rfl (fun hc => ?c70) (fun hc => ?_)
 case c70 =>
  replace hm:=bT hc hm
  apply w_seq
  apply wl_start
  refine wl_batch 0 1 [] [4,16] (fS [4,16] [vP b1,vG [vU 0,vN,vI 0,vU 0,vU 0,vU 0,vU 0]]) [] H8 (by decide) (by kernel_rfl) trivial fun _ _ H10 hb => ?_
  replace hS:=hS.below hb
  have hd:=hS.hand [0] [1,2] rfl rfl
  refine m_stp0 [4] [(4,[],vP b1)] H10 rfl rfl rfl (o_store [vU 0,vN,vI 0,vU 0,vU 0,vU 0,vU 0] H10 hd rfl rfl (by kernel_rfl) rfl rfl rfl) rfl fun _ _ H12 hq => ?_
  obtain ⟨_,hq⟩:=hq
  replace hS : SH M X w [eB b1 [vU 0,vN,vI 0,vU 0,vU 0,vU 0,vU 0],eI tyValue l_ g_l_,gE0] _:=hS.join [0] [1,2] rfl rfl hq
  refine wl_batch 2 3 [] [4,5] (fS [4,5] [vP b1,vI 2]) [] H12 (by decide) (by kernel_rfl) trivial fun _ _ H14 hb => ?_
  replace hS:=hS.below hb
  apply wl_end rfl
  replace hS : SH M X w [eB b1 [vU 0,vN,vI 0,vU 0,vU 0,vU 0,vU 0],gE0] _:=hS.sel [0,2] rfl
  apply w_ret
  obtain rfl:=someE hm
  exact retR2 H14 rfl (oneRes_agg rfl (hS.bk 0 rfl) Tryz.underlying57 rfl (by kernel_rfl)) rfl ⟨_,rfl,rfl,(hS.sel [] rfl)⟩
 replace hm:=bF hc hm
 apply w_skip
 apply w_seq
 refine s_reg [] [0,1,4,19] (fS [0,1,4,19] [vI prop,vL g_l_ l_,vP b1,vB ((ln l_) != 1)]) [] H8 (by kernel_rfl) trivial fun _ _ H16 hb => ?_
 replace hS:=hS.below hb
 refine w_if H16 rfl (fun hc => ?c69) (fun hc => ?_)
 case c69 =>
  replace hm:=bT hc hm
  apply w_seq
  apply wl_start
  refine wl_batch 0 1 [] [4,20] (fS [4,20] [vP b1,vG [vU 0,vN,vI 0,vU 0,vU 0,vU 0,vU 0]]) [] H16 (by decide) (by kernel_rfl) trivial fun _ _ H18 hb => ?_
  replace hS:=hS.below hb
  have hd:=hS.hand [0] [1,2] rfl rfl
  refine m_stp0 [4] [(4,[],vP b1)] H18 rfl rfl rfl (o_store [vU 0,vN,vI 0,vU 0,vU 0,vU 0,vU 0] H18 hd rfl rfl (by kernel_rfl) rfl rfl rfl) rfl fun _ _ H20 hq => ?_
  obtain ⟨_,hq⟩:=hq
  replace hS : SH M X w [eB b1 [vU 0,vN,vI 0,vU 0,vU 0,vU 0,vU 0],eI tyValue l_ g_l_,gE0] _:=hS.join [0] [1,2] rfl rfl hq
  refine wl_batch 2 3 [] [4,5] (fS [4,5] [vP b1,vI 12]) [] H20 (by decide) (by kernel_rfl) trivial fun _ _ H22 hb => ?_
  replace hS:=hS.below hb
  apply wl_end rfl
  replace hS : SH M X w [eB b1 [vU 0,vN,vI 0,vU 0,vU 0,vU 0,vU 0],gE0] _:=hS.sel [0,2] rfl
  apply w_ret
  obtain rfl:=someE hm
  exact retR2 H22 rfl (oneRes_agg rfl (hS.bk 0 rfl) Tryz.underlying57 rfl (by kernel_rfl)) rfl ⟨_,rfl,rfl,(hS.sel [] rfl)⟩
 replace hm:=bF hc hm
 apply w_skip
 obtain ⟨z23,hz,hm_z23⟩:=bindE hm
 refine w_cut (fun a' w' => ∃ s_z23 : Unit,z23 = Sum.inr s_z23 ∧ Fr 40 [(4,[],vP b1)] a' ∧ SH M X w [eB b1 [vU 0,vN,vI 0,vU 0,vU 0,vU 0,vU 0],eI tyValue l_ g_l_,gE0] w') ?_ ?_
 ·replace hm:=hz
  apply w_seq
  apply wl_start
  obtain ⟨ho24,hm⟩:=chkE hm
  refine wl_batch 0 3 [(vG [vU ((gi l_ (0 : Int)).Token.Kind),vS (gi l_ (0 : Int)).Token.Text,vI ((gi l_ (0 : Int)).Token.Num),vS (gi l_ (0 : Int)).Token.Unit,vB ((gi l_ (0 : Int)).Token.Flag),.slice (g_l_.s ((0 : Int)).toNat 0).a (((gi l_ (0 : Int)).List_).length) (g_l_.s ((0 : Int)).toNat 0).c])] [0,4,23] (fS [0,4,23] [vI prop,vP b1,vG [vU ((gi l_ (0 : Int)).Token.Kind),vS (gi l_ (0 : Int)).Token.Text,vI ((gi l_ (0 : Int)).Token.Num),vS (gi l_ (0 : Int)).Token.Unit,vB ((gi l_ (0 : Int)).Token.Flag),.slice (g_l_.s ((0 : Int)).toNat 0).a (((gi l_ (0 : Int)).List_).length) (g_l_.s ((0 : Int)).toNat 0).c]]) [fun _ => oka g_l_.a ∧ 0 ≤ (0 : Int) ∧ (0 : Int) < ln l_,fun wz => V.atN (ab g_l_.a) (ao g_l_.a + ((0 : Int)).toNat * 6) [vU ((gi l_ (0 : Int)).Token.Kind),vS (gi l_ (0 : Int)).Token.Text,vI ((gi l_ (0 : Int)).Token.Num),vS (gi l_ (0 : Int)).Token.Unit,vB ((gi l_ (0 : Int)).Token.Flag),.slice (g_l_.s ((0 : Int)).toNat 0).a (((gi l_ (0 : Int)).List_).length) (g_l_.s ((0 : Int)).toNat 0).c] 0 wz] H16 (by decide) (by kernel_rfl) ⟨((hS.im 1 rfl).oki ho24),((hS.im 1 rfl).atA ho24 0 rfl),trivial⟩ fun _ _ H26 hb => ?_
  replace hS:=hS.below hb
  replace hS : SH M X w [eI tyValue ((gi l_ (0 : Int)).List_) (g_l_.s ((0 : Int)).toNat 0),eB b1 [vU 0,vN,vI 0,vU 0,vU 0,vU 0,vU 0],eI tyValue l_ g_l_,gE0] _:=hS.addIm (tyValue_i0 ((hS.im 1 rfl).el ho24))
  obtain ⟨y28,hy28,hm⟩:=bindE hm
  have hd:=hS.hand [0] [0,1,2,3] rfl rfl
  refine m_stp [24,0,4] (fS [0,4] [vI prop,vP b1]) H26 rfl rfl rfl rfl (o_callx H26 rfl rfl (parseval_maybe_ok (g_v__0:=(g_l_.s ((0 : Int)).toNat 0)) m _ _ hy28 _ _ hd)) (fun _ => rfl) fun _ _ v H32 hq => ?_
  obtain ⟨g29,rfl,hq⟩:=hq
  replace hS : SH M X w [eO 57 tyVal y28 g29,eI tyValue ((gi l_ (0 : Int)).List_) (g_l_.s ((0 : Int)).toNat 0),eB b1 [vU 0,vN,vI 0,vU 0,vU 0,vU 0,vU 0],eI tyValue l_ g_l_,gE0] _:=hS.join [0] [0,1,2,3] rfl rfl hq
  refine wl_batch 4 6 [] [0,4,24,25,26] (fS [0,4,24,25,26] [vI prop,vP b1,vL g29 y28,vI (ln y28),vI 0]) [] H32 (by decide) (by kernel_rfl) trivial fun _ _ H34 hb => ?_
  replace hS:=hS.below hb
  apply wl_end rfl
  replace hS : SH M X w [eO 57 tyVal y28 g29,eB b1 [vU 0,vN,vI 0,vU 0,vU 0,vU 0,vU 0],eI tyValue l_ g_l_,gE0] _:=hS.sel [0,2,3,4] rfl
  apply w_block
  refine w_loop (fun kk a' w' => ∃ (v35 : Int),parseval_Parse_L1 m prop y28 kk v35 = some _ ∧ Fr 40 (fS [0,4,24,25,26] [vI prop,vP b1,vL g29 y28,vI (ln y28),vI v35]) a' ∧ SH M X w [eO 57 tyVal y28 g29,eB b1 [vU 0,vN,vI 0,vU 0,vU 0,vU 0,vU 0],eI tyValue l_ g_l_,gE0] w') ⟨_,0,hm,FrG.keep (ks:=[0,4,24,25,26]) H34 (by kernel_rfl),hS⟩ ?_
  clear hm H34 hS
  rintro kk _ _ ⟨v35,hm,H,hS⟩
  cases kk with
  | zero => exact noneE hm
  | succ kk =>
   rw [parseval_Parse_L1] at hm
   refine s_reg [] [0,4,24,25,26,27] (fS [0,4,24,25,26,27] [vI prop,vP b1,vL g29 y28,vI (ln y28),vI v35,vB (decide (v35 < (ln y28)))]) [] H (by kernel_rfl) trivial fun _ _ H37 hb => ?_
   replace hS:=hS.below hb
   apply w_seq
   refine w_if H37 rfl (fun hc => ?_) (fun hc => ?c60)
   case c60 =>
    replace hm:=bF hc hm
    apply w_exit rfl
    obtain rfl:=someE hm
    replace hS : SH M X w [eB b1 [vU 0,vN,vI 0,vU 0,vU 0,vU 0,vU 0],eI tyValue l_ g_l_,gE0] _:=hS.sel [1,2,3] rfl
    exact ⟨_,rfl,FrG.keep (ks:=[4]) H37 (by kernel_rfl),hS⟩
   replace hm:=bT hc hm
   apply w_skip
   apply w_seq
   apply w_block
   apply w_seq
   apply wl_start
   obtain ⟨ho38,hm⟩:=chkE hm
   refine wl_batch 0 2 [(vG [vU ((gi y28 v35).Kind),vS (gi y28 v35).Word,vI ((gi y28 v35).Num),vU ((gi y28 v35).Color.Red),vU ((gi y28 v35).Color.Green),vU ((gi y28 v35).Color.Blue),vU ((gi y28 v35).Color.Alpha)])] [0,4,24,25,26,29] (fS [0,4,24,25,26,29] [vI prop,vP b1,vL g29 y28,vI (ln y28),vI v35,vG [vU ((gi y28 v35).Kind),vS (gi y28 v35).Word,vI ((gi y28 v35).Num),vU ((gi y28 v35).Color.Red),vU ((gi y28 v35).Color.Green),vU ((gi y28 v35).Color.Blue),vU ((gi y28 v35).Color.Alpha)]]) [fun _ => oka g29.a ∧ 0 ≤ v35 ∧ v35 < ln y28,fun wz => V.atN (ab g29.a) (ao g29.a + (v35).toNat * 7) [vU ((gi y28 v35).Kind),vS (gi y28 v35).Word,vI ((gi y28 v35).Num),vU ((gi y28 v35).Color.Red),vU ((gi y28 v35).Color.Green),vU ((gi y28 v35).Color.Blue),vU ((gi y28 v35).Color.Alpha)] 0 wz] H37 (by decide) (by kernel_rfl) ⟨((hS.osl 0 rfl).oki ho38),((hS.osl 0 rfl).atA ho38 0 rfl),trivial⟩ fun _ _ H40 hb => ?_
   replace hS:=hS.below hb
   have hd:=hS.hand [] [0,1,2,3] rfl rfl
   refine m_stp [7,0,4,24,25,26,29] (fS [0,4,24,25,26,29] [vI prop,vP b1,vL g29 y28,vI (ln y28),vI v35,vG [vU ((gi y28 v35).Kind),vS (gi y28 v35).Word,vI ((gi y28 v35).Num),vU ((gi y28 v35).Color.Red),vU ((gi y28 v35).Color.Green),vU ((gi y28 v35).Color.Blue),vU ((gi y28 v35).Color.Alpha)]]) H40 rfl rfl rfl rfl (o_alloc [vU 0,vN,vI 0,vU 0,vU 0,vU 0,vU 0] (z:=vG [vU 0,vN,vI 0,vU 0,vU 0,vU 0,vU 0]) hd (by kernel_rfl) rfl) (fun _ => rfl) fun _ _ v H43 hq => ?_
   obtain ⟨b41,rfl,hq⟩:=hq
   replace hS : SH M X w [eB b41 [vU 0,vN,vI 0,vU 0,vU 0,vU 0,vU 0],eO 57 tyVal y28 g29,eB b1 [vU 0,vN,vI 0,vU 0,vU 0,vU 0,vU 0],eI tyValue l_ g_l_,gE0] _:=hS.join [] [0,1,2,3] rfl rfl hq
   have hd:=hS.hand [0] [1,2,3,4] rfl rfl
   refine m_stp0 [0,4,7,24,25,26] (fS [0,4,7,24,25,26] [vI prop,vP b1,vP b41,vL g29 y28,vI (ln y28),vI v35]) H43 rfl rfl rfl (o_store [vU ((gi y28 v35).Kind),vS (gi y28 v35).Word,vI ((gi y28 v35).Num),vU ((gi y28 v35).Color.Red),vU ((gi y28 v35).Color.Green),vU ((gi y28 v35).Color.Blue),vU ((gi y28 v35).Color.Alpha)] H43 hd rfl rfl (by kernel_rfl) rfl rfl rfl) rfl fun _ _ H45 hq => ?_
   obtain ⟨_,hq⟩:=hq
   replace hS : SH M X w [eB b41 [vU ((gi y28 v35).Kind),vS (gi y28 v35).Word,vI ((gi y28 v35).Num),vU ((gi y28 v35).Color.Red),vU ((gi y28 v35).Color.Green),vU ((gi y28 v35).Color.Blue),vU ((gi y28 v35).Color.Alpha)],eO 57 tyVal y28 g29,eB b1 [vU 0,vN,vI 0,vU 0,vU 0,vU 0,vU 0],eI tyValue l_ g_l_,gE0] _:=hS.join [0] [1,2,3,4] rfl rfl hq
   apply wl_end rfl
   obtain ⟨y46,hy46,hm⟩:=bindE hm
   refine s_reg [(vG [vU ((gi y28 v35).Kind),vS (gi y28 v35).Word,vI ((gi y28 v35).Num),vU ((gi y28 v35).Color.Red),vU ((gi y28 v35).Color.Green),vU ((gi y28 v35).Color.Blue),vU ((gi y28 v35).Color.Alpha)]),(vW [vB y46.1,vI y46.2])] [0,4,7,8,24,25,26] (fS [0,4,7,8,24,25,26] [vI prop,vP b1,vP b41,vB y46.1,vL g29 y28,vI (ln y28),vI v35]) [rN b41 0 [vU ((gi y28 v35).Kind),vS (gi y28 v35).Word,vI ((gi y28 v35).Num),vU ((gi y28 v35).Color.Red),vU ((gi y28 v35).Color.Green),vU ((gi y28 v35).Color.Blue),vU ((gi y28 v35).Color.Alpha)],rB 47 [vI prop,vG [vU ((gi y28 v35).Kind),vS (gi y28 v35).Word,vI ((gi y28 v35).Num),vU ((gi y28 v35).Color.Red),vU ((gi y28 v35).Color.Green),vU ((gi y28 v35).Color.Blue),vU ((gi y28 v35).Color.Alpha)]] (vW [vB y46.1,vI y46.2])] H45 (by kernel_rfl) ⟨((hS.bk 0 rfl).atD rfl),(props_Has_ok 64 _ _ _ hy46 _ (s0im s0nil (hS.im 4 rfl))),trivial⟩ fun _ _ H48 hb => ?_
   replace hS:=hS.below hb
   refine s_reg [] [0,4,7,24,25,26,36] (fS [0,4,7,24,25,26,36] [vI prop,vP b1,vP b41,vL g29 y28,vI (ln y28),vI v35,vB y46.1]) [] H48 (by kernel_rfl) trivial fun _ _ H50 hb => ?_
   replace hS:=hS.below hb
   refine w_if H50 rfl (fun hc => ?_) (fun hc => ?c59)
   case c59 =>
    replace hm:=bF hc hm
    apply w_skip
    refine w_reg [] [0,4,24,25,26] (fS [0,4,24,25,26] [vI prop,vP b1,vL g29 y28,vI (ln y28),vI (w64 (v35 + 1))]) [] H50 (by kernel_rfl) trivial fun _ _ H58 hb => ?_
    replace hS:=hS.below hb
    replace hS : SH M X w [eO 57 tyVal y28 g29,eB b1 [vU 0,vN,vI 0,vU 0,vU 0,vU 0,vU 0],eI tyValue l_ g_l_,gE0] _:=hS.sel [1,2,3,4] rfl
    exact ⟨_,Nat.lt_succ_self _,w64 (v35 + 1),hm,FrG.keep (ks:=[0,4,24,25,26]) H58 (by kernel_rfl),hS⟩
   replace hm:=bT hc hm
   apply w_seq
   apply wl_start
   refine wl_batch 0 1 [(vG [vU ((gi y28 v35).Kind),vS (gi y28 v35).Word,vI ((gi y28 v35).Num),vU ((gi y28 v35).Color.Red),vU ((gi y28 v35).Color.Green),vU ((gi y28 v35).Color.Blue),vU ((gi y28 v35).Color.Alpha)])] [4,37] (fS [4,37] [vP b1,vG [vU ((gi y28 v35).Kind),vS (gi y28 v35).Word,vI ((gi y28 v35).Num),vU ((gi y28 v35).Color.Red),vU ((gi y28 v35).Color.Green),vU ((gi y28 v35).Color.Blue),vU ((gi y28 v35).Color.Alpha)]]) [rN b41 0 [vU ((gi y28 v35).Kind),vS (gi y28 v35).Word,vI ((gi y28 v35).Num),vU ((gi y28 v35).Color.Red),vU ((gi y28 v35).Color.Green),vU ((gi y28 v35).Color.Blue),vU ((gi y28 v35).Color.Alpha)]] H50 (by decide) (by kernel_rfl) ⟨((hS.bk 0 rfl).atD rfl),trivial⟩ fun _ _ H52 hb => ?_
   replace hS:=hS.below hb
   have hd:=hS.hand [2] [0,1,3,4] rfl rfl
   refine m_stp0 [4] [(4,[],vP b1)] H52 rfl rfl rfl (o_store [vU ((gi y28 v35).Kind),vS (gi y28 v35).Word,vI ((gi y28 v35).Num),vU ((gi y28 v35).Color.Red),vU ((gi y28 v35).Color.Green),vU ((gi y28 v35).Color.Blue),vU ((gi y28 v35).Color.Alpha)] H52 hd rfl rfl (by kernel_rfl) rfl rfl rfl) rfl fun _ _ H54 hq => ?_
   obtain ⟨_,hq⟩:=hq
   replace hS : SH M X w [eB b1 [vU ((gi y28 v35).Kind),vS (gi y28 v35).Word,vI ((gi y28 v35).Num),vU ((gi y28 v35).Color.Red),vU ((gi y28 v35).Color.Green),vU ((gi y28 v35).Color.Blue),vU ((gi y28 v35).Color.Alpha)],eB b41 [vU ((gi y28 v35).Kind),vS (gi y28 v35).Word,vI ((gi y28 v35).Num),vU ((gi y28 v35).Color.Red),vU ((gi y28 v35).Color.Green),vU ((gi y28 v35).Color.Blue),vU ((gi y28 v35).Color.Alpha)],eO 57 tyVal y28 g29,eI tyValue l_ g_l_,gE0] _:=hS.join [2] [0,1,3,4] rfl rfl hq
   refine wl_batch 2 3 [] [4,5] (fS [4,5] [vP b1,vI 0]) [] H54 (by decide) (by kernel_rfl) trivial fun _ _ H56 hb => ?_
   replace hS:=hS.below hb
   apply wl_end rfl
   replace hS : SH M X w [eB b1 [vU ((gi y28 v35).Kind),vS (gi y28 v35).Word,vI ((gi y28 v35).Num),vU ((gi y28 v35).Color.Red),vU ((gi y28 v35).Color.Green),vU ((gi y28 v35).Color.Blue),vU ((gi y28 v35).Color.Alpha)],eO 57 tyVal y28 g29,eI tyValue l_ g_l_,gE0] _:=hS.sel [0,2,3,4] rfl
   apply w_ret
   obtain rfl:=someE hm
   have hm:=hm_z23
   obtain rfl:=someE hm
   exact retR2 H56 rfl (oneRes_agg rfl (hS.bk 0 rfl) Tryz.underlying57 rfl (by kernel_rfl)) rfl ⟨_,rfl,rfl,(hS.sel [] rfl)⟩
 ·rintro _ _ ⟨s_z23,hz,H,hS⟩
  subst hz
  replace hm:=sumR hm_z23
  replace hS : SH M X w [eB b1 [vU 0,vN,vI 0,vU 0,vU 0,vU 0,vU 0],gE0] _:=hS.sel [0,2] rfl
  apply w_seq
  apply wl_start
  refine wl_batch 0 1 [] [4,39] (fS [4,39] [vP b1,vG [vU 0,vN,vI 0,vU 0,vU 0,vU 0,vU 0]]) [] H (by decide) (by kernel_rfl) trivial fun _ _ H63 hb => ?_
  replace hS:=hS.below hb
  have hd:=hS.hand [0] [1] rfl rfl
  refine m_stp0 [4] [(4,[],vP b1)] H63 rfl rfl rfl (o_store [vU 0,vN,vI 0,vU 0,vU 0,vU 0,vU 0] H63 hd rfl rfl (by kernel_rfl) rfl rfl rfl) rfl fun _ _ H65 hq => ?_
  obtain ⟨_,hq⟩:=hq
  replace hS : SH M X w [eB b1 [vU 0,vN,vI 0,vU 0,vU 0,vU 0,vU 0],gE0] _:=hS.join [0] [1] rfl rfl hq
  refine wl_batch 2 3 [] [4,5] (fS [4,5] [vP b1,vI 12]) [] H65 (by decide) (by kernel_rfl) trivial fun _ _ H67 hb => ?_
  replace hS:=hS.below hb
  apply wl_end rfl
  apply w_ret
  obtain rfl:=someE hm
  exact retR2 H67 rfl (oneRes_agg rfl (hS.bk 0 rfl) Tryz.underlying57 rfl (by kernel_rfl)) rfl ⟨_,rfl,rfl,(hS.sel [] rfl)⟩
theorem parseval_Parse_ok {g_l_ : Gh} (m : Nat) (prop : Int) (l_ : List TValue) (r : TVal × Int) (hm : parseval_Parse m prop l_ = some r) (w : World) (hL : S0 F0 [eI tyValue l_ g_l_,gE0] w ∧ fpl [eI tyValue l_ g_l_,gE0] = []) : RetB Tryz.prog 19 ⟨[vI prop,vL g_l_ l_]⟩ (vW [vG (cV r.1),vI r.2]) w:=retB_of hL (Tryz.call19 _) (fun w' h => parseval_Parse_w F0 m   prop l_ r hm w' h)

theorem short_right_w {g_l_ : Gh} (M : Av) (m : Nat) (name_ : Str) (l_ : List TValue) (r : Bool) (hm : short_right m name_ l_ = some r) (w : World) (hS : S0 M [eI tyValue l_ g_l_,gE0] w) : Calls Tryz.prog 41 ⟨[vS name_,vL g_l_ l_]⟩ w (fun e w' => ∃ v,e = .returned v ∧ v = vB r ∧ SH M (fpl [eI tyValue l_ g_l_,gE0]) w [] w'):=by
 rw [short_right] at hm
 have hS0 : SH M (fpl [eI tyValue l_ g_l_,gE0]) w [eI tyValue l_ g_l_,gE0] w:=hS
 generalize hX : fpl [eI tyValue l_ g_l_,gE0] = X at hS0 ⊢
 clear hS hX
 have hS:=hS0
 clear hS0
 refine calls_entryP Tryz.func41 rfl Tryz.ntmps41 rfl fun _ H => ?_
 refine s_reg [] [0,1] (fS [0,1] [vS name_,vL g_l_ l_]) [] H (by kernel_rfl) trivial fun _ _ H2 hb => ?_
 replace hS:=hS.below hb
 obtain ⟨y3,hy3,hm⟩:=bindE hm
 refine s_reg [(vW [vI y3.1,vI y3.2])] [1,5,6] (fS [1,5,6] [vL g_l_ l_,vI y3.1,vI y3.2]) [rB 27 [vS name_] (vW [vI y3.1,vI y3.2])] H2 (by kernel_rfl) ⟨(props_Find_ok 64 _ _ hy3 _ (s0im s0nil (hS.im 1 rfl))),trivial⟩ fun _ _ H5 hb => ?_
 replace hS:=hS.below hb
 apply w_seq
 refine s_reg [] [1,5,13] (fS [1,5,13] [vL g_l_ l_,vI y3.1,vB (y3.2 != 0)]) [] H5 (by kernel_rfl) trivial fun _ _ H7 hb => ?_
 replace hS:=hS.below hb
 refine w_if H7 rfl (fun hc => ?c15) (fun hc => ?_)
 case c15 =>
  replace hm:=bT hc hm
  refine s_reg [] [4] [(4,[],vF)] [] H7 (by kernel_rfl) trivial fun _ _ H9 hb => ?_
  replace hS:=hS.below hb
  replace hS : SH M X w [gE0] _:=hS.sel [1] rfl
  apply w_ret
  obtain rfl:=someE hm
  exact retR1 H9 rfl rfl ⟨_,rfl,rfl,(hS.sel [] rfl)⟩
 replace hm:=bF hc hm
 apply w_skip
 obtain ⟨y10,hy10,hm⟩:=bindE hm
 refine s_reg [(vW [vG (cV y10.1),vI y10.2])] [6] [(6,[],vI y10.2)] [rB 19 [vI y3.1,vL g_l_ l_] (vW [vG (cV y10.1),vI y10.2])] H7 (by kernel_rfl) ⟨(parseval_Parse_ok (g_l_:=g_l_) m _ _ _ hy10 _ (s0im (s0im s0nil (hS.im 1 rfl)) (hS.im 0 rfl))),trivial⟩ fun _ _ H12 hb => ?_
 replace hS:=hS.below hb
 replace hS : SH M X w [gE0] _:=hS.sel [1] rfl
 refine s_reg [] [4] [(4,[],vB (y10.2 == 0))] [] H12 (by kernel_rfl) trivial fun _ _ H14 hb => ?_
 replace hS:=hS.below hb
 apply w_ret
 obtain rfl:=someE hm
 exact retR1 H14 rfl rfl ⟨_,rfl,rfl,(hS.sel [] rfl)⟩
theorem short_right_ok {g_l_ : Gh} (m : Nat) (name_ : Str) (l_ : List TValue) (r : Bool) (hm : short_right m name_ l_ = some r) (w : World) (hL : S0 F0 [eI tyValue l_ g_l_,gE0] w ∧ fpl [eI tyValue l_ g_l_,gE0] = []) : RetB Tryz.prog 41 ⟨[vS name_,vL g_l_ l_]⟩ (vB r) w:=retB_of hL (Tryz.call41 _) (fun w' h => short_right_w F0 m   name_ l_ r hm w' h)

theorem math_bits_Mul64_w  (M : Av) (x_ : Int) (y_ : Int) (r : Int × Int) (hm : math_bits_Mul64 x_ y_ = r) (w : World) (hS : S0 M [] w) : Calls Tryz.prog 85 ⟨[.int .u64 x_,.int .u64 y_]⟩ w (fun e w' => ∃ v,e = .returned v ∧ v = vW [.int .u64 r.1,.int .u64 r.2] ∧ SH M (fpl []) w [] w'):=by
 rw [math_bits_Mul64] at hm
 have hS0 : SH M (fpl []) w [] w:=hS
 generalize hX : fpl [] = X at hS0 ⊢
 clear hS hX
 have hS:=hS0
 clear hS0
 refine calls_entryP Tryz.func85 rfl Tryz.ntmps85 rfl fun _ H => ?_
 refine s_reg [] [0,1] (fS [0,1] [.int .u64 x_,.int .u64 y_]) [] H (by kernel_rfl) trivial fun _ _ H2 hb => ?_
 replace hS:=hS.below hb
 refine s_reg [] [0,1,6] (fS [0,1,6] [.int .u64 x_,.int .u64 y_,.int .u64 (ibit .and .u64 x_ 4294967295)]) [] H2 (by kernel_rfl) trivial fun _ _ H4 hb => ?_
 replace hS:=hS.below hb
 refine s_reg [] [0,1,6,7] (fS [0,1,6,7] [.int .u64 x_,.int .u64 y_,.int .u64 (ibit .and .u64 x_ 4294967295),.int .u64 (Int.fdiv x_ (2 ^ 32))]) [fun _ => (0 : Int) ≤ 32] H4 (by kernel_rfl) ⟨(by show (0 : Int) ≤ 32; decide),trivial⟩ fun _ _ H6 hb => ?_
 replace hS:=hS.below hb
 refine s_reg [] [0,1,6,7,8] (fS [0,1,6,7,8] [.int .u64 x_,.int .u64 y_,.int .u64 (ibit .and .u64 x_ 4294967295),.int .u64 (Int.fdiv x_ (2 ^ 32)),.int .u64 (ibit .and .u64 y_ 4294967295)]) [] H6 (by kernel_rfl) trivial fun _ _ H8 hb => ?_
 replace hS:=hS.below hb
 refine s_reg [] [0,1,6,7,8,9] (fS [0,1,6,7,8,9] [.int .u64 x_,.int .u64 y_,.int .u64 (ibit .and .u64 x_ 4294967295),.int .u64 (Int.fdiv x_ (2 ^ 32)),.int .u64 (ibit .and .u64 y_ 4294967295),.int .u64 (Int.fdiv y_ (2 ^ 32))]) [fun _ => (0 : Int) ≤ 32] H8 (by kernel_rfl) ⟨(by show (0 : Int) ≤ 32; decide),trivial⟩ fun _ _ H10 hb => ?_
 replace hS:=hS.below hb
 obtain ⟨x11,hx11,hm⟩:=letE hm
 refine s_reg [] [0,1,6,7,8,9,10] (fS [0,1,6,7,8,9,10] [.int .u64 x_,.int .u64 y_,.int .u64 (ibit .and .u64 x_ 4294967295),.int .u64 (Int.fdiv x_ (2 ^ 32)),.int .u64 (ibit .and .u64 y_ 4294967295),.int .u64 (Int.fdiv y_ (2 ^ 32)),.int .u64 x11]) [] H10 (by subst hx11; kernel_rfl) trivial fun _ _ H13 hb => ?_
 replace hS:=hS.below hb
 obtain ⟨x14,hx14,hm⟩:=letE hm
 refine s_reg [] [0,1,6,7,9,11] (fS [0,1,6,7,9,11] [.int .u64 x_,.int .u64 y_,.int .u64 (ibit .and .u64 x_ 4294967295),.int .u64 (Int.fdiv x_ (2 ^ 32)),.int .u64 (Int.fdiv y_ (2 ^ 32)),.int .u64 (wu64 (x14 + (Int.fdiv x11 (2 ^ 32))))]) [fun _ => (0 : Int) ≤ 32] H13 (by subst hx14; kernel_rfl) ⟨(by show (0 : Int) ≤ 32; decide),trivial⟩ fun _ _ H16 hb => ?_
 replace hS:=hS.below hb
 obtain ⟨x17,hx17,hm⟩:=letE hm
 refine s_reg [] [0,1,6,7,9,11,12] (fS [0,1,6,7,9,11,12] [.int .u64 x_,.int .u64 y_,.int .u64 (ibit .and .u64 x_ 4294967295),.int .u64 (Int.fdiv x_ (2 ^ 32)),.int .u64 (Int.fdiv y_ (2 ^ 32)),.int .u64 (wu64 (x14 + (Int.fdiv x11 (2 ^ 32)))),.int .u64 x17]) [] H16 (by subst hx17; kernel_rfl) trivial fun _ _ H19 hb => ?_
 replace hS:=hS.below hb
 obtain ⟨x20,hx20,hm⟩:=letE hm
 refine s_reg [] [0,1,6,7,9,12,13] (fS [0,1,6,7,9,12,13] [.int .u64 x_,.int .u64 y_,.int .u64 (ibit .and .u64 x_ 4294967295),.int .u64 (Int.fdiv x_ (2 ^ 32)),.int .u64 (Int.fdiv y_ (2 ^ 32)),.int .u64 x17,.int .u64 x20]) [fun _ => (0 : Int) ≤ 32] H19 (by subst hx20; kernel_rfl) ⟨(by show (0 : Int) ≤ 32; decide),trivial⟩ fun _ _ H22 hb => ?_
 replace hS:=hS.below hb
 obtain ⟨x23,hx23,hm⟩:=letE hm
 refine s_reg [] [0,1,7,9,12,13] (fS [0,1,7,9,12,13] [.int .u64 x_,.int .u64 y_,.int .u64 (Int.fdiv x_ (2 ^ 32)),.int .u64 (Int.fdiv y_ (2 ^ 32)),.int .u64 (wu64 (x17 + x23)),.int .u64 x20]) [] H22 (by subst hx23; kernel_rfl) trivial fun _ _ H25 hb => ?_
 replace hS:=hS.below hb
 obtain ⟨x26,hx26,hm⟩:=letE hm
 obtain ⟨x27,hx27,hm⟩:=letE hm
 refine s_reg [] [0,1,4] (fS [0,1,4] [.int .u64 x_,.int .u64 y_,.int .u64 x27]) [fun _ => (0 : Int) ≤ 32] H25 (by subst hx26 hx27; kernel_rfl) ⟨(by show (0 : Int) ≤ 32; decide),trivial⟩ fun _ _ H29 hb => ?_
 replace hS:=hS.below hb
 refine s_reg [] [4,5] (fS [4,5] [.int .u64 x27,.int .u64 (wu64 (x_ * y_))]) [] H29 (by kernel_rfl) trivial fun _ _ H31 hb => ?_
 replace hS:=hS.below hb
 apply w_ret
 subst hm
 exact retR2 H31 rfl rfl rfl ⟨_,rfl,rfl,(hS.sel [] rfl)⟩
theorem math_bits_Mul64_ok  (x_ : Int) (y_ : Int) : Ret Tryz.prog 85 ⟨[.int .u64 x_,.int .u64 y_]⟩ (vW [.int .u64 (math_bits_Mul64 x_ y_).1,.int .u64 (math_bits_Mul64 x_ y_).2]):=retP_of (Tryz.call85 _) (fun w h => math_bits_Mul64_w F0   x_ y_ _ rfl w h)

theorem math_bits_Mul_w  (M : Av) (x_ : Int) (y_ : Int) (r : Int × Int) (hm : math_bits_Mul x_ y_ = r) (w : World) (hS : S0 M [] w) : Calls Tryz.prog 66 ⟨[.int .u64 x_,.int .u64 y_]⟩ w (fun e w' => ∃ v,e = .returned v ∧ v = vW [.int .u64 r.1,.int .u64 r.2] ∧ SH M (fpl []) w [] w'):=by
 rw [math_bits_Mul] at hm
 have hS0 : SH M (fpl []) w [] w:=hS
 generalize hX : fpl [] = X at hS0 ⊢
 clear hS hX
 have hS:=hS0
 clear hS0
 refine calls_entryP Tryz.func66 rfl Tryz.ntmps66 rfl fun _ H => ?_
 refine s_reg [] [0,1] (fS [0,1] [.int .u64 x_,.int .u64 y_]) [] H (by kernel_rfl) trivial fun _ _ H2 hb => ?_
 replace hS:=hS.below hb
 apply w_seq
 refine w_if H2 rfl (fun hc => by cases hc) (fun _ => ?_)
 apply w_skip
 obtain ⟨y3,hy3,hm⟩:=letE hm
 refine s_reg [(vW [.int .u64 y3.1,.int .u64 y3.2])] [8,9] (fS [8,9] [.int .u64 y3.1,.int .u64 y3.2]) [rB 85 [.int .u64 x_,.int .u64 y_] (vW [.int .u64 y3.1,.int .u64 y3.2])] H2 (by subst hy3; kernel_rfl) ⟨((by rw [hy3]; exact (math_bits_Mul64_ok _ _).b)),trivial⟩ fun _ _ H5 hb => ?_
 replace hS:=hS.below hb
 refine s_reg [] [4,5] (fS [4,5] [.int .u64 y3.1,.int .u64 y3.2]) [] H5 (by kernel_rfl) trivial fun _ _ H7 hb => ?_
 replace hS:=hS.below hb
 apply w_ret
 subst hm
 exact retR2 H7 rfl rfl rfl ⟨_,rfl,rfl,(hS.sel [] rfl)⟩
theorem math_bits_Mul_ok  (x_ : Int) (y_ : Int) : Ret Tryz.prog 66 ⟨[.int .u64 x_,.int .u64 y_]⟩ (vW [.int .u64 (math_bits_Mul x_ y_).1,.int .u64 (math_bits_Mul x_ y_).2]):=retP_of (Tryz.call66 _) (fun w h => math_bits_Mul_w F0   x_ y_ _ rfl w h)

theorem slices_Repeat_api_Value_api_Value_w {g_x_ : Gh} (M : Av) (m : Nat) (x_ : List (List TValue)) (count : Int) (r : List (List TValue)) (hm : slices_Repeat_api_Value_api_Value m x_ count = some r) (w : World) (hS : S0 M [eI (Ty.sl tyValue) x_ g_x_] w) : Calls Tryz.prog 42 ⟨[.slice g_x_.a x_.length g_x_.c,vI count]⟩ w (fun e w' => ∃ v,e = .returned v ∧ ∃ (g901 : Gh),v = .slice g901.a r.length g901.c ∧ SH M (fpl [eI (Ty.sl tyValue) x_ g_x_]) w [eO 22 (Ty.sl tyValue) r g901] w'):=by
 rw [slices_Repeat_api_Value_api_Value] at hm
 have hS0 : SH M (fpl [eI (Ty.sl tyValue) x_ g_x_]) w [eI (Ty.sl tyValue) x_ g_x_] w:=hS
 generalize hX : fpl [eI (Ty.sl tyValue) x_ g_x_] = X at hS0 ⊢
 clear hS hX
 have hS:=hS0
 clear hS0
 refine calls_entryP Tryz.func42 rfl Tryz.ntmps42 rfl fun _ H => ?_
 refine s_reg [] [0,1] (fS [0,1] [.slice g_x_.a x_.length g_x_.c,vI count]) [] H (by kernel_rfl) trivial fun _ _ H2 hb => ?_
 replace hS:=hS.below hb
 apply w_seq
 refine s_reg [] [0,1,10] (fS [0,1,10] [.slice g_x_.a x_.length g_x_.c,vI count,vB (decide (count < 0))]) [] H2 (by kernel_rfl) trivial fun _ _ H4 hb => ?_
 replace hS:=hS.below hb
 refine w_if H4 rfl (fun hc => ?c53) (fun hc => ?_)
 case c53 =>
  replace hm:=bT hc hm
  exact noneE hm
 replace hm:=bF hc hm
 apply w_skip
 obtain ⟨y5,hy5,hm⟩:=letE hm
 refine s_reg [(vW [.int .u64 y5.1,.int .u64 y5.2])] [0,5,6] (fS [0,5,6] [.slice g_x_.a x_.length g_x_.c,.int .u64 y5.1,.int .u64 y5.2]) [rB 66 [.int .u64 (wu64 (ln x_)),.int .u64 (wu64 count)] (vW [.int .u64 y5.1,.int .u64 y5.2])] H4 (by subst hy5; kernel_rfl) ⟨((by rw [hy5]; exact (math_bits_Mul_ok _ _).b)),trivial⟩ fun _ _ H7 hb => ?_
 replace hS:=hS.below hb
 apply w_seq
 obtain ⟨x8,hx8,hm⟩:=letE hm
 refine s_reg [] [0,6,26] (fS [0,6,26] [.slice g_x_.a x_.length g_x_.c,.int .u64 y5.2,vB x8]) [] H7 (by subst hx8; kernel_rfl) trivial fun _ _ H10 hb => ?_
 replace hS:=hS.below hb
 refine w_if H10 rfl (fun hc => ?c52) (fun hc => ?_)
 case c52 =>
  replace hm:=bT hc hm
  exact noneE hm
 replace hm:=bF hc hm
 apply w_skip
 apply w_seq
 apply wl_start
 refine wl_batch 0 2 [] [0,29] (fS [0,29] [.slice g_x_.a x_.length g_x_.c,vI (w64 y5.2)]) [] H10 (by decide) (by kernel_rfl) trivial fun _ _ H12 hb => ?_
 replace hS:=hS.below hb
 obtain ⟨ho13,hm⟩:=chkE hm
 obtain ⟨q14,hq14,hm⟩:=letE hm
 have hd:=hS.hand [] [0] rfl rfl
 refine m_stp [30,0] [(0,[],.slice g_x_.a x_.length g_x_.c)] H12 rfl rfl rfl rfl (o_make (T:=(Ty.sl tyValue)) (E:=22) (zv:=vO) ([] : List TValue) H12 hd rfl rfl (by kernel_rfl) (by kernel_rfl) rfl rfl (fun _ _ => SlG.nil) ho13) (fun _ => rfl) fun _ _ v H16 hq => ?_
 obtain ⟨g17,rfl,hq⟩:=hq
 rw [← hq14] at hq
 rw [← hq14] at H16
 replace hS : SH M X w [eO 22 (Ty.sl tyValue) q14 g17,eI (Ty.sl tyValue) x_ g_x_] _:=hS.join [] [0] rfl rfl hq
 refine wl_batch 3 4 [] [0,7] (fS [0,7] [.slice g_x_.a x_.length g_x_.c,.slice g17.a q14.length g17.c]) [] H16 (by decide) (by kernel_rfl) trivial fun _ _ H20 hb => ?_
 replace hS:=hS.below hb
 apply wl_end rfl
 apply w_seq
 apply wl_start
 refine wl_batch 0 2 [] [7,31,32] (fS [7,31,32] [.slice g17.a q14.length g17.c,.slice g17.a q14.length g17.c,.slice g_x_.a x_.length g_x_.c]) [] H20 (by decide) (by kernel_rfl) trivial fun _ _ H22 hb => ?_
 replace hS:=hS.below hb
 have hd:=hS.hand [0,1] [1] rfl rfl
 refine m_stp [33,7] [(7,[],.slice g17.a q14.length g17.c)] H22 rfl rfl rfl rfl (o_copy (T:=(Ty.sl tyValue)) (E:=22) (g:=g17) (gx:=g_x_) (q:=q14) (xs:=x_) (0 : Int) H22 hd (hd.im 1 rfl).f0 (fun k h => (hd.im 1 rfl).2 k h) rfl (sva0 _ _ _) rfl rfl rfl rfl (by kernel_rfl) (by kernel_rfl) rfl ⟨by decide,by unfold ln; omega⟩ rfl) (fun _ => rfl) fun _ _ v H24 hq => ?_
 obtain ⟨hv_,s25,hq⟩:=hq
 obtain ⟨x27,hx27,hm⟩:=letE hm
 obtain ⟨q26,hq26,hm⟩:=letE hm
 rw [← hx27] at hv_
 subst hv_
 rw [← hq26] at hq
 have hn : q14.length = q26.length:=by rw [hq26,cpl_len]
 first | rw [hn] at H24 | skip
 first | rw [hn] at hS | skip
 clear hn
 replace hS : SH M X w [eO 22 (Ty.sl tyValue) q26 (Gh.mk g17.a g17.c s25),eI (Ty.sl tyValue) x_ g_x_] _:=hS.join [0,1] [1] rfl rfl hq
 refine wl_batch 3 4 [] [7,8] (fS [7,8] [.slice (Gh.mk g17.a g17.c s25).a q26.length (Gh.mk g17.a g17.c s25).c,vI x27]) [] H24 (by decide) (by kernel_rfl) trivial fun _ _ H29 hb => ?_
 replace hS:=hS.below hb
 apply wl_end rfl
 replace hS : SH M X w [eO 22 (Ty.sl tyValue) q26 (Gh.mk g17.a g17.c s25)] _:=hS.sel [0] rfl
 obtain ⟨z30,hz,hm⟩:=bindE hm
 refine w_cut (fun a' w' => ∃ (g48 : Gh),Fr 48 [(7,[],.slice g48.a z30.length g48.c)] a' ∧ SH M X w [eO 22 (Ty.sl tyValue) z30 g48] w') ?_ ?_
 ·replace hm:=hz
  apply w_block
  refine w_loop (fun kk a' w' => ∃ (v31 : List (List TValue)) (v33 : Int) (g32 : Gh),slices_Repeat_api_Value_api_Value_L1 m  kk v31 v33 = some _ ∧ Fr 48 (fS [7,8] [.slice g32.a v31.length g32.c,vI v33]) a' ∧ SH M X w [eO 22 (Ty.sl tyValue) v31 g32] w') ⟨_,q26,x27,(Gh.mk g17.a g17.c s25),hm,FrG.keep (ks:=[7,8]) H29 (by kernel_rfl),hS⟩ ?_
  clear hm H29 hS
  rintro kk _ _ ⟨v31,v33,g32,hm,H,hS⟩
  cases kk with
  | zero => exact noneE hm
  | succ kk =>
   rw [slices_Repeat_api_Value_api_Value_L1] at hm
   apply w_seq
   refine s_reg [] [7,8,37] (fS [7,8,37] [.slice g32.a v31.length g32.c,vI v33,vB (decide (v33 < (ln v31)))]) [] H (by kernel_rfl) trivial fun _ _ H35 hb => ?_
   replace hS:=hS.below hb
   refine w_if H35 rfl (fun hc => ?_) (fun hc => ?c46)
   case c46 =>
    replace hm:=bF hc hm
    apply w_exit rfl
    obtain rfl:=someE hm
    exact ⟨g32,FrG.keep (ks:=[7]) H35 (by kernel_rfl),hS⟩
   replace hm:=bT hc hm
   apply w_skip
   apply w_block
   obtain ⟨ho37,hm⟩:=chkE hm
   obtain ⟨ho38,hm⟩:=chkE hm
   obtain ⟨x41,hx41,hm⟩:=letE hm
   obtain ⟨q40,hq40,hm⟩:=letE hm
   refine w_drawS (base:=[(7,[],.slice g32.a v31.length g32.c)]) (L:=[eO 22 (Ty.sl tyValue) v31 g32]) 10 1 (fun yg36 => [vI v33,.slice g32.a v31.length g32.c,vI v33,.slice (sva g32.a g32.c (v33).toNat 1) ((ln v31).toNat - (v33).toNat) (g32.c - (v33).toNat),.slice g32.a v31.length g32.c,vI v33,.slice (sva g32.a g32.c ((0 : Int)).toNat 1) ((v33).toNat - ((0 : Int)).toNat) (g32.c - ((0 : Int)).toNat),vI x41,vI (w64 (v33 + x41)),vI (w64 (v33 + x41))]) (fun yg36 => [[],[],[],[],[],[],[],[eO 22 (Ty.sl tyValue) q40 (Gh.mk g32.a g32.c (yg36 7 0).s)],[],[]]) [[],[],[],[10],[],[],[10],[10],[],[]] [[],[],[],[],[],[],[],[10],[],[]] [[0],[1],[2],[1,2,3],[4],[5],[4,5,6],[1,2,3,4,5,6,7],[0,1,2,3,4,5,6,7,8],[0,1,2,3,4,5,6,7,8,9]] [(8,9,vI v33)] (FrG.keep (ks:=[7]) H35 (by kernel_rfl)) (fun k e h => by rcases k with _ | k <;> first | (obtain rfl:=Option.some.inj h; exact FrG.slot H35 (by kernel_rfl)) | cases h) (by kernel_rfl) hS (by kernel_rfl) rfl rfl (by kernel_rfl) (by kernel_rfl) (by kernel_rfl) (gd_none (by kernel_rfl) _ _) ?hloc_yg36 ?hstep_yg36 fun _ _ yg36 H43 hv hS => ?hK_yg36
   case hloc_yg36 => exact ⟨(fun _ _ _ _ => ⟨rfl,rfl⟩),(fun _ _ _ _ => ⟨rfl,rfl⟩),(fun _ _ _ _ => ⟨rfl,rfl⟩),(fun _ _ _ _ => ⟨rfl,rfl⟩),(fun _ _ _ _ => ⟨rfl,rfl⟩),(fun _ _ _ _ => ⟨rfl,rfl⟩),(fun _ _ _ _ => ⟨rfl,rfl⟩),(fun _ i g hi => lcG [7] (fun yg36 => (vI x41,[eO 22 (Ty.sl tyValue) q40 (Gh.mk g32.a g32.c (yg36 7 0).s)])) hi rfl),(fun _ _ _ _ => ⟨rfl,rfl⟩),(fun _ _ _ _ => ⟨rfl,rfl⟩),trivial⟩
   case hstep_yg36 =>
    refine ⟨?_,?_,?_,?_,?_,?_,?_,?_,?_,?_,trivial⟩
    ·intro o ho a w yg36 M Hb hv hO hS
     obtain rfl:=someE ho
     exact Stp.mono (o_evs [] (vI v33) none [] ((Hb).add (hO 0 _ rfl (by kernel_rfl))) rfl (by kernel_rfl) (fun q e => by cases e)) fun _ _ hq => ⟨gL [],fun _ _ => hq.1,(hS.below hq.2.below).sel [] rfl⟩
    ·intro o ho a w yg36 M Hb hv hO hS
     obtain rfl:=someE ho
     exact Stp.mono (o_evs [] (.slice g32.a v31.length g32.c) none [] Hb rfl (by kernel_rfl) (fun q e => by cases e)) fun _ _ hq => ⟨gL [],fun _ _ => hq.1,(hS.below hq.2.below).sel [] rfl⟩
    ·intro o ho a w yg36 M Hb hv hO hS
     obtain rfl:=someE ho
     exact Stp.mono (o_evs [] (vI v33) none [] ((Hb).add (hO 0 _ rfl (by kernel_rfl))) rfl (by kernel_rfl) (fun q e => by cases e)) fun _ _ hq => ⟨gL [],fun _ _ => hq.1,(hS.below hq.2.below).sel [] rfl⟩
    ·intro o ho a w yg36 M Hb hv hO hS0
     obtain rfl:=someE ho
     have H : Fr 48 ((fS [40,39] [vI v33,.slice g32.a v31.length g32.c]) ++ [(7,[],.slice g32.a v31.length g32.c)]) _:=((Hb).add (hv 1 (by decide) (by decide) 39 rfl)).add (hv 2 (by decide) (by decide) 40 rfl)
     obtain ⟨X,hX⟩ : ∃ X,X = fpl [eO 22 (Ty.sl tyValue) v31 g32]:=⟨_,rfl⟩
     have hS : SH M X w [eO 22 (Ty.sl tyValue) v31 g32] w:=by rw [hX]; exact hS0
     have hd:=hS.hand [0] [] rfl rfl
     refine Stp.mono (o_subv (T:=(Ty.sl tyValue)) (E:=22) (g:=g32) (q:=v31) v33 (ln v31) (.some (vI v33)) .none H hd rfl rfl rfl rfl rfl rfl (.inr ⟨_,rfl⟩) (.inl ⟨rfl,rfl⟩) (by kernel_rfl) (by kernel_rfl) ho37) ?_
     rintro v w2 hq
     obtain ⟨rfl,hq⟩:=hq
     replace hS : SH M X w [eO 22 (Ty.sl tyValue) v31 g32] _:=hS.join [0] [] rfl rfl hq
     rw [hX] at hS
     exact ⟨gL [],fun _ _ => rfl,hS.sel [0] rfl⟩
    ·intro o ho a w yg36 M Hb hv hO hS
     obtain rfl:=someE ho
     exact Stp.mono (o_evs [] (.slice g32.a v31.length g32.c) none [] Hb rfl (by kernel_rfl) (fun q e => by cases e)) fun _ _ hq => ⟨gL [],fun _ _ => hq.1,(hS.below hq.2.below).sel [] rfl⟩
    ·intro o ho a w yg36 M Hb hv hO hS
     obtain rfl:=someE ho
     exact Stp.mono (o_evs [] (vI v33) none [] ((Hb).add (hO 0 _ rfl (by kernel_rfl))) rfl (by kernel_rfl) (fun q e => by cases e)) fun _ _ hq => ⟨gL [],fun _ _ => hq.1,(hS.below hq.2.below).sel [] rfl⟩
    ·intro o ho a w yg36 M Hb hv hO hS0
     obtain rfl:=someE ho
     have H : Fr 48 ((fS [43,42] [vI v33,.slice g32.a v31.length g32.c]) ++ [(7,[],.slice g32.a v31.length g32.c)]) _:=((Hb).add (hv 4 (by decide) (by decide) 42 rfl)).add (hv 5 (by decide) (by decide) 43 rfl)
     obtain ⟨X,hX⟩ : ∃ X,X = fpl [eO 22 (Ty.sl tyValue) v31 g32]:=⟨_,rfl⟩
     have hS : SH M X w [eO 22 (Ty.sl tyValue) v31 g32] w:=by rw [hX]; exact hS0
     have hd:=hS.hand [0] [] rfl rfl
     refine Stp.mono (o_subv (T:=(Ty.sl tyValue)) (E:=22) (g:=g32) (q:=v31) (0 : Int) v33 .none (.some (vI v33)) H hd rfl rfl rfl rfl rfl rfl (.inl ⟨rfl,rfl⟩) (.inr ⟨_,rfl⟩) (by kernel_rfl) (by kernel_rfl) ho38) ?_
     rintro v w2 hq
     obtain ⟨rfl,hq⟩:=hq
     replace hS : SH M X w [eO 22 (Ty.sl tyValue) v31 g32] _:=hS.join [0] [] rfl rfl hq
     rw [hX] at hS
     exact ⟨gL [],fun _ _ => rfl,hS.sel [0] rfl⟩
    ·intro o ho a w yg36 M Hb hv hO hS0
     obtain rfl:=someE ho
     have H : Fr 48 ((fS [44,41] [.slice (sva g32.a g32.c ((0 : Int)).toNat 1) ((v33).toNat - ((0 : Int)).toNat) (g32.c - ((0 : Int)).toNat),.slice (sva g32.a g32.c (v33).toNat 1) ((ln v31).toNat - (v33).toNat) (g32.c - (v33).toNat)]) ++ [(7,[],.slice g32.a v31.length g32.c)]) _:=((Hb).add (hv 3 (by decide) (by decide) 41 rfl)).add (hv 6 (by decide) (by decide) 44 rfl)
     obtain ⟨X,hX⟩ : ∃ X,X = fpl [eO 22 (Ty.sl tyValue) v31 g32]:=⟨_,rfl⟩
     have hS : SH M X w [eO 22 (Ty.sl tyValue) v31 g32] w:=by rw [hX]; exact hS0
     have hd:=hS.hand [0] [] rfl rfl
     refine Stp.mono (o_copy (T:=(Ty.sl tyValue)) (E:=22) (g:=g32) (gx:=(Gh.mk (if g32.c = ((0 : Int)).toNat then g32.a else g32.a.map (·.add (((0 : Int)).toNat * 1))) (g32.c - ((0 : Int)).toNat) (fun k => g32.s (((0 : Int)).toNat + k)))) (q:=v31) (xs:=(subl v31 (0 : Int) v33)) v33 H hd ((hd.osl 0 rfl).sub ho38) (ow_sub (hd.ow 0 rfl) ho38) rfl rfl rfl rfl rfl (subl_len _ ho38) (by kernel_rfl) (by kernel_rfl) rfl ⟨(ho37).1,Int.le_trans (ho37).2.1 (ho37).2.2⟩ rfl) ?_
     rintro v w2 hq
     obtain ⟨hv_,s39,hq⟩:=hq
     rw [← hx41] at hv_
     subst hv_
     rw [← hq40] at hq
     have hn : v31.length = q40.length:=by rw [hq40,cpl_len]
     clear hn
     replace hS : SH M X w [eO 22 (Ty.sl tyValue) q40 (Gh.mk g32.a g32.c s39)] _:=hS.join [0] [] rfl rfl hq
     rw [hX] at hS
     exact ⟨gL [Gh.mk none 0 s39],fun _ _ => rfl,hS.sel [0] rfl⟩
    ·intro o ho a w yg36 M Hb hv hO hS0
     obtain rfl:=someE ho
     have H : Fr 48 ((fS [45,38] [vI x41,vI v33]) ++ [(7,[],.slice g32.a v31.length g32.c)]) _:=((Hb).add (hv 0 (by decide) (by decide) 38 rfl)).add (hv 7 (by decide) (by decide) 45 rfl)
     have hn : v31.length = q40.length:=by rw [hq40,cpl_len]
     first | rw [hn] at H | skip
     clear hn
     obtain ⟨X,hX⟩ : ∃ X,X = fpl []:=⟨_,rfl⟩
     have hS : SH M X w [] w:=by rw [hX]; exact hS0
     refine Stp.mono (o_evs [] (vI (w64 (v33 + x41))) none [] H rfl (by kernel_rfl) (fun q e => by cases e)) ?_
     rintro v w2 ⟨rfl,hq⟩
     replace hS : SH M X w [] _:=hS.below hq.below
     rw [hX] at hS
     exact ⟨gL [],fun _ _ => rfl,hS.sel [] rfl⟩
    ·intro o ho a w yg36 M Hb hv hO hS0
     obtain rfl:=someE ho
     have H : Fr 48 ([(46,[],vI (w64 (v33 + x41)))] ++ [(7,[],.slice g32.a v31.length g32.c)]) _:=(Hb).add (hv 8 (by decide) (by decide) 46 rfl)
     have hn : v31.length = q40.length:=by rw [hq40,cpl_len]
     first | rw [hn] at H | skip
     clear hn
     obtain ⟨X,hX⟩ : ∃ X,X = fpl []:=⟨_,rfl⟩
     have hS : SH M X w [] w:=by rw [hX]; exact hS0
     refine Stp.mono (o_evs [] (vI (w64 (v33 + x41))) none [] H rfl (by kernel_rfl) (fun q e => by cases e)) ?_
     rintro v w2 ⟨rfl,hq⟩
     replace hS : SH M X w [] _:=hS.below hq.below
     rw [hX] at hS
     exact ⟨gL [],fun _ _ => rfl,hS.sel [] rfl⟩
   have H44 : Fr 48 (fS [8,7] [vI (w64 (v33 + x41)),.slice g32.a v31.length g32.c]) _:=(FrG.add (FrG.keep (ks:=[7]) H43 (by kernel_rfl)) (hv 9 8 rfl))
   replace hS : SH M X w [eO 22 (Ty.sl tyValue) q40 (Gh.mk g32.a g32.c (yg36 7 0).s)] _:=hS
   clear hv H43
   have hn : v31.length = q40.length:=by rw [hq40,cpl_len]
   first | rw [hn] at hS | skip
   first | rw [hn] at H44 | skip
   clear hn
   replace hS : SH M X w [eO 22 (Ty.sl tyValue) q40 (Gh.mk g32.a g32.c (yg36 7 0).s)] _:=hS
   generalize yg36 7 0 = g45 at H44 hS
   exact ⟨_,Nat.lt_succ_self _,q40,w64 (v33 + x41),(Gh.mk g32.a g32.c g45.s),hm,FrG.keep (ks:=[7,8]) H44 (by kernel_rfl),hS⟩
 ·rintro _ _ ⟨g48,H,hS⟩
  refine s_reg [] [4] [(4,[],.slice g48.a z30.length g48.c)] [] H (by kernel_rfl) trivial fun _ _ H50 hb => ?_
  replace hS:=hS.below hb
  apply w_ret
  obtain rfl:=someE hm
  exact retR1 H50 rfl rfl ⟨_,rfl,g48,rfl,(hS.sel [0] rfl)⟩
theorem slices_Repeat_api_Value_api_Value_ok {g_x_ : Gh} (m : Nat) (x_ : List (List TValue)) (count : Int) (r : List (List TValue)) (hm : slices_Repeat_api_Value_api_Value m x_ count = some r) (M : Av) (w : World) (hS : S0 M [eI (Ty.sl tyValue) x_ g_x_] w) : DoesX Tryz.prog 42 ⟨[vL g_x_ x_,vI count]⟩ w (fun v w' => ∃ (g901 : Gh),v = vL g901 r ∧ SH M (fpl [eI (Ty.sl tyValue) x_ g_x_]) w [eO 22 (Ty.sl tyValue) r g901] w'):=⟨Tryz.call42 _,slices_Repeat_api_Value_api_Value_w M m   x_ count r hm w hS⟩

theorem short_sides_w {g_l_ : Gh} (M : Av) (m : Nat) (l_ : List TValue) (r : List (List TValue)) (hm : short_sides m l_ = some r) (w : World) (hS : S0 M [eI tyValue l_ g_l_] w) : Calls Tryz.prog 61 ⟨[vL g_l_ l_]⟩ w (fun e w' => ∃ v,e = .returned v ∧ ∃ (g901 : Gh),v = vL g901 r ∧ SH M (fpl [eI tyValue l_ g_l_]) w [eO 22 (Ty.sl tyValue) r g901] w'):=by
 rw [short_sides] at hm
 have hS0 : SH M (fpl [eI tyValue l_ g_l_]) w [eI tyValue l_ g_l_] w:=hS
 generalize hX : fpl [eI tyValue l_ g_l_] = X at hS0 ⊢
 clear hS hX
 have hS:=hS0
 clear hS0
 refine calls_entryP Tryz.func61 rfl Tryz.ntmps61 rfl fun _ H => ?_
 refine s_reg [] [0] [(0,[],vL g_l_ l_)] [] H (by kernel_rfl) trivial fun _ _ H2 hb => ?_
 replace hS:=hS.below hb
 apply w_seq
 obtain ⟨ho3,hm⟩:=chkE hm
 obtain ⟨x4,hx4,hm⟩:=letE hm
 obtain ⟨ho5,hm⟩:=chkE hm
 obtain ⟨x6,hx6,hm⟩:=letE hm
 refine s_reg [(vU ((gi l_ (0 : Int)).Token.Kind)),(vU ((gi l_ (w64 ((ln l_) - 1))).Token.Kind))] [0,29] (fS [0,29] [vL g_l_ l_,vB x6]) [fun _ => (((ln l_) == 0) = false ∧ True → oka g_l_.a ∧ 0 ≤ (0 : Int) ∧ (0 : Int) < ln l_),fun wz => (((ln l_) == 0) = false ∧ True → V.at1 ⟨ab g_l_.a,ao g_l_.a + ((0 : Int)).toNat * 6,none⟩ (vU ((gi l_ (0 : Int)).Token.Kind)) wz),fun _ => (x4 = false ∧ True → oka g_l_.a ∧ 0 ≤ (w64 ((ln l_) - 1)) ∧ (w64 ((ln l_) - 1)) < ln l_),fun wz => (x4 = false ∧ True → V.at1 ⟨ab g_l_.a,ao g_l_.a + ((w64 ((ln l_) - 1))).toNat * 6,none⟩ (vU ((gi l_ (w64 ((ln l_) - 1))).Token.Kind)) wz)] H2 (by subst hx4 hx6; kernel_rfl) ⟨fun hg => (hS.im 0 rfl).oki (ho3 hg.1),fun hg => (hS.im 0 rfl).at1 (ho3 hg.1) 0 rfl,fun hg => (hS.im 0 rfl).oki (ho5 hg.1),fun hg => (hS.im 0 rfl).at1 (ho5 hg.1) 0 rfl,trivial⟩ fun _ _ H8 hb => ?_
 replace hS:=hS.below hb
 refine w_if H8 rfl (fun hc => ?c125) (fun hc => ?_)
 case c125 =>
  replace hm:=bT hc hm
  refine s_reg [] [2] [(2,[],vO)] [] H8 (by kernel_rfl) trivial fun _ _ H10 hb => ?_
  replace hS:=hS.below hb
  replace hS : SH M X w [] _:=hS.sel [] rfl
  apply w_ret
  obtain rfl:=someE hm
  replace hS : SH M X w [eO 22 (Ty.sl tyValue) ([] : List (List TValue)) (.nil)] _:=hS.addNil 22 (Ty.sl tyValue)
  exact retR1 H10 rfl rfl ⟨_,rfl,Gh.nil,rfl,(hS.sel [0] rfl)⟩
 replace hm:=bF hc hm
 apply w_skip
 refine s_reg [] [0,3] (fS [0,3] [vL g_l_ l_,vO]) [] H8 (by kernel_rfl) trivial fun _ _ H13 hb => ?_
 replace hS:=hS.below hb
 obtain ⟨z14,hz,hm_z14⟩:=bindE hm
 refine w_cut (fun a' w' => ∃ s_z14 : List (List TValue),z14 = Sum.inr s_z14 ∧ ∃ (g70 : Gh),Fr 84 [(3,[],vL g70 s_z14)] a' ∧ SH M X w [eO 22 (Ty.sl tyValue) s_z14 g70,eI tyValue l_ g_l_] w') ?_ ?_
 ·replace hm:=hz
  refine s_reg [] [0,3,30,31,32] (fS [0,3,30,31,32] [vL g_l_ l_,vO,vL g_l_ l_,vI (ln l_),vI 0]) [] H13 (by kernel_rfl) trivial fun _ _ H16 hb => ?_
  replace hS:=hS.below hb
  apply w_block
  replace hS : SH M X w [eO 22 (Ty.sl tyValue) ([] : List (List TValue)) (.nil),eI tyValue l_ g_l_] _:=hS.addNil 22 (Ty.sl tyValue)
  refine w_loop (fun kk a' w' => ∃ (v18 : List (List TValue)) (v20 : Int) (g19 : Gh),short_sides_L1 m l_ kk v18 v20 = some _ ∧ Fr 84 (fS [0,30,31,3,32] [vL g_l_ l_,vL g_l_ l_,vI (ln l_),vL g19 v18,vI v20]) a' ∧ SH M X w [eO 22 (Ty.sl tyValue) v18 g19,eI tyValue l_ g_l_] w') ⟨_,([] : List (List TValue)),0,Gh.nil,hm,FrG.keep (ks:=[0,30,31,3,32]) H16 (by kernel_rfl),hS⟩ ?_
  clear hm H16 hS
  rintro kk _ _ ⟨v18,v20,g19,hm,H,hS⟩
  cases kk with
  | zero => exact noneE hm
  | succ kk =>
   rw [short_sides_L1] at hm
   refine s_reg [] [0,3,30,31,32,33] (fS [0,3,30,31,32,33] [vL g_l_ l_,vL g19 v18,vL g_l_ l_,vI (ln l_),vI v20,vB (decide (v20 < (ln l_)))]) [] H (by kernel_rfl) trivial fun _ _ H22 hb => ?_
   replace hS:=hS.below hb
   apply w_seq
   refine w_if H22 rfl (fun hc => ?_) (fun hc => ?c68)
   case c68 =>
    replace hm:=bF hc hm
    apply w_exit rfl
    obtain rfl:=someE hm
    exact ⟨_,rfl,g19,FrG.keep (ks:=[3]) H22 (by kernel_rfl),hS⟩
   replace hm:=bT hc hm
   apply w_skip
   obtain ⟨z23,hz,hm_z23⟩:=bindE hm
   refine w_cut (fun a' w' => ∃ s_z23 : List (List TValue),z23 = Sum.inr s_z23 ∧ ∃ (g64 : Gh),Fr 84 (fS [0,30,31,32,3] [vL g_l_ l_,vL g_l_ l_,vI (ln l_),vI v20,vL g64 s_z23]) a' ∧ SH M X w [eO 22 (Ty.sl tyValue) s_z23 g64,eI tyValue l_ g_l_] w') ?_ ?_
   ·replace hm:=hz
    apply w_block
    apply w_seq
    apply wl_start
    obtain ⟨ho24,hm⟩:=chkE hm
    refine wl_batch 0 3 [(vG [vU ((gi l_ v20).Token.Kind),vS (gi l_ v20).Token.Text,vI ((gi l_ v20).Token.Num),vS (gi l_ v20).Token.Unit,vB ((gi l_ v20).Token.Flag),.slice (g_l_.s (v20).toNat 0).a (((gi l_ v20).List_).length) (g_l_.s (v20).toNat 0).c])] [0,3,30,31,32,34,36] (fS [0,3,30,31,32,34,36] [vL g_l_ l_,vL g19 v18,vL g_l_ l_,vI (ln l_),vI v20,vI v20,vG [vU ((gi l_ v20).Token.Kind),vS (gi l_ v20).Token.Text,vI ((gi l_ v20).Token.Num),vS (gi l_ v20).Token.Unit,vB ((gi l_ v20).Token.Flag),.slice (g_l_.s (v20).toNat 0).a (((gi l_ v20).List_).length) (g_l_.s (v20).toNat 0).c]]) [fun _ => oka g_l_.a ∧ 0 ≤ v20 ∧ v20 < ln l_,fun wz => V.atN (ab g_l_.a) (ao g_l_.a + (v20).toNat * 6) [vU ((gi l_ v20).Token.Kind),vS (gi l_ v20).Token.Text,vI ((gi l_ v20).Token.Num),vS (gi l_ v20).Token.Unit,vB ((gi l_ v20).Token.Flag),.slice (g_l_.s (v20).toNat 0).a (((gi l_ v20).List_).length) (g_l_.s (v20).toNat 0).c] 0 wz] H22 (by decide) (by kernel_rfl) ⟨((hS.im 1 rfl).oki ho24),((hS.im 1 rfl).atA ho24 0 rfl),trivial⟩ fun _ _ H26 hb => ?_
    replace hS:=hS.below hb
    have hd:=hS.hand [] [0,1] rfl rfl
    refine m_stp [5,0,3,30,31,32,34,36] (fS [0,3,30,31,32,34,36] [vL g_l_ l_,vL g19 v18,vL g_l_ l_,vI (ln l_),vI v20,vI v20,vG [vU ((gi l_ v20).Token.Kind),vS (gi l_ v20).Token.Text,vI ((gi l_ v20).Token.Num),vS (gi l_ v20).Token.Unit,vB ((gi l_ v20).Token.Flag),.slice (g_l_.s (v20).toNat 0).a (((gi l_ v20).List_).length) (g_l_.s (v20).toNat 0).c]]) H26 rfl rfl rfl rfl (o_alloc [vU 0,vN,vI 0,vN,vF,vO] (z:=vG [vU 0,vN,vI 0,vN,vF,vO]) hd (by kernel_rfl) rfl) (fun _ => rfl) fun _ _ v H29 hq => ?_
    obtain ⟨b27,rfl,hq⟩:=hq
    replace hS : SH M X w [eB b27 [vU 0,vN,vI 0,vN,vF,vO],eO 22 (Ty.sl tyValue) v18 g19,eI tyValue l_ g_l_] _:=hS.join [] [0,1] rfl rfl hq
    refine wl_batch 4 5 [] [0,3,4,5,30,31,32,36] (fS [0,3,4,5,30,31,32,36] [vL g_l_ l_,vL g19 v18,vI v20,vP b27,vL g_l_ l_,vI (ln l_),vI v20,vG [vU ((gi l_ v20).Token.Kind),vS (gi l_ v20).Token.Text,vI ((gi l_ v20).Token.Num),vS (gi l_ v20).Token.Unit,vB ((gi l_ v20).Token.Flag),.slice (g_l_.s (v20).toNat 0).a (((gi l_ v20).List_).length) (g_l_.s (v20).toNat 0).c]]) [] H29 (by decide) (by kernel_rfl) trivial fun _ _ H31 hb => ?_
    replace hS:=hS.below hb
    have hd:=hS.hand [0] [1,2] rfl rfl
    refine m_stp0 [0,3,4,5,30,31,32] (fS [0,3,4,5,30,31,32] [vL g_l_ l_,vL g19 v18,vI v20,vP b27,vL g_l_ l_,vI (ln l_),vI v20]) H31 rfl rfl rfl (o_store [vU ((gi l_ v20).Token.Kind),vS (gi l_ v20).Token.Text,vI ((gi l_ v20).Token.Num),vS (gi l_ v20).Token.Unit,vB ((gi l_ v20).Token.Flag),.slice (g_l_.s (v20).toNat 0).a (((gi l_ v20).List_).length) (g_l_.s (v20).toNat 0).c] H31 hd rfl rfl (by kernel_rfl) rfl rfl rfl) rfl fun _ _ H33 hq => ?_
    obtain ⟨_,hq⟩:=hq
    replace hS : SH M X w [eB b27 [vU ((gi l_ v20).Token.Kind),vS (gi l_ v20).Token.Text,vI ((gi l_ v20).Token.Num),vS (gi l_ v20).Token.Unit,vB ((gi l_ v20).Token.Flag),.slice (g_l_.s (v20).toNat 0).a (((gi l_ v20).List_).length) (g_l_.s (v20).toNat 0).c],eO 22 (Ty.sl tyValue) v18 g19,eI tyValue l_ g_l_] _:=hS.join [0] [1,2] rfl rfl hq
    apply wl_end rfl
    apply w_seq
    refine s_reg [(vU ((gi l_ v20).Token.Kind))] [0,3,4,30,31,32,40] (fS [0,3,4,30,31,32,40] [vL g_l_ l_,vL g19 v18,vI v20,vL g_l_ l_,vI (ln l_),vI v20,vB (((gi l_ v20).Token.Kind) == 13)]) [rA b27 0 (vU ((gi l_ v20).Token.Kind))] H33 (by kernel_rfl) ⟨((hS.bk 0 rfl).at1 rfl),trivial⟩ fun _ _ H35 hb => ?_
    replace hS:=hS.below hb
    replace hS : SH M X w [eO 22 (Ty.sl tyValue) v18 g19,eI tyValue l_ g_l_] _:=hS.sel [1,2] rfl
    refine w_if H35 rfl (fun hc => ?c63) (fun hc => ?_)
    case c63 =>
     replace hm:=bT hc hm
     apply w_exit rfl
     obtain rfl:=someE hm
     exact ⟨_,rfl,g19,FrG.keep (ks:=[0,30,31,32,3]) H35 (by kernel_rfl),hS⟩
    replace hm:=bF hc hm
    apply w_skip
    apply w_seq
    obtain ⟨ho36,hm⟩:=chkE hm
    obtain ⟨x37,hx37,hm⟩:=letE hm
    refine s_reg [(vU ((gi l_ (w64 (v20 - 1))).Token.Kind))] [0,3,4,30,31,32,52] (fS [0,3,4,30,31,32,52] [vL g_l_ l_,vL g19 v18,vI v20,vL g_l_ l_,vI (ln l_),vI v20,vB x37]) [fun _ => ((decide (0 < v20)) = true ∧ True → oka g_l_.a ∧ 0 ≤ (w64 (v20 - 1)) ∧ (w64 (v20 - 1)) < ln l_),fun wz => ((decide (0 < v20)) = true ∧ True → V.at1 ⟨ab g_l_.a,ao g_l_.a + ((w64 (v20 - 1))).toNat * 6,none⟩ (vU ((gi l_ (w64 (v20 - 1))).Token.Kind)) wz)] H35 (by subst hx37; kernel_rfl) ⟨fun hg => (hS.im 1 rfl).oki (ho36 hg.1),fun hg => (hS.im 1 rfl).at1 (ho36 hg.1) 0 rfl,trivial⟩ fun _ _ H39 hb => ?_
    replace hS:=hS.below hb
    refine w_if H39 rfl (fun hc => ?c62) (fun hc => ?_)
    case c62 =>
     replace hm:=bT hc hm
     refine s_reg [] [2] [(2,[],vO)] [] H39 (by kernel_rfl) trivial fun _ _ H41 hb => ?_
     replace hS:=hS.below hb
     apply w_ret
     obtain rfl:=someE hm
     have hm:=hm_z23
     obtain rfl:=someE hm
     have hm:=hm_z14
     obtain rfl:=someE hm
     replace hS : SH M X w [eO 22 (Ty.sl tyValue) ([] : List (List TValue)) (.nil),eO 22 (Ty.sl tyValue) v18 g19,eI tyValue l_ g_l_] _:=hS.addNil 22 (Ty.sl tyValue)
     exact retR1 H41 rfl rfl ⟨_,rfl,Gh.nil,rfl,(hS.sel [0] rfl)⟩
    replace hm:=bF hc hm
    apply w_skip
    apply wl_start
    refine wl_batch 0 5 [] [0,30,31,32,53,54,55,57] (fS [0,30,31,32,53,54,55,57] [vL g_l_ l_,vL g_l_ l_,vI (ln l_),vI v20,vL g19 v18,vL g_l_ l_,vI v20,vI (w64 (v20 + 1))]) [] H39 (by decide) (by kernel_rfl) trivial fun _ _ H44 hb => ?_
    replace hS:=hS.below hb
    obtain ⟨ho45,hm⟩:=chkE hm
    obtain ⟨q46,hq46,hm⟩:=letE hm
    have hd:=hS.hand [1] [0,1] rfl rfl
    refine m_stp [58,0,30,31,32,53] (fS [0,30,31,32,53] [vL g_l_ l_,vL g_l_ l_,vI (ln l_),vI v20,vL g19 v18]) H44 rfl rfl rfl rfl (o_sub (T:=tyValue) (E:=51) (g:=g_l_) (q:=l_) v20 (w64 (v20 + 1)) (.some (vI v20)) (.some (vI (w64 (v20 + 1)))) H44 hd (hd.im 0 rfl) rfl rfl rfl rfl rfl rfl (.inr ⟨_,rfl⟩) (.inr ⟨_,rfl⟩) (by kernel_rfl) (by kernel_rfl) ho45) (fun _ => rfl) fun _ _ v H48 hq => ?_
    obtain ⟨g49,rfl,hq⟩:=hq
    rw [← hq46] at hq
    rw [← hq46] at H48
    replace hS : SH M X w [eI tyValue q46 g49,eI tyValue l_ g_l_,eO 22 (Ty.sl tyValue) v18 g19,eI tyValue l_ g_l_] _:=hS.join [1] [0,1] rfl rfl hq
    have hd:=hS.hand [0] [0,1,2,3] rfl rfl
    refine m_stp [59,0,30,31,32,53] (fS [0,30,31,32,53] [vL g_l_ l_,vL g_l_ l_,vI (ln l_),vI v20,vL g19 v18]) H48 rfl rfl rfl rfl (o_lit (T:=(Ty.sl tyValue)) (E:=22) (zv:=vO) [vL g49 q46] ([q46] : List (List TValue)) [gL [g49]] _ H48 hd rfl (by kernel_rfl) (by kernel_rfl) (by kernel_rfl) (by kernel_rfl) (by kernel_rfl) (by kernel_rfl) (by kernel_rfl) rfl (InnL.cons (hd.im 0 rfl) InnL.nil)) (fun _ => rfl) fun _ _ v H54 hq => ?_
    obtain ⟨g51,rfl,hq⟩:=hq
    replace hS : SH M X w [eO 22 (Ty.sl tyValue) ([q46] : List (List TValue)) g51,eI tyValue q46 g49,eI tyValue l_ g_l_,eO 22 (Ty.sl tyValue) v18 g19,eI tyValue l_ g_l_] _:=hS.join [0] [0,1,2,3] rfl rfl hq
    obtain ⟨ho55,hm⟩:=chkE hm
    obtain ⟨q56,hq56,hm⟩:=letE hm
    have hd:=hS.hand [3,0] [1,2,4] rfl rfl
    refine m_stp [60,0,30,31,32] (fS [0,30,31,32] [vL g_l_ l_,vL g_l_ l_,vI (ln l_),vI v20]) H54 rfl rfl rfl rfl (o_app2 (T:=(Ty.sl tyValue)) (zv:=vO) (g1:=g19) (g2:=g51) (l1:=v18) (l2:=([q46] : List (List TValue))) q56 hq56.symm H54 hd rfl rfl rfl rfl rfl rfl rfl (by kernel_rfl) (by kernel_rfl) rfl rfl ho55) (fun _ => rfl) fun _ _ v H58 hq => ?_
    obtain ⟨g59,rfl,hq⟩:=hq
    replace hS : SH M X w [eO 22 (Ty.sl tyValue) q56 g59,eO 22 (Ty.sl tyValue) ([q46] : List (List TValue)) g51,eI tyValue q46 g49,eI tyValue l_ g_l_,eI tyValue l_ g_l_] _:=hS.join [3,0] [1,2,4] rfl rfl hq
    refine wl_batch 8 9 [] [0,3,30,31,32] (fS [0,3,30,31,32] [vL g_l_ l_,vL g59 q56,vL g_l_ l_,vI (ln l_),vI v20]) [] H58 (by decide) (by kernel_rfl) trivial fun _ _ H61 hb => ?_
    replace hS:=hS.below hb
    apply wl_end rfl
    replace hS : SH M X w [eO 22 (Ty.sl tyValue) q56 g59,eI tyValue l_ g_l_] _:=hS.sel [0,3] rfl
    obtain rfl:=someE hm
    exact ⟨_,rfl,g59,FrG.keep (ks:=[0,30,31,32,3]) H61 (by kernel_rfl),hS⟩
   ·rintro _ _ ⟨s_z23,hz,g64,H,hS⟩
    subst hz
    replace hm:=sumR hm_z23
    refine w_reg [] [0,3,30,31,32] (fS [0,3,30,31,32] [vL g_l_ l_,vL g64 s_z23,vL g_l_ l_,vI (ln l_),vI (w64 (v20 + 1))]) [] H (by kernel_rfl) trivial fun _ _ H66 hb => ?_
    replace hS:=hS.below hb
    exact ⟨_,Nat.lt_succ_self _,s_z23,w64 (v20 + 1),g64,hm,FrG.keep (ks:=[0,30,31,3,32]) H66 (by kernel_rfl),hS⟩
 ·rintro _ _ ⟨s_z14,hz,g70,H,hS⟩
  subst hz
  replace hm:=sumR hm_z14
  replace hS : SH M X w [eO 22 (Ty.sl tyValue) s_z14 g70] _:=hS.sel [0] rfl
  apply w_seq
  refine s_reg [] [3,64] (fS [3,64] [vL g70 s_z14,vB (decide (4 < (ln s_z14)))]) [] H (by kernel_rfl) trivial fun _ _ H73 hb => ?_
  replace hS:=hS.below hb
  refine w_if H73 rfl (fun hc => ?c123) (fun hc => ?_)
  case c123 =>
   replace hm:=bT hc hm
   refine s_reg [] [2] [(2,[],vO)] [] H73 (by kernel_rfl) trivial fun _ _ H75 hb => ?_
   replace hS:=hS.below hb
   replace hS : SH M X w [] _:=hS.sel [] rfl
   apply w_ret
   obtain rfl:=someE hm
   replace hS : SH M X w [eO 22 (Ty.sl tyValue) ([] : List (List TValue)) (.nil)] _:=hS.addNil 22 (Ty.sl tyValue)
   exact retR1 H75 rfl rfl ⟨_,rfl,Gh.nil,rfl,(hS.sel [0] rfl)⟩
  replace hm:=bF hc hm
  apply w_skip
  obtain ⟨z77,hz,hm⟩:=bindE hm
  refine w_cut (fun a' w' => ∃ (g119 : Gh),Fr 84 [(3,[],vL g119 z77)] a' ∧ SH M X w [eO 22 (Ty.sl tyValue) z77 g119] w') ?_ ?_
  ·replace hm:=hz
   apply w_seq
   apply wl_start
   have hd:=hS.hand [] [0] rfl rfl
   refine m_stp [65,3] [(3,[],vL g70 s_z14)] H73 rfl rfl rfl rfl (o_lit (T:=(tI .i64)) (E:=3) (zv:=vI 0) [vI 0,vI 0,vI 1] kL11 [gL [],gL [],gL []] _ H73 hd rfl (by kernel_rfl) (by kernel_rfl) (by kernel_rfl) (by kernel_rfl) (by kernel_rfl) (by kernel_rfl) (by kernel_rfl) rfl (InnL.cons trivial (InnL.cons trivial (InnL.cons trivial InnL.nil)))) (fun _ => rfl) fun _ _ v H81 hq => ?_
   obtain ⟨g78,rfl,hq⟩:=hq
   replace hS : SH M X w [eO 3 (tI .i64) kL11 g78,eO 22 (Ty.sl tyValue) s_z14 g70] _:=hS.join [] [0] rfl rfl hq
   refine wl_batch 1 4 [] [3,65,68] (fS [3,65,68] [vL g70 s_z14,vK g78 3,vI (w64 ((ln s_z14) - 1))]) [] H81 (by decide) (by kernel_rfl) trivial fun _ _ H83 hb => ?_
   replace hS:=hS.below hb
   replace hS : SH M X w [eI (tI .i64) kL11 g78,eO 22 (Ty.sl tyValue) s_z14 g70] _:=SH.frz1 (hS.sel [0,1] rfl)
   obtain ⟨ho84,hm⟩:=chkE hm
   obtain ⟨q85,hq85,hm⟩:=letE hm
   have hd:=hS.hand [0] [0,1] rfl rfl
   refine m_stp [69,3] [(3,[],vL g70 s_z14)] H83 rfl rfl rfl rfl (o_sub (T:=(tI .i64)) (E:=3) (g:=g78) (q:=kL11) (w64 ((ln s_z14) - 1)) (ln kL11) (.some (vI (w64 ((ln s_z14) - 1)))) .none H83 hd (hd.im 0 rfl) rfl rfl rfl rfl rfl rfl (.inr ⟨_,rfl⟩) (.inl ⟨rfl,rfl⟩) (by kernel_rfl) (by kernel_rfl) ho84) (fun _ => rfl) fun _ _ v H87 hq => ?_
   obtain ⟨g88,rfl,hq⟩:=hq
   rw [← hq85] at hq
   rw [← hq85] at H87
   replace hS : SH M X w [eI (tI .i64) q85 g88,eI (tI .i64) kL11 g78,eI (tI .i64) kL11 g78,eO 22 (Ty.sl tyValue) s_z14 g70] _:=hS.join [0] [0,1] rfl rfl hq
   refine wl_batch 5 7 [] [3,69,70,71] (fS [3,69,70,71] [vL g70 s_z14,vL g88 q85,vI (ln q85),vI 0]) [] H87 (by decide) (by kernel_rfl) trivial fun _ _ H91 hb => ?_
   replace hS:=hS.below hb
   apply wl_end rfl
   replace hS : SH M X w [eI (tI .i64) q85 g88,eO 22 (Ty.sl tyValue) s_z14 g70] _:=hS.sel [0,3] rfl
   apply w_block
   refine w_loop (fun kk a' w' => ∃ (v92 : List (List TValue)) (v94 : Int) (g93 : Gh),short_sides_L2 m q85 kk v92 v94 = some _ ∧ Fr 84 (fS [69,70,3,71] [vL g88 q85,vI (ln q85),vL g93 v92,vI v94]) a' ∧ SH M X w [eI (tI .i64) q85 g88,eO 22 (Ty.sl tyValue) v92 g93] w') ⟨_,s_z14,0,g70,hm,FrG.keep (ks:=[69,70,3,71]) H91 (by kernel_rfl),hS⟩ ?_
   clear hm H91 hS
   rintro kk _ _ ⟨v92,v94,g93,hm,H,hS⟩
   cases kk with
   | zero => exact noneE hm
   | succ kk =>
    rw [short_sides_L2] at hm
    refine s_reg [] [3,69,70,71,72] (fS [3,69,70,71,72] [vL g93 v92,vL g88 q85,vI (ln q85),vI v94,vB (decide (v94 < (ln q85)))]) [] H (by kernel_rfl) trivial fun _ _ H96 hb => ?_
    replace hS:=hS.below hb
    apply w_seq
    refine w_if H96 rfl (fun hc => ?_) (fun hc => ?c117)
    case c117 =>
     replace hm:=bF hc hm
     apply w_exit rfl
     obtain rfl:=someE hm
     replace hS : SH M X w [eO 22 (Ty.sl tyValue) v92 g93] _:=hS.sel [1] rfl
     exact ⟨g93,FrG.keep (ks:=[3]) H96 (by kernel_rfl),hS⟩
    replace hm:=bT hc hm
    apply w_skip
    apply w_seq
    apply w_block
    obtain ⟨ho97,hm⟩:=chkE hm
    refine s_reg [(vI (gi q85 v94))] [3,7,69,70,71] (fS [3,7,69,70,71] [vL g93 v92,vI (gi q85 v94),vL g88 q85,vI (ln q85),vI v94]) [fun _ => oka g88.a ∧ 0 ≤ v94 ∧ v94 < ln q85,fun wz => V.at1 ⟨ab g88.a,ao g88.a + (v94).toNat * 1,none⟩ (vI (gi q85 v94)) wz] H96 (by kernel_rfl) ⟨((hS.im 0 rfl).oki ho97),((hS.im 0 rfl).at1 ho97 0 rfl),trivial⟩ fun _ _ H99 hb => ?_
    replace hS:=hS.below hb
    apply wl_start
    obtain ⟨ho100,hm⟩:=chkE hm
    refine wl_batch 0 5 [(.slice (g93.s ((gi q85 v94)).toNat 0).a ((gi v92 (gi q85 v94)).length) (g93.s ((gi q85 v94)).toNat 0).c)] [69,70,71,75,79] (fS [69,70,71,75,79] [vL g88 q85,vI (ln q85),vI v94,vL g93 v92,.slice (g93.s ((gi q85 v94)).toNat 0).a ((gi v92 (gi q85 v94)).length) (g93.s ((gi q85 v94)).toNat 0).c]) [fun _ => oka g93.a ∧ 0 ≤ (gi q85 v94) ∧ (gi q85 v94) < ln v92,fun wz => V.at1 ⟨ab g93.a,ao g93.a + ((gi q85 v94)).toNat * 1,none⟩ (.slice (g93.s ((gi q85 v94)).toNat 0).a ((gi v92 (gi q85 v94)).length) (g93.s ((gi q85 v94)).toNat 0).c) wz] H99 (by decide) (by kernel_rfl) ⟨((hS.osl 1 rfl).oki ho100),((hS.osl 1 rfl).at1 ho100 0 rfl),trivial⟩ fun _ _ H102 hb => ?_
    replace hS:=hS.below hb
    replace hS : SH M X w [eI tyValue (gi v92 (gi q85 v94)) (g93.s ((gi q85 v94)).toNat 0),eI (tI .i64) q85 g88,eO 22 (Ty.sl tyValue) v92 g93] _:=hS.addIm (sl_inn ((hS.ow 1 rfl).el ho100))
    have hd:=hS.hand [0] [0,1,2] rfl rfl
    refine m_stp [80,69,70,71,75] (fS [69,70,71,75] [vL g88 q85,vI (ln q85),vI v94,vL g93 v92]) H102 rfl rfl rfl rfl (o_lit (T:=(Ty.sl tyValue)) (E:=22) (zv:=vO) [.slice (g93.s ((gi q85 v94)).toNat 0).a ((gi v92 (gi q85 v94)).length) (g93.s ((gi q85 v94)).toNat 0).c] ([(gi v92 (gi q85 v94))] : List (List TValue)) [gL [(g93.s ((gi q85 v94)).toNat 0)]] _ H102 hd rfl (by kernel_rfl) (by kernel_rfl) (by kernel_rfl) (by kernel_rfl) (by kernel_rfl) (by kernel_rfl) (by kernel_rfl) rfl (InnL.cons (hd.im 0 rfl) InnL.nil)) (fun _ => rfl) fun _ _ v H107 hq => ?_
    obtain ⟨g103,rfl,hq⟩:=hq
    replace hS : SH M X w [eO 22 (Ty.sl tyValue) ([(gi v92 (gi q85 v94))] : List (List TValue)) g103,eI tyValue (gi v92 (gi q85 v94)) (g93.s ((gi q85 v94)).toNat 0),eI (tI .i64) q85 g88,eO 22 (Ty.sl tyValue) v92 g93] _:=hS.join [0] [0,1,2] rfl rfl hq
    obtain ⟨ho108,hm⟩:=chkE hm
    obtain ⟨q109,hq109,hm⟩:=letE hm
    have hd:=hS.hand [3,0] [1,2] rfl rfl
    refine m_stp [81,69,70,71] (fS [69,70,71] [vL g88 q85,vI (ln q85),vI v94]) H107 rfl rfl rfl rfl (o_app2 (T:=(Ty.sl tyValue)) (zv:=vO) (g1:=g93) (g2:=g103) (l1:=v92) (l2:=([(gi v92 (gi q85 v94))] : List (List TValue))) q109 hq109.symm H107 hd rfl rfl rfl rfl rfl rfl rfl (by kernel_rfl) (by kernel_rfl) rfl rfl ho108) (fun _ => rfl) fun _ _ v H111 hq => ?_
    obtain ⟨g112,rfl,hq⟩:=hq
    replace hS : SH M X w [eO 22 (Ty.sl tyValue) q109 g112,eO 22 (Ty.sl tyValue) ([(gi v92 (gi q85 v94))] : List (List TValue)) g103,eI tyValue (gi v92 (gi q85 v94)) (g93.s ((gi q85 v94)).toNat 0),eI (tI .i64) q85 g88] _:=hS.join [3,0] [1,2] rfl rfl hq
    refine wl_batch 7 8 [] [3,69,70,71] (fS [3,69,70,71] [vL g112 q109,vL g88 q85,vI (ln q85),vI v94]) [] H111 (by decide) (by kernel_rfl) trivial fun _ _ H114 hb => ?_
    replace hS:=hS.below hb
    apply wl_end rfl
    replace hS : SH M X w [eO 22 (Ty.sl tyValue) q109 g112,eI (tI .i64) q85 g88] _:=hS.sel [0,3] rfl
    refine w_reg [] [3,69,70,71] (fS [3,69,70,71] [vL g112 q109,vL g88 q85,vI (ln q85),vI (w64 (v94 + 1))]) [] H114 (by kernel_rfl) trivial fun _ _ H116 hb => ?_
    replace hS:=hS.below hb
    replace hS : SH M X w [eI (tI .i64) q85 g88,eO 22 (Ty.sl tyValue) q109 g112] _:=hS.sel [1,0] rfl
    exact ⟨_,Nat.lt_succ_self _,q109,w64 (v94 + 1),g112,hm,FrG.keep (ks:=[69,70,3,71]) H116 (by kernel_rfl),hS⟩
  ·rintro _ _ ⟨g119,H,hS⟩
   refine s_reg [] [2] [(2,[],vL g119 z77)] [] H (by kernel_rfl) trivial fun _ _ H121 hb => ?_
   replace hS:=hS.below hb
   apply w_ret
   obtain rfl:=someE hm
   exact retR1 H121 rfl rfl ⟨_,rfl,g119,rfl,(hS.sel [0] rfl)⟩
theorem short_sides_ok {g_l_ : Gh} (m : Nat) (l_ : List TValue) (r : List (List TValue)) (hm : short_sides m l_ = some r) (M : Av) (w : World) (hS : S0 M [eI tyValue l_ g_l_] w) : DoesX Tryz.prog 61 ⟨[vL g_l_ l_]⟩ w (fun v w' => ∃ (g901 : Gh),v = vL g901 r ∧ SH M (fpl [eI tyValue l_ g_l_]) w [eO 22 (Ty.sl tyValue) r g901] w'):=⟨Tryz.call61 _,short_sides_w M m   l_ r hm w hS⟩

theorem short_parts_w {g_l_ : Gh} (M : Av) (m : Nat) (whole : Str) (l_ : List TValue) (r : List (List TValue)) (hm : short_parts m whole l_ = some r) (w : World) (hS : S0 M [eI tyValue l_ g_l_,gE0] w) : Calls Tryz.prog 36 ⟨[vS whole,vL g_l_ l_]⟩ w (fun e w' => ∃ v,e = .returned v ∧ ∃ (g901 : Gh),v = vL g901 r ∧ SH M (fpl [eI tyValue l_ g_l_,gE0]) w [eO 22 (Ty.sl tyValue) r g901] w'):=by
 rw [short_parts] at hm
 have hS0 : SH M (fpl [eI tyValue l_ g_l_,gE0]) w [eI tyValue l_ g_l_,gE0] w:=hS
 generalize hX : fpl [eI tyValue l_ g_l_,gE0] = X at hS0 ⊢
 clear hS hX
 have hS:=hS0
 clear hS0
 refine calls_entryP Tryz.func36 rfl Tryz.ntmps36 rfl fun _ H => ?_
 refine s_reg [] [0,1] (fS [0,1] [vS whole,vL g_l_ l_]) [] H (by kernel_rfl) trivial fun _ _ H2 hb => ?_
 replace hS:=hS.below hb
 apply w_seq
 apply wl_start
 refine wl_batch 0 1 [] [0,1,9] (fS [0,1,9] [vS whole,vL g_l_ l_,vL g_l_ l_]) [] H2 (by decide) (by kernel_rfl) trivial fun _ _ H4 hb => ?_
 replace hS:=hS.below hb
 have hd:=hS.hand [0] [0,1] rfl rfl
 refine m_stp [10,0,1] (fS [0,1] [vS whole,vL g_l_ l_]) H4 rfl rfl rfl rfl (o_lit (T:=(Ty.sl tyValue)) (E:=22) (zv:=vO) [vL g_l_ l_] ([l_] : List (List TValue)) [gL [g_l_]] _ H4 hd rfl (by kernel_rfl) (by kernel_rfl) (by kernel_rfl) (by kernel_rfl) (by kernel_rfl) (by kernel_rfl) (by kernel_rfl) rfl (InnL.cons (hd.im 0 rfl) InnL.nil)) (fun _ => rfl) fun _ _ v H8 hq => ?_
 obtain ⟨g5,rfl,hq⟩:=hq
 replace hS : SH M X w [eO 22 (Ty.sl tyValue) ([l_] : List (List TValue)) g5,eI tyValue l_ g_l_,gE0] _:=hS.join [0] [0,1] rfl rfl hq
 refine wl_batch 2 3 [] [0,1,5] (fS [0,1,5] [vS whole,vL g_l_ l_,vK g5 1]) [] H8 (by decide) (by kernel_rfl) trivial fun _ _ H10 hb => ?_
 replace hS:=hS.below hb
 apply wl_end rfl
 obtain ⟨z11,hz,hm⟩:=bindE hm
 refine w_cut (fun a' w' => ∃ (g24 : Gh),Fr 38 (fS [0,5] [vS whole,vL g24 z11]) a' ∧ SH M X w [eO 22 (Ty.sl tyValue) z11 g24,eI tyValue l_ g_l_,gE0] w') ?_ ?_
 ·replace hm:=hz
  refine s_reg [] [0,1,5,12] (fS [0,1,5,12] [vS whole,vL g_l_ l_,vK g5 1,vB (whole == [109,97,114,103,105,110])]) [] H10 (by kernel_rfl) trivial fun _ _ H13 hb => ?_
  replace hS:=hS.below hb
  refine w_if H13 rfl (fun hc => ?_) (fun hc => ?c23)
  case c23 =>
   replace hm:=bF hc hm
   apply w_skip
   obtain rfl:=someE hm
   exact ⟨g5,FrG.keep (ks:=[0,5]) H13 (by kernel_rfl),hS⟩
  replace hm:=bT hc hm
  apply wl_start
  refine wl_batch 0 1 [] [0,13] (fS [0,13] [vS whole,vL g_l_ l_]) [] H13 (by decide) (by kernel_rfl) trivial fun _ _ H15 hb => ?_
  replace hS:=hS.below hb
  obtain ⟨y16,hy16,hm⟩:=bindE hm
  have hd:=hS.hand [1] [0,1,2] rfl rfl
  refine m_stp [14,0] [(0,[],vS whole)] H15 rfl rfl rfl rfl (o_callx H15 rfl rfl (short_sides_ok (g_l_:=g_l_) m _ _ hy16 _ _ hd)) (fun _ => rfl) fun _ _ v H20 hq => ?_
  obtain ⟨g17,rfl,hq⟩:=hq
  replace hS : SH M X w [eO 22 (Ty.sl tyValue) y16 g17,eO 22 (Ty.sl tyValue) ([l_] : List (List TValue)) g5,eI tyValue l_ g_l_,gE0] _:=hS.join [1] [0,1,2] rfl rfl hq
  refine wl_batch 2 3 [] [0,5] (fS [0,5] [vS whole,vL g17 y16]) [] H20 (by decide) (by kernel_rfl) trivial fun _ _ H22 hb => ?_
  replace hS:=hS.below hb
  apply wl_end rfl
  obtain rfl:=someE hm
  replace hS : SH M X w [eO 22 (Ty.sl tyValue) y16 g17,eI tyValue l_ g_l_,gE0] _:=hS.sel [0,2,3] rfl
  exact ⟨g17,FrG.keep (ks:=[0,5]) H22 (by kernel_rfl),hS⟩
 ·rintro _ _ ⟨g24,H,hS⟩
  replace hS : SH M X w [eO 22 (Ty.sl tyValue) z11 g24,gE0] _:=hS.sel [0,2] rfl
  apply w_seq
  apply wl_start
  refine wl_batch 0 1 [] [5,15] (fS [5,15] [vL g24 z11,vS whole]) [] H (by decide) (by kernel_rfl) trivial fun _ _ H27 hb => ?_
  replace hS:=hS.below hb
  obtain ⟨y28,hy28,hm⟩:=bindE hm
  have hd:=hS.hand [] [0,1] rfl rfl
  refine m_stp [16,5] [(5,[],vL g24 z11)] H27 rfl rfl rfl rfl (o_callx H27 rfl rfl (short_of_ok 64 _ _ hy28 _ _ hd)) (fun _ => rfl) fun _ _ v H32 hq => ?_
  obtain ⟨g29,rfl,hq⟩:=hq
  replace hS : SH M X w [eO 9 tS y28 g29,eO 22 (Ty.sl tyValue) z11 g24,gE0] _:=hS.join [] [0,1] rfl rfl hq
  refine wl_batch 2 3 [] [5,6] (fS [5,6] [vL g24 z11,vL g29 y28]) [] H32 (by decide) (by kernel_rfl) trivial fun _ _ H34 hb => ?_
  replace hS:=hS.below hb
  apply wl_end rfl
  apply w_seq
  refine s_reg [] [5,6,21] (fS [5,6,21] [vL g24 z11,vL g29 y28,vB ((ln z11) != (ln y28))]) [] H34 (by kernel_rfl) trivial fun _ _ H36 hb => ?_
  replace hS:=hS.below hb
  refine w_if H36 rfl (fun hc => ?c64) (fun hc => ?_)
  case c64 =>
   replace hm:=bT hc hm
   refine s_reg [] [4] [(4,[],vO)] [] H36 (by kernel_rfl) trivial fun _ _ H38 hb => ?_
   replace hS:=hS.below hb
   replace hS : SH M X w [gE0] _:=hS.sel [2] rfl
   apply w_ret
   obtain rfl:=someE hm
   replace hS : SH M X w [eO 22 (Ty.sl tyValue) ([] : List (List TValue)) (.nil),gE0] _:=hS.addNil 22 (Ty.sl tyValue)
   exact retR1 H38 rfl rfl ⟨_,rfl,Gh.nil,rfl,(hS.sel [0] rfl)⟩
  replace hm:=bF hc hm
  apply w_skip
  obtain ⟨z40,hz,hm_z40⟩:=bindE hm
  refine w_cut (fun a' w' => ∃ s_z40 : Unit,z40 = Sum.inr s_z40 ∧ Fr 38 [(5,[],vL g24 z11)] a' ∧ SH M X w [eO 9 tS y28 g29,eO 22 (Ty.sl tyValue) z11 g24,gE0] w') ?_ ?_
  ·replace hm:=hz
   refine s_reg [] [5,22,23,24] (fS [5,22,23,24] [vL g24 z11,vL g29 y28,vI (ln y28),vI 0]) [] H36 (by kernel_rfl) trivial fun _ _ H42 hb => ?_
   replace hS:=hS.below hb
   apply w_block
   refine w_loop (fun kk a' w' => ∃ (v43 : Int),short_parts_L1 m z11 y28 kk v43 = some _ ∧ Fr 38 (fS [5,22,23,24] [vL g24 z11,vL g29 y28,vI (ln y28),vI v43]) a' ∧ SH M X w [eO 9 tS y28 g29,eO 22 (Ty.sl tyValue) z11 g24,gE0] w') ⟨_,0,hm,FrG.keep (ks:=[5,22,23,24]) H42 (by kernel_rfl),hS⟩ ?_
   clear hm H42 hS
   rintro kk _ _ ⟨v43,hm,H,hS⟩
   cases kk with
   | zero => exact noneE hm
   | succ kk =>
    rw [short_parts_L1] at hm
    refine s_reg [] [5,22,23,24,25] (fS [5,22,23,24,25] [vL g24 z11,vL g29 y28,vI (ln y28),vI v43,vB (decide (v43 < (ln y28)))]) [] H (by kernel_rfl) trivial fun _ _ H45 hb => ?_
    replace hS:=hS.below hb
    apply w_seq
    refine w_if H45 rfl (fun hc => ?_) (fun hc => ?c59)
    case c59 =>
     replace hm:=bF hc hm
     apply w_exit rfl
     obtain rfl:=someE hm
     exact ⟨_,rfl,FrG.keep (ks:=[5]) H45 (by kernel_rfl),hS⟩
    replace hm:=bT hc hm
    apply w_skip
    apply w_seq
    apply w_block
    obtain ⟨ho46,hm⟩:=chkE hm
    refine s_reg [(vS (gi y28 v43))] [5,7,8,22,23,24] (fS [5,7,8,22,23,24] [vL g24 z11,vI v43,vS (gi y28 v43),vL g29 y28,vI (ln y28),vI v43]) [fun _ => oka g29.a ∧ 0 ≤ v43 ∧ v43 < ln y28,fun wz => V.at1 ⟨ab g29.a,ao g29.a + (v43).toNat * 1,none⟩ (vS (gi y28 v43)) wz] H45 (by kernel_rfl) ⟨((hS.osl 0 rfl).oki ho46),((hS.osl 0 rfl).at1 ho46 0 rfl),trivial⟩ fun _ _ H48 hb => ?_
    replace hS:=hS.below hb
    obtain ⟨ho49,hm⟩:=chkE hm
    obtain ⟨y50,hy50,hm⟩:=bindE hm
    refine s_reg [(.slice (g24.s (v43).toNat 0).a ((gi z11 v43).length) (g24.s (v43).toNat 0).c),(vB y50)] [5,22,23,24,35] (fS [5,22,23,24,35] [vL g24 z11,vL g29 y28,vI (ln y28),vI v43,vB (!y50)]) [fun _ => oka g24.a ∧ 0 ≤ v43 ∧ v43 < ln z11,fun wz => V.at1 ⟨ab g24.a,ao g24.a + (v43).toNat * 1,none⟩ (.slice (g24.s (v43).toNat 0).a ((gi z11 v43).length) (g24.s (v43).toNat 0).c) wz,rB 41 [vS (gi y28 v43),.slice (g24.s (v43).toNat 0).a ((gi z11 v43).length) (g24.s (v43).toNat 0).c] (vB y50)] H48 (by kernel_rfl) ⟨((hS.osl 1 rfl).oki ho49),((hS.osl 1 rfl).at1 ho49 0 rfl),(short_right_ok (g_l_:=(g24.s (v43).toNat 0)) m _ _ _ hy50 _ (s0im (s0im s0nil (hS.im 2 rfl)) (sl_inn ((hS.osl 1 rfl).el ho49)))),trivial⟩ fun _ _ H52 hb => ?_
    replace hS:=hS.below hb
    refine w_if H52 rfl (fun hc => ?_) (fun hc => ?c58)
    case c58 =>
     replace hm:=bF hc hm
     apply w_skip
     refine w_reg [] [5,22,23,24] (fS [5,22,23,24] [vL g24 z11,vL g29 y28,vI (ln y28),vI (w64 (v43 + 1))]) [] H52 (by kernel_rfl) trivial fun _ _ H57 hb => ?_
     replace hS:=hS.below hb
     exact ⟨_,Nat.lt_succ_self _,w64 (v43 + 1),hm,FrG.keep (ks:=[5,22,23,24]) H57 (by kernel_rfl),hS⟩
    replace hm:=bT hc hm
    refine s_reg [] [4] [(4,[],vO)] [] H52 (by kernel_rfl) trivial fun _ _ H54 hb => ?_
    replace hS:=hS.below hb
    apply w_ret
    obtain rfl:=someE hm
    have hm:=hm_z40
    obtain rfl:=someE hm
    replace hS : SH M X w [eO 22 (Ty.sl tyValue) ([] : List (List TValue)) (.nil),eO 9 tS y28 g29,eO 22 (Ty.sl tyValue) z11 g24,gE0] _:=hS.addNil 22 (Ty.sl tyValue)
    exact retR1 H54 rfl rfl ⟨_,rfl,Gh.nil,rfl,(hS.sel [0] rfl)⟩
  ·rintro _ _ ⟨s_z40,hz,H,hS⟩
   subst hz
   replace hm:=sumR hm_z40
   replace hS : SH M X w [eO 22 (Ty.sl tyValue) z11 g24,gE0] _:=hS.sel [1,2] rfl
   refine s_reg [] [4] [(4,[],vL g24 z11)] [] H (by kernel_rfl) trivial fun _ _ H62 hb => ?_
   replace hS:=hS.below hb
   apply w_ret
   obtain rfl:=someE hm
   exact retR1 H62 rfl rfl ⟨_,rfl,g24,rfl,(hS.sel [0] rfl)⟩
theorem short_parts_ok {g_l_ : Gh} (m : Nat) (whole : Str) (l_ : List TValue) (r : List (List TValue)) (hm : short_parts m whole l_ = some r) (M : Av) (w : World) (hS : S0 M [eI tyValue l_ g_l_,gE0] w) : DoesX Tryz.prog 36 ⟨[vS whole,vL g_l_ l_]⟩ w (fun v w' => ∃ (g901 : Gh),v = vL g901 r ∧ SH M (fpl [eI tyValue l_ g_l_,gE0]) w [eO 22 (Ty.sl tyValue) r g901] w'):=⟨Tryz.call36 _,short_parts_w M m   whole l_ r hm w hS⟩

def short_clone_S (rec_ : (List TValue) → Option (List TValue)) : Prop:=∀ (g_l_ : Gh) (M : Av) (l_ : List TValue) (r : List TValue),rec_ l_ = some r → ∀ w,S0 M [eI tyValue l_ g_l_] w → Calls Tryz.prog 37 ⟨[vL g_l_ l_]⟩ w (fun e w' => ∃ v,e = .returned v ∧ ∃ (g901 : Gh),v = vL g901 r ∧ SH M (fpl [eI tyValue l_ g_l_]) w [eO 51 tyValue r g901] w')
theorem short_clone_w (m : Nat) : ∀ (k : Nat),short_clone_S (short_clone_r m  k):=by
 intro k
 induction k with
 | zero => intro g_l_ M l_ r hm; exact noneE hm
 | succ k ih =>
  intro g_l_ M l_ r hm w hS
  rw [short_clone_r] at hm
  have hS0 : SH M (fpl [eI tyValue l_ g_l_]) w [eI tyValue l_ g_l_] w:=hS
  generalize hX : fpl [eI tyValue l_ g_l_] = X at hS0 ⊢
  clear hS hX
  have hS:=hS0
  clear hS0
  refine calls_entryP Tryz.func37 rfl Tryz.ntmps37 rfl fun _ H => ?_
  refine s_reg [] [0] [(0,[],vL g_l_ l_)] [] H (by kernel_rfl) trivial fun _ _ H2 hb => ?_
  replace hS:=hS.below hb
  refine s_reg [] [0,3] (fS [0,3] [vL g_l_ l_,vO]) [] H2 (by kernel_rfl) trivial fun _ _ H4 hb => ?_
  replace hS:=hS.below hb
  obtain ⟨z5,hz,hm⟩:=bindE hm
  refine w_cut (fun a' w' => ∃ (g42 : Gh),Fr 23 [(3,[],vL g42 z5)] a' ∧ SH M X w [eO 51 tyValue z5 g42,eI tyValue l_ g_l_] w') ?_ ?_
  ·replace hm:=hz
   refine s_reg [] [3,6,7,8] (fS [3,6,7,8] [vO,vL g_l_ l_,vI (ln l_),vI 0]) [] H4 (by kernel_rfl) trivial fun _ _ H7 hb => ?_
   replace hS:=hS.below hb
   apply w_block
   replace hS : SH M X w [eO 51 tyValue ([] : List TValue) (.nil),eI tyValue l_ g_l_] _:=hS.addNil 51 tyValue
   refine w_loop (fun kk a' w' => ∃ (v9 : List TValue) (v11 : Int) (g10 : Gh),short_clone_L1 m l_ (short_clone_r m k) kk v9 v11 = some _ ∧ Fr 23 (fS [6,7,3,8] [vL g_l_ l_,vI (ln l_),vL g10 v9,vI v11]) a' ∧ SH M X w [eO 51 tyValue v9 g10,eI tyValue l_ g_l_] w') ⟨_,([] : List TValue),0,Gh.nil,hm,FrG.keep (ks:=[6,7,3,8]) H7 (by kernel_rfl),hS⟩ ?_
   clear hm H7 hS
   rintro kk _ _ ⟨v9,v11,g10,hm,H,hS⟩
   cases kk with
   | zero => exact noneE hm
   | succ kk =>
    rw [short_clone_L1] at hm
    refine s_reg [] [3,6,7,8,9] (fS [3,6,7,8,9] [vL g10 v9,vL g_l_ l_,vI (ln l_),vI v11,vB (decide (v11 < (ln l_)))]) [] H (by kernel_rfl) trivial fun _ _ H13 hb => ?_
    replace hS:=hS.below hb
    apply w_seq
    refine w_if H13 rfl (fun hc => ?_) (fun hc => ?c40)
    case c40 =>
     replace hm:=bF hc hm
     apply w_exit rfl
     obtain rfl:=someE hm
     exact ⟨g10,FrG.keep (ks:=[3]) H13 (by kernel_rfl),hS⟩
    replace hm:=bT hc hm
    apply w_skip
    apply w_seq
    apply w_block
    apply w_seq
    apply wl_start
    obtain ⟨ho14,hm⟩:=chkE hm
    refine wl_batch 0 2 [(vG [vU ((gi l_ v11).Token.Kind),vS (gi l_ v11).Token.Text,vI ((gi l_ v11).Token.Num),vS (gi l_ v11).Token.Unit,vB ((gi l_ v11).Token.Flag),.slice (g_l_.s (v11).toNat 0).a (((gi l_ v11).List_).length) (g_l_.s (v11).toNat 0).c])] [3,6,7,8,11] (fS [3,6,7,8,11] [vL g10 v9,vL g_l_ l_,vI (ln l_),vI v11,vG [vU ((gi l_ v11).Token.Kind),vS (gi l_ v11).Token.Text,vI ((gi l_ v11).Token.Num),vS (gi l_ v11).Token.Unit,vB ((gi l_ v11).Token.Flag),.slice (g_l_.s (v11).toNat 0).a (((gi l_ v11).List_).length) (g_l_.s (v11).toNat 0).c]]) [fun _ => oka g_l_.a ∧ 0 ≤ v11 ∧ v11 < ln l_,fun wz => V.atN (ab g_l_.a) (ao g_l_.a + (v11).toNat * 6) [vU ((gi l_ v11).Token.Kind),vS (gi l_ v11).Token.Text,vI ((gi l_ v11).Token.Num),vS (gi l_ v11).Token.Unit,vB ((gi l_ v11).Token.Flag),.slice (g_l_.s (v11).toNat 0).a (((gi l_ v11).List_).length) (g_l_.s (v11).toNat 0).c] 0 wz] H13 (by decide) (by kernel_rfl) ⟨((hS.im 1 rfl).oki ho14),((hS.im 1 rfl).atA ho14 0 rfl),trivial⟩ fun _ _ H16 hb => ?_
    replace hS:=hS.below hb
    have hd:=hS.hand [] [0,1] rfl rfl
    refine m_stp [5,3,6,7,8,11] (fS [3,6,7,8,11] [vL g10 v9,vL g_l_ l_,vI (ln l_),vI v11,vG [vU ((gi l_ v11).Token.Kind),vS (gi l_ v11).Token.Text,vI ((gi l_ v11).Token.Num),vS (gi l_ v11).Token.Unit,vB ((gi l_ v11).Token.Flag),.slice (g_l_.s (v11).toNat 0).a (((gi l_ v11).List_).length) (g_l_.s (v11).toNat 0).c]]) H16 rfl rfl rfl rfl (o_alloc [vU 0,vN,vI 0,vN,vF,vO] (z:=vG [vU 0,vN,vI 0,vN,vF,vO]) hd (by kernel_rfl) rfl) (fun _ => rfl) fun _ _ v H19 hq => ?_
    obtain ⟨b17,rfl,hq⟩:=hq
    replace hS : SH M X w [eB b17 [vU 0,vN,vI 0,vN,vF,vO],eO 51 tyValue v9 g10,eI tyValue l_ g_l_] _:=hS.join [] [0,1] rfl rfl hq
    have hd:=hS.hand [0] [1,2] rfl rfl
    refine m_stp0 [3,5,6,7,8] (fS [3,5,6,7,8] [vL g10 v9,vP b17,vL g_l_ l_,vI (ln l_),vI v11]) H19 rfl rfl rfl (o_store [vU ((gi l_ v11).Token.Kind),vS (gi l_ v11).Token.Text,vI ((gi l_ v11).Token.Num),vS (gi l_ v11).Token.Unit,vB ((gi l_ v11).Token.Flag),.slice (g_l_.s (v11).toNat 0).a (((gi l_ v11).List_).length) (g_l_.s (v11).toNat 0).c] H19 hd rfl rfl (by kernel_rfl) rfl rfl rfl) rfl fun _ _ H21 hq => ?_
    obtain ⟨_,hq⟩:=hq
    replace hS : SH M X w [eB b17 [vU ((gi l_ v11).Token.Kind),vS (gi l_ v11).Token.Text,vI ((gi l_ v11).Token.Num),vS (gi l_ v11).Token.Unit,vB ((gi l_ v11).Token.Flag),.slice (g_l_.s (v11).toNat 0).a (((gi l_ v11).List_).length) (g_l_.s (v11).toNat 0).c],eO 51 tyValue v9 g10,eI tyValue l_ g_l_] _:=hS.join [0] [1,2] rfl rfl hq
    apply wl_end rfl
    obtain ⟨y24,hy24,hm⟩:=bindE hm
    obtain ⟨ho29,hm⟩:=chkE hm
    obtain ⟨q30,hq30,hm⟩:=letE hm
    refine w_drawS (base:=(fS [5,6,7,8] [vP b17,vL g_l_ l_,vI (ln l_),vI v11])) (L:=[eB b17 [vU ((gi l_ v11).Token.Kind),vS (gi l_ v11).Token.Text,vI ((gi l_ v11).Token.Num),vS (gi l_ v11).Token.Unit,vB ((gi l_ v11).Token.Flag),.slice (g_l_.s (v11).toNat 0).a (((gi l_ v11).List_).length) (g_l_.s (v11).toNat 0).c],eO 51 tyValue v9 g10,eI tyValue l_ g_l_]) 10 3 (fun yg22 => [vL g10 v9,vP b17,vG [vU ((gi l_ v11).Token.Kind),vS (gi l_ v11).Token.Text,vI ((gi l_ v11).Token.Num),vS (gi l_ v11).Token.Unit,vB ((gi l_ v11).Token.Flag)],vA b17 5,.slice (g_l_.s (v11).toNat 0).a (((gi l_ v11).List_).length) (g_l_.s (v11).toNat 0).c,.slice (yg22 5 0).a y24.length (yg22 5 0).c,vG [vU ((gi l_ v11).Token.Kind),vS (gi l_ v11).Token.Text,vI ((gi l_ v11).Token.Num),vS (gi l_ v11).Token.Unit,vB ((gi l_ v11).Token.Flag),.slice (yg22 5 0).a y24.length (yg22 5 0).c],vK (yg22 7 0) 1,.slice (yg22 8 0).a q30.length (yg22 8 0).c,.slice (yg22 8 0).a q30.length (yg22 8 0).c]) (fun yg22 => [[],[],[],[],[],[eO 51 tyValue y24 (yg22 5 0),eI tyValue ((gi l_ v11).List_) (g_l_.s (v11).toNat 0)],[],[eO 51 tyValue ([(TValue.mk ((gi l_ v11).Token) y24)] : List TValue) (yg22 7 0),eI tyValue y24 (yg22 5 0),eI tyValue ((gi l_ v11).List_) (g_l_.s (v11).toNat 0)],[eO 51 tyValue q30 (yg22 8 0)],[]]) [[],[10,12],[10,12],[10,12],[10,12],[12],[5],[5],[7,11],[8]] [[],[],[],[],[],[],[],[5],[11],[]] [[0],[1],[1,2],[3],[3,4],[3,4,5],[1,2,3,4,5,6],[1,2,3,4,5,6,7],[0,1,2,3,4,5,6,7,8],[0,1,2,3,4,5,6,7,8,9]] [(3,9,vL g10 v9)] (FrG.keep (ks:=[5,6,7,8]) H21 (by kernel_rfl)) (fun k e h => by rcases k with _ | k <;> first | (obtain rfl:=Option.some.inj h; exact FrG.slot H21 (by kernel_rfl)) | cases h) (by kernel_rfl) hS (by kernel_rfl) rfl rfl (by kernel_rfl) (by kernel_rfl) (by kernel_rfl) (gd_none (by kernel_rfl) _ _) ?hloc_yg22 ?hstep_yg22 fun _ _ yg22 H33 hv hS => ?hK_yg22
    case hloc_yg22 => exact ⟨(fun _ _ _ _ => ⟨rfl,rfl⟩),(fun _ _ _ _ => ⟨rfl,rfl⟩),(fun _ _ _ _ => ⟨rfl,rfl⟩),(fun _ _ _ _ => ⟨rfl,rfl⟩),(fun _ _ _ _ => ⟨rfl,rfl⟩),(fun _ i g hi => lcG [5] (fun yg22 => (.slice (yg22 5 0).a y24.length (yg22 5 0).c,[eO 51 tyValue y24 (yg22 5 0),eI tyValue ((gi l_ v11).List_) (g_l_.s (v11).toNat 0)])) hi rfl),(fun _ i g hi => lcG [5] (fun yg22 => (vG [vU ((gi l_ v11).Token.Kind),vS (gi l_ v11).Token.Text,vI ((gi l_ v11).Token.Num),vS (gi l_ v11).Token.Unit,vB ((gi l_ v11).Token.Flag),.slice (yg22 5 0).a y24.length (yg22 5 0).c],[])) hi rfl),(fun _ i g hi => lcG [5,7] (fun yg22 => (vK (yg22 7 0) 1,[eO 51 tyValue ([(TValue.mk ((gi l_ v11).Token) y24)] : List TValue) (yg22 7 0),eI tyValue y24 (yg22 5 0),eI tyValue ((gi l_ v11).List_) (g_l_.s (v11).toNat 0)])) hi rfl),(fun _ i g hi => lcG [8] (fun yg22 => (.slice (yg22 8 0).a q30.length (yg22 8 0).c,[eO 51 tyValue q30 (yg22 8 0)])) hi rfl),(fun _ i g hi => lcG [8] (fun yg22 => (.slice (yg22 8 0).a q30.length (yg22 8 0).c,[])) hi rfl),trivial⟩
    case hstep_yg22 =>
     refine ⟨?_,?_,?_,?_,?_,?_,?_,?_,?_,?_,trivial⟩
     ·intro o ho a w yg22 M Hb hv hO hS
      obtain rfl:=someE ho
      exact Stp.mono (o_evs [] (vL g10 v9) none [] ((Hb).add (hO 0 _ rfl (by kernel_rfl))) rfl (by kernel_rfl) (fun q e => by cases e)) fun _ _ hq => ⟨gL [],fun _ _ => hq.1,(hS.below hq.2.below).sel [] rfl⟩
     ·intro o ho a w yg22 M Hb hv hO hS
      obtain rfl:=someE ho
      exact Stp.mono (o_evs [] (vP b17) none [] Hb rfl (by kernel_rfl) (fun q e => by cases e)) fun _ _ hq => ⟨gL [],fun _ _ => hq.1,(hS.below hq.2.below).sel [0,1] rfl⟩
     ·intro o ho a w yg22 M Hb hv hO hS
      obtain rfl:=someE ho
      exact Stp.mono (o_evs [(vG [vU ((gi l_ v11).Token.Kind),vS (gi l_ v11).Token.Text,vI ((gi l_ v11).Token.Num),vS (gi l_ v11).Token.Unit,vB ((gi l_ v11).Token.Flag)])] (vG [vU ((gi l_ v11).Token.Kind),vS (gi l_ v11).Token.Text,vI ((gi l_ v11).Token.Num),vS (gi l_ v11).Token.Unit,vB ((gi l_ v11).Token.Flag)]) (some (rN b17 0 [vU ((gi l_ v11).Token.Kind),vS (gi l_ v11).Token.Text,vI ((gi l_ v11).Token.Num),vS (gi l_ v11).Token.Unit,vB ((gi l_ v11).Token.Flag)])) [] ((Hb).add (hv 1 (by decide) (by decide) 13 rfl)) rfl (by kernel_rfl) (fun q e => by cases e; exact ((hS.bk 0 rfl).atD rfl))) fun _ _ hq => ⟨gL [],fun _ _ => hq.1,(hS.below hq.2.below).sel [0,1] rfl⟩
     ·intro o ho a w yg22 M Hb hv hO hS
      obtain rfl:=someE ho
      exact Stp.mono (o_evs [] (vA b17 5) none [] Hb rfl (by kernel_rfl) (fun q e => by cases e)) fun _ _ hq => ⟨gL [],fun _ _ => hq.1,(hS.below hq.2.below).sel [0,1] rfl⟩
     ·intro o ho a w yg22 M Hb hv hO hS
      obtain rfl:=someE ho
      exact Stp.mono (o_evs [(.slice (g_l_.s (v11).toNat 0).a (((gi l_ v11).List_).length) (g_l_.s (v11).toNat 0).c)] (.slice (g_l_.s (v11).toNat 0).a (((gi l_ v11).List_).length) (g_l_.s (v11).toNat 0).c) (some (fun wz => V.at1 ⟨b17,5,none⟩ (.slice (g_l_.s (v11).toNat 0).a (((gi l_ v11).List_).length) (g_l_.s (v11).toNat 0).c) wz)) [] ((Hb).add (hv 3 (by decide) (by decide) 15 rfl)) rfl (by kernel_rfl) (fun q e => by cases e; exact ((hS.bk 0 rfl).at1 rfl))) fun _ _ hq => ⟨gL [],fun _ _ => hq.1,(hS.below hq.2.below).sel [0,1] rfl⟩
     ·intro o ho a w yg22 M Hb hv hO hS0
      obtain rfl:=someE ho
      have H : Fr 23 ([(16,[],.slice (g_l_.s (v11).toNat 0).a (((gi l_ v11).List_).length) (g_l_.s (v11).toNat 0).c)] ++ (fS [5,6,7,8] [vP b17,vL g_l_ l_,vI (ln l_),vI v11])) _:=(Hb).add (hv 4 (by decide) (by decide) 16 rfl)
      obtain ⟨X,hX⟩ : ∃ X,X = fpl [eI tyValue l_ g_l_]:=⟨_,rfl⟩
      have hS : SH M X w [eI tyValue l_ g_l_] w:=by rw [hX]; exact hS0
      replace hS : SH M X w [eI tyValue ((gi l_ v11).List_) (g_l_.s (v11).toNat 0),eI tyValue l_ g_l_] _:=hS.addIm (tyValue_i0 ((hS.im 0 rfl).el ho14))
      have hd:=hS.hand [0] [0,1] rfl rfl
      refine Stp.mono (o_callx H rfl rfl (⟨Tryz.call37 _,ih ((g_l_.s (v11).toNat 0)) _ _ _ hy24 _ hd⟩ : DoesX _ _ _ _ _)) ?_
      rintro v w2 hq
      obtain ⟨g25,rfl,hq⟩:=hq
      replace hS : SH M X w [eO 51 tyValue y24 g25,eI tyValue ((gi l_ v11).List_) (g_l_.s (v11).toNat 0),eI tyValue l_ g_l_] _:=hS.join [0] [0,1] rfl rfl hq
      rw [hX] at hS
      exact ⟨gL [g25],fun _ _ => rfl,hS.sel [0,1,2] rfl⟩
     ·intro o ho a w yg22 M Hb hv hO hS
      obtain rfl:=someE ho
      exact Stp.mono (o_evs [] (vG [vU ((gi l_ v11).Token.Kind),vS (gi l_ v11).Token.Text,vI ((gi l_ v11).Token.Num),vS (gi l_ v11).Token.Unit,vB ((gi l_ v11).Token.Flag),.slice (yg22 5 0).a y24.length (yg22 5 0).c]) none [] (((Hb).add (hv 2 (by decide) (by decide) 14 rfl)).add (hv 5 (by decide) (by decide) 17 rfl)) rfl (by kernel_rfl) (fun q e => by cases e)) fun _ _ hq => ⟨gL [],fun _ _ => hq.1,(hS.below hq.2.below).sel [0,1] rfl⟩
     ·intro o ho a w yg22 M Hb hv hO hS0
      obtain rfl:=someE ho
      have H : Fr 23 ([(18,[],vG [vU ((gi l_ v11).Token.Kind),vS (gi l_ v11).Token.Text,vI ((gi l_ v11).Token.Num),vS (gi l_ v11).Token.Unit,vB ((gi l_ v11).Token.Flag),.slice (yg22 5 0).a y24.length (yg22 5 0).c])] ++ (fS [5,6,7,8] [vP b17,vL g_l_ l_,vI (ln l_),vI v11])) _:=(Hb).add (hv 6 (by decide) (by decide) 18 rfl)
      obtain ⟨X,hX⟩ : ∃ X,X = fpl [eO 51 tyValue y24 (yg22 5 0),eI tyValue ((gi l_ v11).List_) (g_l_.s (v11).toNat 0)]:=⟨_,rfl⟩
      have hS : SH M X w [eO 51 tyValue y24 (yg22 5 0),eI tyValue ((gi l_ v11).List_) (g_l_.s (v11).toNat 0)] w:=by rw [hX]; exact hS0
      replace hS : SH M X w [eI tyValue y24 (yg22 5 0),eI tyValue ((gi l_ v11).List_) (g_l_.s (v11).toNat 0)] _:=SH.frz1 (hS.sel [0,1] rfl)
      have hd:=hS.hand [0] [0,1] rfl rfl
      refine Stp.mono (o_lit (T:=tyValue) (E:=51) (zv:=vG [vU 0,vN,vI 0,vN,vF,vO]) [vU ((gi l_ v11).Token.Kind),vS (gi l_ v11).Token.Text,vI ((gi l_ v11).Token.Num),vS (gi l_ v11).Token.Unit,vB ((gi l_ v11).Token.Flag),.slice (yg22 5 0).a y24.length (yg22 5 0).c] ([(TValue.mk ((gi l_ v11).Token) y24)] : List TValue) [gL [(yg22 5 0)]] _ H hd rfl (by kernel_rfl) (by kernel_rfl) (by kernel_rfl) (by kernel_rfl) (by kernel_rfl) (by kernel_rfl) (by kernel_rfl) rfl (InnL.cons (tyValue_mk (hd.im 0 rfl)) InnL.nil)) ?_
      rintro v w2 hq
      obtain ⟨g27,rfl,hq⟩:=hq
      replace hS : SH M X w [eO 51 tyValue ([(TValue.mk ((gi l_ v11).Token) y24)] : List TValue) g27,eI tyValue y24 (yg22 5 0),eI tyValue ((gi l_ v11).List_) (g_l_.s (v11).toNat 0)] _:=hS.join [0] [0,1] rfl rfl hq
      rw [hX] at hS
      exact ⟨gL [g27],fun _ _ => rfl,hS.sel [0,1,2] rfl⟩
     ·intro o ho a w yg22 M Hb hv hO hS0
      obtain rfl:=someE ho
      have H : Fr 23 ((fS [19,12] [vK (yg22 7 0) 1,vL g10 v9]) ++ (fS [5,6,7,8] [vP b17,vL g_l_ l_,vI (ln l_),vI v11])) _:=((Hb).add (hv 0 (by decide) (by decide) 12 rfl)).add (hv 7 (by decide) (by decide) 19 rfl)
      obtain ⟨X,hX⟩ : ∃ X,X = fpl [eO 51 tyValue ([(TValue.mk ((gi l_ v11).Token) y24)] : List TValue) (yg22 7 0),eI tyValue y24 (yg22 5 0),eI tyValue ((gi l_ v11).List_) (g_l_.s (v11).toNat 0),eO 51 tyValue v9 g10]:=⟨_,rfl⟩
      have hS : SH M X w [eO 51 tyValue ([(TValue.mk ((gi l_ v11).Token) y24)] : List TValue) (yg22 7 0),eI tyValue y24 (yg22 5 0),eI tyValue ((gi l_ v11).List_) (g_l_.s (v11).toNat 0),eO 51 tyValue v9 g10] w:=by rw [hX]; exact hS0
      have hd:=hS.hand [3,0] [1,2] rfl rfl
      refine Stp.mono (o_app2 (T:=tyValue) (zv:=vG [vU 0,vN,vI 0,vN,vF,vO]) (g1:=g10) (g2:=(yg22 7 0)) (l1:=v9) (l2:=([(TValue.mk ((gi l_ v11).Token) y24)] : List TValue)) q30 hq30.symm H hd rfl rfl rfl rfl rfl rfl rfl (by kernel_rfl) (by kernel_rfl) rfl rfl ho29) ?_
      rintro v w2 hq
      obtain ⟨g31,rfl,hq⟩:=hq
      replace hS : SH M X w [eO 51 tyValue q30 g31,eO 51 tyValue ([(TValue.mk ((gi l_ v11).Token) y24)] : List TValue) (yg22 7 0),eI tyValue y24 (yg22 5 0),eI tyValue ((gi l_ v11).List_) (g_l_.s (v11).toNat 0)] _:=hS.join [3,0] [1,2] rfl rfl hq
      rw [hX] at hS
      exact ⟨gL [g31],fun _ _ => rfl,hS.sel [0,1,2,3] rfl⟩
     ·intro o ho a w yg22 M Hb hv hO hS
      obtain rfl:=someE ho
      exact Stp.mono (o_evs [] (.slice (yg22 8 0).a q30.length (yg22 8 0).c) none [] ((Hb).add (hv 8 (by decide) (by decide) 20 rfl)) rfl (by kernel_rfl) (fun q e => by cases e)) fun _ _ hq => ⟨gL [],fun _ _ => hq.1,(hS.below hq.2.below).sel [0] rfl⟩
    have H34 : Fr 23 (fS [3,6,7,8] [.slice (yg22 8 0).a q30.length (yg22 8 0).c,vL g_l_ l_,vI (ln l_),vI v11]) _:=(FrG.add (FrG.keep (ks:=[6,7,8]) H33 (by kernel_rfl)) (hv 9 3 rfl))
    replace hS : SH M X w [eO 51 tyValue ([(TValue.mk ((gi l_ v11).Token) y24)] : List TValue) (yg22 7 0),eI tyValue y24 (yg22 5 0),eI tyValue ((gi l_ v11).List_) (g_l_.s (v11).toNat 0),eO 51 tyValue q30 (yg22 8 0),eB b17 [vU ((gi l_ v11).Token.Kind),vS (gi l_ v11).Token.Text,vI ((gi l_ v11).Token.Num),vS (gi l_ v11).Token.Unit,vB ((gi l_ v11).Token.Flag),.slice (g_l_.s (v11).toNat 0).a (((gi l_ v11).List_).length) (g_l_.s (v11).toNat 0).c],eI tyValue l_ g_l_] _:=hS
    clear hv H33
    generalize yg22 8 0 = g35 at H34 hS
    generalize yg22 7 0 = g36 at H34 hS
    generalize yg22 5 0 = g37 at H34 hS
    replace hS : SH M X w [eO 51 tyValue q30 g35,eI tyValue l_ g_l_] _:=hS.sel [3,5] rfl
    refine w_reg [] [3,6,7,8] (fS [3,6,7,8] [vL g35 q30,vL g_l_ l_,vI (ln l_),vI (w64 (v11 + 1))]) [] H34 (by kernel_rfl) trivial fun _ _ H39 hb => ?_
    replace hS:=hS.below hb
    exact ⟨_,Nat.lt_succ_self _,q30,w64 (v11 + 1),g35,hm,FrG.keep (ks:=[6,7,3,8]) H39 (by kernel_rfl),hS⟩
  ·rintro _ _ ⟨g42,H,hS⟩
   replace hS : SH M X w [eO 51 tyValue z5 g42] _:=hS.sel [0] rfl
   refine s_reg [] [2] [(2,[],vL g42 z5)] [] H (by kernel_rfl) trivial fun _ _ H45 hb => ?_
   replace hS:=hS.below hb
   apply w_ret
   obtain rfl:=someE hm
   exact retR1 H45 rfl rfl ⟨_,rfl,g42,rfl,(hS.sel [0] rfl)⟩
theorem short_clone_ok {g_l_ : Gh} (m : Nat) (l_ : List TValue) (r : List TValue) (hm : short_clone m l_ = some r) (M : Av) (w : World) (hS : S0 M [eI tyValue l_ g_l_] w) : DoesX Tryz.prog 37 ⟨[vL g_l_ l_]⟩ w (fun v w' => ∃ (g901 : Gh),v = vL g901 r ∧ SH M (fpl [eI tyValue l_ g_l_]) w [eO 51 tyValue r g901] w'):=⟨Tryz.call37 _,short_clone_w m   m g_l_ M l_ r hm w hS⟩

theorem short_Expand_w {g_d__0 : Gh} (M : Av) (m : Nat) (d_ : TDecl) (r : (List TLong) × Int) (hm : short_Expand m d_ = some r) (w : World) (hS : S0 M [eI tyValue d_.Value g_d__0,gE0] w) : Calls Tryz.prog 16 ⟨[vG [vS d_.Name,vL g_d__0 d_.Value,vB d_.Important]]⟩ w (fun e w' => ∃ v,e = .returned v ∧ ∃ (g901 : Gh),v = vW [vL g901 r.1,vI r.2] ∧ SH M (fpl [eI tyValue d_.Value g_d__0,gE0]) w [eO 44 tyLong r.1 g901] w'):=by
 rw [short_Expand] at hm
 have hS0 : SH M (fpl [eI tyValue d_.Value g_d__0,gE0]) w [eI tyValue d_.Value g_d__0,gE0] w:=hS
 generalize hX : fpl [eI tyValue d_.Value g_d__0,gE0] = X at hS0 ⊢
 clear hS hX
 have hS:=hS0
 clear hS0
 refine calls_entryP Tryz.func16 rfl Tryz.ntmps16 rfl fun _ H => ?_
 apply w_seq
 apply wl_start
 have hd:=hS.hand [] [0,1] rfl rfl
 refine m_stp [1] [] H rfl rfl rfl rfl (o_box [vS d_.Name,vL g_d__0 d_.Value,vB d_.Important] H hd rfl rfl) (fun _ => rfl) fun _ _ v H3 hq => ?_
 obtain ⟨b1,rfl,hq⟩:=hq
 replace hS : SH M X w [eB b1 [vS d_.Name,vL g_d__0 d_.Value,vB d_.Important],eI tyValue d_.Value g_d__0,gE0] _:=hS.join [] [0,1] rfl rfl hq
 refine wl_batch 1 3 [] [1] [(1,[],vP b1)] [] H3 (by decide) (by kernel_rfl) trivial fun _ _ H5 hb => ?_
 replace hS:=hS.below hb
 apply wl_end rfl
 apply w_seq
 obtain ⟨y6,hy6,hm⟩:=bindE hm
 refine s_reg [(vL g_d__0 d_.Value),(vI y6)] [1,4] (fS [1,4] [vP b1,vI y6]) [rA b1 1 (vL g_d__0 d_.Value),rB 34 [vL g_d__0 d_.Value] (vI y6)] H5 (by kernel_rfl) ⟨((hS.bk 0 rfl).at1 rfl),(nest_Check_ok (g_v_:=g_d__0) m _ _ hy6 _ (s0im s0nil (hS.im 1 rfl))),trivial⟩ fun _ _ H8 hb => ?_
 replace hS:=hS.below hb
 refine s_reg [] [1,4,18] (fS [1,4,18] [vP b1,vI y6,vB (y6 != 0)]) [] H8 (by kernel_rfl) trivial fun _ _ H10 hb => ?_
 replace hS:=hS.below hb
 refine w_if H10 rfl (fun hc => ?c160) (fun hc => ?_)
 case c160 =>
  replace hm:=bT hc hm
  refine s_reg [] [2,3] (fS [2,3] [vO,vI y6]) [] H10 (by kernel_rfl) trivial fun _ _ H12 hb => ?_
  replace hS:=hS.below hb
  replace hS : SH M X w [gE0] _:=hS.sel [2] rfl
  apply w_ret
  obtain rfl:=someE hm
  replace hS : SH M X w [eO 44 tyLong ([] : List TLong) (.nil),gE0] _:=hS.addNil 44 tyLong
  exact retR2 H12 rfl rfl rfl ⟨_,rfl,Gh.nil,rfl,(hS.sel [0] rfl)⟩
 replace hm:=bF hc hm
 apply w_skip
 apply w_seq
 apply wl_start
 refine wl_batch 0 2 [(vS d_.Name)] [1,22] (fS [1,22] [vP b1,vS d_.Name]) [rA b1 0 (vS d_.Name)] H10 (by decide) (by kernel_rfl) ⟨((hS.bk 0 rfl).at1 rfl),trivial⟩ fun _ _ H15 hb => ?_
 replace hS:=hS.below hb
 obtain ⟨y16,hy16,hm⟩:=bindE hm
 have hd:=hS.hand [2] [0,1,2] rfl rfl
 refine m_stp [23,1] [(1,[],vP b1)] H15 rfl rfl rfl rfl (o_callx H15 rfl rfl (short_Longs_ok 64 _ _ hy16 _ _ hd)) (fun _ => rfl) fun _ _ v H20 hq => ?_
 obtain ⟨g17,rfl,hq⟩:=hq
 replace hS : SH M X w [eO 9 tS y16.1 g17,eB b1 [vS d_.Name,vL g_d__0 d_.Value,vB d_.Important],eI tyValue d_.Value g_d__0,gE0] _:=hS.join [2] [0,1,2] rfl rfl hq
 refine wl_batch 3 8 [] [1,5,6] (fS [1,5,6] [vP b1,vL g17 y16.1,vI y16.2]) [] H20 (by decide) (by kernel_rfl) trivial fun _ _ H22 hb => ?_
 replace hS:=hS.below hb
 apply wl_end rfl
 apply w_seq
 refine s_reg [] [1,5,6,27] (fS [1,5,6,27] [vP b1,vL g17 y16.1,vI y16.2,vB (y16.2 != 0)]) [] H22 (by kernel_rfl) trivial fun _ _ H24 hb => ?_
 replace hS:=hS.below hb
 refine w_if H24 rfl (fun hc => ?c159) (fun hc => ?_)
 case c159 =>
  replace hm:=bT hc hm
  refine s_reg [] [2,3] (fS [2,3] [vO,vI y16.2]) [] H24 (by kernel_rfl) trivial fun _ _ H26 hb => ?_
  replace hS:=hS.below hb
  replace hS : SH M X w [gE0] _:=hS.sel [3] rfl
  apply w_ret
  obtain rfl:=someE hm
  replace hS : SH M X w [eO 44 tyLong ([] : List TLong) (.nil),gE0] _:=hS.addNil 44 tyLong
  exact retR2 H26 rfl rfl rfl ⟨_,rfl,Gh.nil,rfl,(hS.sel [0] rfl)⟩
 replace hm:=bF hc hm
 apply w_skip
 apply w_seq
 apply wl_start
 refine wl_batch 0 2 [(vS d_.Name)] [1,5,30] (fS [1,5,30] [vP b1,vL g17 y16.1,vS d_.Name]) [rA b1 0 (vS d_.Name)] H24 (by decide) (by kernel_rfl) ⟨((hS.bk 1 rfl).at1 rfl),trivial⟩ fun _ _ H29 hb => ?_
 replace hS:=hS.below hb
 obtain ⟨y30,hy30,hm⟩:=bindE hm
 have hd:=hS.hand [] [0,1,2,3] rfl rfl
 refine m_stp [31,1,5] (fS [1,5] [vP b1,vL g17 y16.1]) H29 rfl rfl rfl rfl (o_callx H29 rfl rfl (short_of_ok 64 _ _ hy30 _ _ hd)) (fun _ => rfl) fun _ _ v H34 hq => ?_
 obtain ⟨g31,rfl,hq⟩:=hq
 replace hS : SH M X w [eO 9 tS y30 g31,eO 9 tS y16.1 g17,eB b1 [vS d_.Name,vL g_d__0 d_.Value,vB d_.Important],eI tyValue d_.Value g_d__0,gE0] _:=hS.join [] [0,1,2,3] rfl rfl hq
 refine wl_batch 3 6 [] [1,5,7] (fS [1,5,7] [vP b1,vL g17 y16.1,vB (decide (0 < (ln y30)))]) [] H34 (by decide) (by kernel_rfl) trivial fun _ _ H36 hb => ?_
 replace hS:=hS.below hb
 apply wl_end rfl
 replace hS : SH M X w [eO 9 tS y16.1 g17,eB b1 [vS d_.Name,vL g_d__0 d_.Value,vB d_.Important],eI tyValue d_.Value g_d__0,gE0] _:=hS.sel [1,2,3,4] rfl
 obtain ⟨y37,hy37,hm⟩:=bindE hm
 refine s_reg [(vL g_d__0 d_.Value),(vB y37)] [1,5,7,8] (fS [1,5,7,8] [vP b1,vL g17 y16.1,vB (decide (0 < (ln y30))),vB y37]) [rA b1 1 (vL g_d__0 d_.Value),rB 18 [vL g_d__0 d_.Value] (vB y37)] H36 (by kernel_rfl) ⟨((hS.bk 1 rfl).at1 rfl),(short_Var_ok (g_l_:=g_d__0) m _ _ hy37 _ (s0im s0nil (hS.im 2 rfl))),trivial⟩ fun _ _ H39 hb => ?_
 replace hS:=hS.below hb
 refine s_reg [] [1,5,7,8,9] (fS [1,5,7,8,9] [vP b1,vL g17 y16.1,vB (decide (0 < (ln y30))),vB y37,vO]) [] H39 (by kernel_rfl) trivial fun _ _ H41 hb => ?_
 replace hS:=hS.below hb
 obtain ⟨z42,hz,hm⟩:=bindE hm
 refine w_cut (fun a' w' => ∃ (g89 : Gh),Fr 98 (fS [1,5,7,8,9] [vP b1,vL g17 y16.1,vB (decide (0 < (ln y30))),vB y37,vL g89 z42]) a' ∧ SH M X w [eO 22 (Ty.sl tyValue) z42 g89,eO 9 tS y16.1 g17,eB b1 [vS d_.Name,vL g_d__0 d_.Value,vB d_.Important],eI tyValue d_.Value g_d__0,gE0] w') ?_ ?_
 ·replace hm:=hz
  apply w_block
  obtain ⟨z43,hz,hm⟩:=bindE hm
  refine w_cut (fun a' w' => Fr 98 (fS [1,5,7,8,9,37] [vP b1,vL g17 y16.1,vB (decide (0 < (ln y30))),vB y37,vO,vB z43]) a' ∧ SH M X w [eO 9 tS y16.1 g17,eB b1 [vS d_.Name,vL g_d__0 d_.Value,vB d_.Important],eI tyValue d_.Value g_d__0,gE0] w') ?_ ?_
  ·replace hm:=hz
   obtain ⟨y44,hy44,hm⟩:=bindE hm
   refine s_reg [(vS d_.Name),(vB y44)] [1,5,7,8,9,37] (fS [1,5,7,8,9,37] [vP b1,vL g17 y16.1,vB (decide (0 < (ln y30))),vB y37,vO,vB y44]) [rA b1 0 (vS d_.Name),rB 26 [vS d_.Name] (vB y44)] H41 (by kernel_rfl) ⟨((hS.bk 1 rfl).at1 rfl),((props_Custom_ok _ _ hy44).b),trivial⟩ fun _ _ H46 hb => ?_
   replace hS:=hS.below hb
   refine w_if H46 rfl (fun hc => ?c58) (fun hc => ?_)
   case c58 =>
    replace hm:=bT hc hm
    apply w_skip
    obtain rfl:=someE hm
    exact ⟨FrG.keep (ks:=[1,5,7,8,9,37]) H46 (by kernel_rfl),hS⟩
   replace hm:=bF hc hm
   obtain ⟨y47,hy47,hm⟩:=bindE hm
   refine s_reg [(vL g_d__0 d_.Value),(vS y47)] [1,5,7,8,9,37] (fS [1,5,7,8,9,37] [vP b1,vL g17 y16.1,vB (decide (0 < (ln y30))),vB y37,vO,vB (!(y47 == []))]) [rA b1 1 (vL g_d__0 d_.Value),rB 25 [vL g_d__0 d_.Value] (vS y47)] H46 (by kernel_rfl) ⟨((hS.bk 1 rfl).at1 rfl),(short_Wide_ok (g_l_:=g_d__0) m _ _ hy47 _ (s0im s0nil (hS.im 2 rfl))),trivial⟩ fun _ _ H49 hb => ?_
   replace hS:=hS.below hb
   refine w_if H49 rfl (fun hc => ?c57) (fun hc => ?_)
   case c57 =>
    replace hm:=bT hc hm
    apply w_skip
    obtain rfl:=someE hm
    exact ⟨FrG.keep (ks:=[1,5,7,8,9,37]) H49 (by kernel_rfl),hS⟩
   replace hm:=bF hc hm
   refine s_reg [] [1,5,7,8,9,37] (fS [1,5,7,8,9,37] [vP b1,vL g17 y16.1,vB (decide (0 < (ln y30))),vB y37,vO,vB y37]) [] H49 (by kernel_rfl) trivial fun _ _ H51 hb => ?_
   replace hS:=hS.below hb
   refine w_if H51 rfl (fun hc => ?c56) (fun hc => ?_)
   case c56 =>
    replace hm:=bT hc hm
    apply w_skip
    obtain rfl:=someE hm
    exact ⟨FrG.keep (ks:=[1,5,7,8,9,37]) H51 (by kernel_rfl),hS⟩
   replace hm:=bF hc hm
   obtain ⟨y52,hy52,hm⟩:=bindE hm
   obtain ⟨x53,hx53,hm⟩:=letE hm
   refine w_reg [(vS d_.Name),(vL g_d__0 d_.Value),(vB y52)] [1,5,7,8,9,37] (fS [1,5,7,8,9,37] [vP b1,vL g17 y16.1,vB (decide (0 < (ln y30))),vB y37,vO,vB x53]) [fun wz => ((!(decide (0 < (ln y30)))) = true ∧ True → V.at1 ⟨b1,0,none⟩ (vS d_.Name) wz),fun wz => ((!(decide (0 < (ln y30)))) = true ∧ True → V.at1 ⟨b1,1,none⟩ (vL g_d__0 d_.Value) wz),fun wz => ((!(decide (0 < (ln y30)))) = true ∧ True → RetB Tryz.prog 41 ⟨[vS d_.Name,vL g_d__0 d_.Value]⟩ (vB y52) wz)] H51 (by subst hx53; kernel_rfl) ⟨fun hg => (hS.bk 1 rfl).at1 rfl,fun hg => (hS.bk 1 rfl).at1 rfl,fun hg => short_right_ok (g_l_:=g_d__0) m _ _ _ (bT (hg.1) hy52) _ (s0im (s0im s0nil (hS.im 3 rfl)) (hS.im 2 rfl)),trivial⟩ fun _ _ H55 hb => ?_
   replace hS:=hS.below hb
   obtain rfl:=someE hm
   exact ⟨FrG.keep (ks:=[1,5,7,8,9,37]) H55 (by kernel_rfl),hS⟩
  ·rintro _ _ ⟨H,hS⟩
   refine w_if H rfl (fun hc => ?_) (fun hc => ?c87)
   case c87 =>
    replace hm:=bF hc hm
    refine s_reg [] [1,5,7,8,9,61] (fS [1,5,7,8,9,61] [vP b1,vL g17 y16.1,vB (decide (0 < (ln y30))),vB y37,vO,vB (decide (0 < (ln y30)))]) [] H (by kernel_rfl) trivial fun _ _ H75 hb => ?_
    replace hS:=hS.below hb
    refine w_if H75 rfl (fun hc => ?_) (fun hc => ?c86)
    case c86 =>
     replace hm:=bF hc hm
     apply w_skip
     obtain rfl:=someE hm
     replace hS : SH M X w [eO 22 (Ty.sl tyValue) ([] : List (List TValue)) (.nil),eO 9 tS y16.1 g17,eB b1 [vS d_.Name,vL g_d__0 d_.Value,vB d_.Important],eI tyValue d_.Value g_d__0,gE0] _:=hS.addNil 22 (Ty.sl tyValue)
     exact ⟨Gh.nil,FrG.keep (ks:=[1,5,7,8,9]) H75 (by kernel_rfl),hS⟩
    replace hm:=bT hc hm
    apply wl_start
    refine wl_batch 0 4 [(vS d_.Name),(vL g_d__0 d_.Value)] [1,5,7,8,64,66] (fS [1,5,7,8,64,66] [vP b1,vL g17 y16.1,vB (decide (0 < (ln y30))),vB y37,vS d_.Name,vL g_d__0 d_.Value]) [rA b1 0 (vS d_.Name),rA b1 1 (vL g_d__0 d_.Value)] H75 (by decide) (by kernel_rfl) ⟨((hS.bk 1 rfl).at1 rfl),((hS.bk 1 rfl).at1 rfl),trivial⟩ fun _ _ H77 hb => ?_
    replace hS:=hS.below hb
    obtain ⟨y78,hy78,hm⟩:=bindE hm
    have hd:=hS.hand [2,3] [0,1,2,3] rfl rfl
    refine m_stp [67,1,5,7,8] (fS [1,5,7,8] [vP b1,vL g17 y16.1,vB (decide (0 < (ln y30))),vB y37]) H77 rfl rfl rfl rfl (o_callx H77 rfl rfl (short_parts_ok (g_l_:=g_d__0) m _ _ _ hy78 _ _ hd)) (fun _ => rfl) fun _ _ v H82 hq => ?_
    obtain ⟨g79,rfl,hq⟩:=hq
    replace hS : SH M X w [eO 22 (Ty.sl tyValue) y78 g79,eO 9 tS y16.1 g17,eB b1 [vS d_.Name,vL g_d__0 d_.Value,vB d_.Important],eI tyValue d_.Value g_d__0,gE0] _:=hS.join [2,3] [0,1,2,3] rfl rfl hq
    refine wl_batch 5 6 [] [1,5,7,8,9] (fS [1,5,7,8,9] [vP b1,vL g17 y16.1,vB (decide (0 < (ln y30))),vB y37,vL g79 y78]) [] H82 (by decide) (by kernel_rfl) trivial fun _ _ H84 hb => ?_
    replace hS:=hS.below hb
    apply wl_end rfl
    obtain rfl:=someE hm
    exact ⟨g79,FrG.keep (ks:=[1,5,7,8,9]) H84 (by kernel_rfl),hS⟩
   replace hm:=bT hc hm
   apply wl_start
   refine wl_batch 0 2 [(vL g_d__0 d_.Value)] [1,5,7,8,56] (fS [1,5,7,8,56] [vP b1,vL g17 y16.1,vB (decide (0 < (ln y30))),vB y37,vL g_d__0 d_.Value]) [rA b1 1 (vL g_d__0 d_.Value)] H (by decide) (by kernel_rfl) ⟨((hS.bk 1 rfl).at1 rfl),trivial⟩ fun _ _ H60 hb => ?_
   replace hS:=hS.below hb
   have hd:=hS.hand [2] [0,1,2,3] rfl rfl
   refine m_stp [57,1,5,7,8] (fS [1,5,7,8] [vP b1,vL g17 y16.1,vB (decide (0 < (ln y30))),vB y37]) H60 rfl rfl rfl rfl (o_lit (T:=(Ty.sl tyValue)) (E:=22) (zv:=vO) [vL g_d__0 d_.Value] ([d_.Value] : List (List TValue)) [gL [g_d__0]] _ H60 hd rfl (by kernel_rfl) (by kernel_rfl) (by kernel_rfl) (by kernel_rfl) (by kernel_rfl) (by kernel_rfl) (by kernel_rfl) rfl (InnL.cons (hd.im 0 rfl) InnL.nil)) (fun _ => rfl) fun _ _ v H64 hq => ?_
   obtain ⟨g61,rfl,hq⟩:=hq
   replace hS : SH M X w [eO 22 (Ty.sl tyValue) ([d_.Value] : List (List TValue)) g61,eO 9 tS y16.1 g17,eB b1 [vS d_.Name,vL g_d__0 d_.Value,vB d_.Important],eI tyValue d_.Value g_d__0,gE0] _:=hS.join [2] [0,1,2,3] rfl rfl hq
   refine wl_batch 3 5 [] [1,5,7,8,57,59] (fS [1,5,7,8,57,59] [vP b1,vL g17 y16.1,vB (decide (0 < (ln y30))),vB y37,vK g61 1,vI (ln y16.1)]) [] H64 (by decide) (by kernel_rfl) trivial fun _ _ H66 hb => ?_
   replace hS:=hS.below hb
   replace hS : SH M X w [eI (Ty.sl tyValue) ([d_.Value] : List (List TValue)) g61,eO 9 tS y16.1 g17,eB b1 [vS d_.Name,vL g_d__0 d_.Value,vB d_.Important],eI tyValue d_.Value g_d__0,gE0] _:=SH.frz1 (hS.sel [0,1,2,3,4] rfl)
   obtain ⟨y67,hy67,hm⟩:=bindE hm
   have hd:=hS.hand [0] [0,1,2,3,4] rfl rfl
   refine m_stp [60,1,5,7,8] (fS [1,5,7,8] [vP b1,vL g17 y16.1,vB (decide (0 < (ln y30))),vB y37]) H66 rfl rfl rfl rfl (o_callx H66 rfl rfl (slices_Repeat_api_Value_api_Value_ok (g_x_:=g61) m _ _ _ hy67 _ _ hd)) (fun _ => rfl) fun _ _ v H71 hq => ?_
   obtain ⟨g68,rfl,hq⟩:=hq
   replace hS : SH M X w [eO 22 (Ty.sl tyValue) y67 g68,eI (Ty.sl tyValue) ([d_.Value] : List (List TValue)) g61,eO 9 tS y16.1 g17,eB b1 [vS d_.Name,vL g_d__0 d_.Value,vB d_.Important],eI tyValue d_.Value g_d__0,gE0] _:=hS.join [0] [0,1,2,3,4] rfl rfl hq
   refine wl_batch 6 7 [] [1,5,7,8,9] (fS [1,5,7,8,9] [vP b1,vL g17 y16.1,vB (decide (0 < (ln y30))),vB y37,vL g68 y67]) [] H71 (by decide) (by kernel_rfl) trivial fun _ _ H73 hb => ?_
   replace hS:=hS.below hb
   apply wl_end rfl
   replace hS : SH M X w [eO 22 (Ty.sl tyValue) y67 g68,eO 9 tS y16.1 g17,eB b1 [vS d_.Name,vL g_d__0 d_.Value,vB d_.Important],eI tyValue d_.Value g_d__0,gE0] _:=hS.sel [0,2,3,4,5] rfl
   obtain rfl:=someE hm
   exact ⟨g68,FrG.keep (ks:=[1,5,7,8,9]) H73 (by kernel_rfl),hS⟩
 ·rintro _ _ ⟨g89,H,hS⟩
  apply w_seq
  refine s_reg [] [1,5,7,8,9,70] (fS [1,5,7,8,9,70] [vP b1,vL g17 y16.1,vB (decide (0 < (ln y30))),vB y37,vL g89 z42,vB ((ln z42) == 0)]) [] H (by kernel_rfl) trivial fun _ _ H92 hb => ?_
  replace hS:=hS.below hb
  refine w_if H92 rfl (fun hc => ?c157) (fun hc => ?_)
  case c157 =>
   replace hm:=bT hc hm
   refine s_reg [] [2,3] (fS [2,3] [vO,vI 12]) [] H92 (by kernel_rfl) trivial fun _ _ H94 hb => ?_
   replace hS:=hS.below hb
   replace hS : SH M X w [gE0] _:=hS.sel [4] rfl
   apply w_ret
   obtain rfl:=someE hm
   replace hS : SH M X w [eO 44 tyLong ([] : List TLong) (.nil),gE0] _:=hS.addNil 44 tyLong
   exact retR2 H94 rfl rfl rfl ⟨_,rfl,Gh.nil,rfl,(hS.sel [0] rfl)⟩
  replace hm:=bF hc hm
  apply w_skip
  refine s_reg [] [1,5,7,8,9,10] (fS [1,5,7,8,9,10] [vP b1,vL g17 y16.1,vB (decide (0 < (ln y30))),vB y37,vL g89 z42,vO]) [] H92 (by kernel_rfl) trivial fun _ _ H97 hb => ?_
  replace hS:=hS.below hb
  obtain ⟨z98,hz,hm⟩:=bindE hm
  refine w_cut (fun a' w' => ∃ (g152 : Gh),Fr 98 [(10,[],vL g152 z98)] a' ∧ SH M X w [eO 44 tyLong z98 g152,eO 22 (Ty.sl tyValue) z42 g89,eO 9 tS y16.1 g17,eB b1 [vS d_.Name,vL g_d__0 d_.Value,vB d_.Important],eI tyValue d_.Value g_d__0,gE0] w') ?_ ?_
  ·replace hm:=hz
   refine s_reg [] [1,7,8,9,10,71,72,73] (fS [1,7,8,9,10,71,72,73] [vP b1,vB (decide (0 < (ln y30))),vB y37,vL g89 z42,vO,vL g17 y16.1,vI (ln y16.1),vI 0]) [] H97 (by kernel_rfl) trivial fun _ _ H100 hb => ?_
   replace hS:=hS.below hb
   apply w_block
   replace hS : SH M X w [eO 44 tyLong ([] : List TLong) (.nil),eO 22 (Ty.sl tyValue) z42 g89,eO 9 tS y16.1 g17,eB b1 [vS d_.Name,vL g_d__0 d_.Value,vB d_.Important],eI tyValue d_.Value g_d__0,gE0] _:=hS.addNil 44 tyLong
   refine w_loop (fun kk a' w' => ∃ (v102 : List TLong) (v104 : Int) (g103 : Gh),short_Expand_L1 m d_ y16 y30 y37 z42 kk v102 v104 = some _ ∧ Fr 98 (fS [1,7,8,9,71,72,10,73] [vP b1,vB (decide (0 < (ln y30))),vB y37,vL g89 z42,vL g17 y16.1,vI (ln y16.1),vL g103 v102,vI v104]) a' ∧ SH M X w [eO 44 tyLong v102 g103,eO 22 (Ty.sl tyValue) z42 g89,eO 9 tS y16.1 g17,eB b1 [vS d_.Name,vL g_d__0 d_.Value,vB d_.Important],eI tyValue d_.Value g_d__0,gE0] w') ⟨_,([] : List TLong),0,Gh.nil,hm,FrG.keep (ks:=[1,7,8,9,71,72,10,73]) H100 (by kernel_rfl),hS⟩ ?_
   clear hm H100 hS
   rintro kk _ _ ⟨v102,v104,g103,hm,H,hS⟩
   cases kk with
   | zero => exact noneE hm
   | succ kk =>
    rw [short_Expand_L1] at hm
    refine s_reg [] [1,7,8,9,10,71,72,73,74] (fS [1,7,8,9,10,71,72,73,74] [vP b1,vB (decide (0 < (ln y30))),vB y37,vL g89 z42,vL g103 v102,vL g17 y16.1,vI (ln y16.1),vI v104,vB (decide (v104 < (ln y16.1)))]) [] H (by kernel_rfl) trivial fun _ _ H106 hb => ?_
    replace hS:=hS.below hb
    apply w_seq
    refine w_if H106 rfl (fun hc => ?_) (fun hc => ?c150)
    case c150 =>
     replace hm:=bF hc hm
     apply w_exit rfl
     obtain rfl:=someE hm
     exact ⟨g103,FrG.keep (ks:=[10]) H106 (by kernel_rfl),hS⟩
    replace hm:=bT hc hm
    apply w_skip
    apply w_seq
    apply w_block
    obtain ⟨ho107,hm⟩:=chkE hm
    refine s_reg [(vS (gi y16.1 v104))] [1,7,8,9,10,11,12,71,72,73] (fS [1,7,8,9,10,11,12,71,72,73] [vP b1,vB (decide (0 < (ln y30))),vB y37,vL g89 z42,vL g103 v102,vI v104,vS (gi y16.1 v104),vL g17 y16.1,vI (ln y16.1),vI v104]) [fun _ => oka g17.a ∧ 0 ≤ v104 ∧ v104 < ln y16.1,fun wz => V.at1 ⟨ab g17.a,ao g17.a + (v104).toNat * 1,none⟩ (vS (gi y16.1 v104)) wz] H106 (by kernel_rfl) ⟨((hS.osl 2 rfl).oki ho107),((hS.osl 2 rfl).at1 ho107 0 rfl),trivial⟩ fun _ _ H109 hb => ?_
    replace hS:=hS.below hb
    apply w_seq
    apply wl_start
    obtain ⟨ho110,hm⟩:=chkE hm
    refine wl_batch 0 5 [(.slice (g89.s (v104).toNat 0).a ((gi z42 v104).length) (g89.s (v104).toNat 0).c)] [1,7,8,9,10,71,72,73,78,82] (fS [1,7,8,9,10,71,72,73,78,82] [vP b1,vB (decide (0 < (ln y30))),vB y37,vL g89 z42,vL g103 v102,vL g17 y16.1,vI (ln y16.1),vI v104,vS (gi y16.1 v104),.slice (g89.s (v104).toNat 0).a ((gi z42 v104).length) (g89.s (v104).toNat 0).c]) [fun _ => oka g89.a ∧ 0 ≤ v104 ∧ v104 < ln z42,fun wz => V.at1 ⟨ab g89.a,ao g89.a + (v104).toNat * 1,none⟩ (.slice (g89.s (v104).toNat 0).a ((gi z42 v104).length) (g89.s (v104).toNat 0).c) wz] H109 (by decide) (by kernel_rfl) ⟨((hS.osl 1 rfl).oki ho110),((hS.osl 1 rfl).at1 ho110 0 rfl),trivial⟩ fun _ _ H112 hb => ?_
    replace hS:=hS.below hb
    replace hS : SH M X w [eI tyValue (gi z42 v104) (g89.s (v104).toNat 0),eO 44 tyLong v102 g103,eO 22 (Ty.sl tyValue) z42 g89,eO 9 tS y16.1 g17,eB b1 [vS d_.Name,vL g_d__0 d_.Value,vB d_.Important],eI tyValue d_.Value g_d__0,gE0] _:=hS.addIm (sl_inn ((hS.ow 1 rfl).el ho110))
    obtain ⟨y114,hy114,hm⟩:=bindE hm
    have hd:=hS.hand [0] [0,1,2,3,4,5,6] rfl rfl
    refine m_stp [83,1,7,8,9,10,71,72,73,78] (fS [1,7,8,9,10,71,72,73,78] [vP b1,vB (decide (0 < (ln y30))),vB y37,vL g89 z42,vL g103 v102,vL g17 y16.1,vI (ln y16.1),vI v104,vS (gi y16.1 v104)]) H112 rfl rfl rfl rfl (o_callx H112 rfl rfl (short_clone_ok (g_l_:=(g89.s (v104).toNat 0)) m _ _ hy114 _ _ hd)) (fun _ => rfl) fun _ _ v H118 hq => ?_
    obtain ⟨g115,rfl,hq⟩:=hq
    replace hS : SH M X w [eO 51 tyValue y114 g115,eI tyValue (gi z42 v104) (g89.s (v104).toNat 0),eO 44 tyLong v102 g103,eO 22 (Ty.sl tyValue) z42 g89,eO 9 tS y16.1 g17,eB b1 [vS d_.Name,vL g_d__0 d_.Value,vB d_.Important],eI tyValue d_.Value g_d__0,gE0] _:=hS.join [0] [0,1,2,3,4,5,6] rfl rfl hq
    refine wl_batch 6 7 [] [1,7,8,9,10,71,72,73,84] (fS [1,7,8,9,10,71,72,73,84] [vP b1,vB (decide (0 < (ln y30))),vB y37,vL g89 z42,vL g103 v102,vL g17 y16.1,vI (ln y16.1),vI v104,vG [vS (gi y16.1 v104),vL g115 y114,vN]]) [] H118 (by decide) (by kernel_rfl) trivial fun _ _ H120 hb => ?_
    replace hS:=hS.below hb
    have hd:=hS.hand [] [0,1,2,3,4,5,6,7] rfl rfl
    refine m_stp [13,1,7,8,9,10,71,72,73,84] (fS [1,7,8,9,10,71,72,73,84] [vP b1,vB (decide (0 < (ln y30))),vB y37,vL g89 z42,vL g103 v102,vL g17 y16.1,vI (ln y16.1),vI v104,vG [vS (gi y16.1 v104),vL g115 y114,vN]]) H120 rfl rfl rfl rfl (o_alloc [vN,vO,vN] (z:=vG [vN,vO,vN]) hd (by kernel_rfl) rfl) (fun _ => rfl) fun _ _ v H123 hq => ?_
    obtain ⟨b121,rfl,hq⟩:=hq
    replace hS : SH M X w [eB b121 [vN,vO,vN],eO 51 tyValue y114 g115,eI tyValue (gi z42 v104) (g89.s (v104).toNat 0),eO 44 tyLong v102 g103,eO 22 (Ty.sl tyValue) z42 g89,eO 9 tS y16.1 g17,eB b1 [vS d_.Name,vL g_d__0 d_.Value,vB d_.Important],eI tyValue d_.Value g_d__0,gE0] _:=hS.join [] [0,1,2,3,4,5,6,7] rfl rfl hq
    have hd:=hS.hand [0] [1,2,3,4,5,6,7,8] rfl rfl
    refine m_stp0 [1,7,8,9,10,13,71,72,73] (fS [1,7,8,9,10,13,71,72,73] [vP b1,vB (decide (0 < (ln y30))),vB y37,vL g89 z42,vL g103 v102,vP b121,vL g17 y16.1,vI (ln y16.1),vI v104]) H123 rfl rfl rfl (o_store [vS (gi y16.1 v104),vL g115 y114,vN] H123 hd rfl rfl (by kernel_rfl) rfl rfl rfl) rfl fun _ _ H125 hq => ?_
    obtain ⟨_,hq⟩:=hq
    replace hS : SH M X w [eB b121 [vS (gi y16.1 v104),vL g115 y114,vN],eO 51 tyValue y114 g115,eI tyValue (gi z42 v104) (g89.s (v104).toNat 0),eO 44 tyLong v102 g103,eO 22 (Ty.sl tyValue) z42 g89,eO 9 tS y16.1 g17,eB b1 [vS d_.Name,vL g_d__0 d_.Value,vB d_.Important],eI tyValue d_.Value g_d__0,gE0] _:=hS.join [0] [1,2,3,4,5,6,7,8] rfl rfl hq
    apply wl_end rfl
    replace hS : SH M X w [eB b121 [vS (gi y16.1 v104),vL g115 y114,vN],eO 51 tyValue y114 g115,eO 44 tyLong v102 g103,eO 22 (Ty.sl tyValue) z42 g89,eO 9 tS y16.1 g17,eB b1 [vS d_.Name,vL g_d__0 d_.Value,vB d_.Important],eI tyValue d_.Value g_d__0,gE0] _:=hS.sel [0,1,3,4,5,6,7,8] rfl
    obtain ⟨z126,hz,hm⟩:=bindE hm
    refine w_cut (fun a' w' => Fr 98 (fS [1,7,8,9,10,13,71,72,73] [vP b1,vB (decide (0 < (ln y30))),vB y37,vL g89 z42,vL g103 v102,vP b121,vL g17 y16.1,vI (ln y16.1),vI v104]) a' ∧ SH M X w [eB b121 [vS (gi y16.1 v104),vL g115 y114,vS z126],eO 51 tyValue y114 g115,eO 44 tyLong v102 g103,eO 22 (Ty.sl tyValue) z42 g89,eO 9 tS y16.1 g17,eB b1 [vS d_.Name,vL g_d__0 d_.Value,vB d_.Important],eI tyValue d_.Value g_d__0,gE0] w') ?_ ?_
    ·replace hm:=hz
     refine s_reg [] [1,7,8,9,10,13,71,72,73,88] (fS [1,7,8,9,10,13,71,72,73,88] [vP b1,vB (decide (0 < (ln y30))),vB y37,vL g89 z42,vL g103 v102,vP b121,vL g17 y16.1,vI (ln y16.1),vI v104,vB (cond (decide (0 < (ln y30))) y37 false)]) [] H125 (by kernel_rfl) trivial fun _ _ H128 hb => ?_
     replace hS:=hS.below hb
     refine w_if H128 rfl (fun hc => ?_) (fun hc => ?c133)
     case c133 =>
      replace hm:=bF hc hm
      apply w_skip
      obtain rfl:=someE hm
      exact ⟨FrG.keep (ks:=[1,7,8,9,10,13,71,72,73]) H128 (by kernel_rfl),hS⟩
     replace hm:=bT hc hm
     apply wl_start
     refine wl_batch 0 3 [(vS d_.Name)] [1,7,8,9,10,13,71,72,73,90,91] (fS [1,7,8,9,10,13,71,72,73,90,91] [vP b1,vB (decide (0 < (ln y30))),vB y37,vL g89 z42,vL g103 v102,vP b121,vL g17 y16.1,vI (ln y16.1),vI v104,vS d_.Name,vA b121 2]) [rA b1 0 (vS d_.Name)] H128 (by decide) (by kernel_rfl) ⟨((hS.bk 5 rfl).at1 rfl),trivial⟩ fun _ _ H130 hb => ?_
     replace hS:=hS.below hb
     have hd:=hS.hand [0] [1,2,3,4,5,6,7] rfl rfl
     refine m_stp0 [1,7,8,9,10,13,71,72,73] (fS [1,7,8,9,10,13,71,72,73] [vP b1,vB (decide (0 < (ln y30))),vB y37,vL g89 z42,vL g103 v102,vP b121,vL g17 y16.1,vI (ln y16.1),vI v104]) H130 rfl rfl rfl (o_store [vS (gi y16.1 v104),vL g115 y114,vS d_.Name] H130 hd rfl rfl (by kernel_rfl) rfl rfl rfl) rfl fun _ _ H132 hq => ?_
     obtain ⟨_,hq⟩:=hq
     replace hS : SH M X w [eB b121 [vS (gi y16.1 v104),vL g115 y114,vS d_.Name],eO 51 tyValue y114 g115,eO 44 tyLong v102 g103,eO 22 (Ty.sl tyValue) z42 g89,eO 9 tS y16.1 g17,eB b1 [vS d_.Name,vL g_d__0 d_.Value,vB d_.Important],eI tyValue d_.Value g_d__0,gE0] _:=hS.join [0] [1,2,3,4,5,6,7] rfl rfl hq
     apply wl_end rfl
     obtain rfl:=someE hm
     exact ⟨FrG.keep (ks:=[1,7,8,9,10,13,71,72,73]) H132 (by kernel_rfl),hS⟩
    ·rintro _ _ ⟨H,hS⟩
     apply wl_start
     refine wl_batch 0 2 [(vG [vS (gi y16.1 v104),vL g115 y114,vS z126])] [1,7,8,9,71,72,73,92,93] (fS [1,7,8,9,71,72,73,92,93] [vP b1,vB (decide (0 < (ln y30))),vB y37,vL g89 z42,vL g17 y16.1,vI (ln y16.1),vI v104,vL g103 v102,vG [vS (gi y16.1 v104),vL g115 y114,vS z126]]) [rN b121 0 [vS (gi y16.1 v104),vL g115 y114,vS z126]] H (by decide) (by kernel_rfl) ⟨((hS.bk 0 rfl).atD rfl),trivial⟩ fun _ _ H135 hb => ?_
     replace hS:=hS.below hb
     replace hS : SH M X w [eI tyValue y114 g115,eB b121 [vS (gi y16.1 v104),vL g115 y114,vS z126],eO 44 tyLong v102 g103,eO 22 (Ty.sl tyValue) z42 g89,eO 9 tS y16.1 g17,eB b1 [vS d_.Name,vL g_d__0 d_.Value,vB d_.Important],eI tyValue d_.Value g_d__0,gE0] _:=SH.frz1 (hS.sel [1,0,2,3,4,5,6,7] rfl)
     have hd:=hS.hand [0] [0,1,2,3,4,5,6,7] rfl rfl
     refine m_stp [94,1,7,8,9,71,72,73,92] (fS [1,7,8,9,71,72,73,92] [vP b1,vB (decide (0 < (ln y30))),vB y37,vL g89 z42,vL g17 y16.1,vI (ln y16.1),vI v104,vL g103 v102]) H135 rfl rfl rfl rfl (o_lit (T:=tyLong) (E:=44) (zv:=vG [vN,vO,vN]) [vS (gi y16.1 v104),vL g115 y114,vS z126] ([(TLong.mk (gi y16.1 v104) y114 z126)] : List TLong) [gL [g115]] _ H135 hd rfl (by kernel_rfl) (by kernel_rfl) (by kernel_rfl) (by kernel_rfl) (by kernel_rfl) (by kernel_rfl) (by kernel_rfl) rfl (InnL.cons (tyLong_mk (hd.im 0 rfl)) InnL.nil)) (fun _ => rfl) fun _ _ v H139 hq => ?_
     obtain ⟨g136,rfl,hq⟩:=hq
     replace hS : SH M X w [eO 44 tyLong ([(TLong.mk (gi y16.1 v104) y114 z126)] : List TLong) g136,eI tyValue y114 g115,eB b121 [vS (gi y16.1 v104),vL g115 y114,vS z126],eO 44 tyLong v102 g103,eO 22 (Ty.sl tyValue) z42 g89,eO 9 tS y16.1 g17,eB b1 [vS d_.Name,vL g_d__0 d_.Value,vB d_.Important],eI tyValue d_.Value g_d__0,gE0] _:=hS.join [0] [0,1,2,3,4,5,6,7] rfl rfl hq
     obtain ⟨ho140,hm⟩:=chkE hm
     obtain ⟨q141,hq141,hm⟩:=letE hm
     have hd:=hS.hand [3,0] [1,2,4,5,6,7,8] rfl rfl
     refine m_stp [95,1,7,8,9,71,72,73] (fS [1,7,8,9,71,72,73] [vP b1,vB (decide (0 < (ln y30))),vB y37,vL g89 z42,vL g17 y16.1,vI (ln y16.1),vI v104]) H139 rfl rfl rfl rfl (o_app2 (T:=tyLong) (zv:=vG [vN,vO,vN]) (g1:=g103) (g2:=g136) (l1:=v102) (l2:=([(TLong.mk (gi y16.1 v104) y114 z126)] : List TLong)) q141 hq141.symm H139 hd rfl rfl rfl rfl rfl rfl rfl (by kernel_rfl) (by kernel_rfl) rfl rfl ho140) (fun _ => rfl) fun _ _ v H143 hq => ?_
     obtain ⟨g144,rfl,hq⟩:=hq
     replace hS : SH M X w [eO 44 tyLong q141 g144,eO 44 tyLong ([(TLong.mk (gi y16.1 v104) y114 z126)] : List TLong) g136,eI tyValue y114 g115,eB b121 [vS (gi y16.1 v104),vL g115 y114,vS z126],eO 22 (Ty.sl tyValue) z42 g89,eO 9 tS y16.1 g17,eB b1 [vS d_.Name,vL g_d__0 d_.Value,vB d_.Important],eI tyValue d_.Value g_d__0,gE0] _:=hS.join [3,0] [1,2,4,5,6,7,8] rfl rfl hq
     refine wl_batch 4 5 [] [1,7,8,9,10,71,72,73] (fS [1,7,8,9,10,71,72,73] [vP b1,vB (decide (0 < (ln y30))),vB y37,vL g89 z42,vL g144 q141,vL g17 y16.1,vI (ln y16.1),vI v104]) [] H143 (by decide) (by kernel_rfl) trivial fun _ _ H146 hb => ?_
     replace hS:=hS.below hb
     apply wl_end rfl
     replace hS : SH M X w [eO 44 tyLong q141 g144,eO 22 (Ty.sl tyValue) z42 g89,eO 9 tS y16.1 g17,eB b1 [vS d_.Name,vL g_d__0 d_.Value,vB d_.Important],eI tyValue d_.Value g_d__0,gE0] _:=hS.sel [0,4,5,6,7,8] rfl
     refine w_reg [] [1,7,8,9,10,71,72,73] (fS [1,7,8,9,10,71,72,73] [vP b1,vB (decide (0 < (ln y30))),vB y37,vL g89 z42,vL g144 q141,vL g17 y16.1,vI (ln y16.1),vI (w64 (v104 + 1))]) [] H146 (by kernel_rfl) trivial fun _ _ H148 hb => ?_
     replace hS:=hS.below hb
     exact ⟨_,Nat.lt_succ_self _,q141,w64 (v104 + 1),g144,hm,FrG.keep (ks:=[1,7,8,9,71,72,10,73]) H148 (by kernel_rfl),hS⟩
  ·rintro _ _ ⟨g152,H,hS⟩
   replace hS : SH M X w [eO 44 tyLong z98 g152,gE0] _:=hS.sel [0,5] rfl
   refine s_reg [] [2,3] (fS [2,3] [vL g152 z98,vI 0]) [] H (by kernel_rfl) trivial fun _ _ H155 hb => ?_
   replace hS:=hS.below hb
   apply w_ret
   obtain rfl:=someE hm
   exact retR2 H155 rfl rfl rfl ⟨_,rfl,g152,rfl,(hS.sel [0] rfl)⟩
theorem short_Expand_ok {g_d__0 : Gh} (m : Nat) (d_ : TDecl) (r : (List TLong) × Int) (hm : short_Expand m d_ = some r) (M : Av) (w : World) (hS : S0 M [eI tyValue d_.Value g_d__0,gE0] w) : DoesX Tryz.prog 16 ⟨[vG [vS d_.Name,vL g_d__0 d_.Value,vB d_.Important]]⟩ w (fun v w' => ∃ (g901 : Gh),v = vW [vL g901 r.1,vI r.2] ∧ SH M (fpl [eI tyValue d_.Value g_d__0,gE0]) w [eO 44 tyLong r.1 g901] w'):=⟨Tryz.call16 _,short_Expand_w M m   d_ r hm w hS⟩

theorem short_Known_w {g_d__0 : Gh} (M : Av) (m : Nat) (d_ : TDecl) (r : Bool) (hm : short_Known m d_ = some r) (w : World) (hS : S0 M [eI tyValue d_.Value g_d__0,gE0] w) : Calls Tryz.prog 48 ⟨[vG [vS d_.Name,vL g_d__0 d_.Value,vB d_.Important]]⟩ w (fun e w' => ∃ v,e = .returned v ∧ v = vB r ∧ SH M (fpl [eI tyValue d_.Value g_d__0,gE0]) w [] w'):=by
 rw [short_Known] at hm
 have hS0 : SH M (fpl [eI tyValue d_.Value g_d__0,gE0]) w [eI tyValue d_.Value g_d__0,gE0] w:=hS
 generalize hX : fpl [eI tyValue d_.Value g_d__0,gE0] = X at hS0 ⊢
 clear hS hX
 have hS:=hS0
 clear hS0
 refine calls_entryP Tryz.func48 rfl Tryz.ntmps48 rfl fun _ H => ?_
 apply w_seq
 apply wl_start
 have hd:=hS.hand [] [0,1] rfl rfl
 refine m_stp [1] [] H rfl rfl rfl rfl (o_box [vS d_.Name,vL g_d__0 d_.Value,vB d_.Important] H hd rfl rfl) (fun _ => rfl) fun _ _ v H3 hq => ?_
 obtain ⟨b1,rfl,hq⟩:=hq
 replace hS : SH M X w [eB b1 [vS d_.Name,vL g_d__0 d_.Value,vB d_.Important],eI tyValue d_.Value g_d__0,gE0] _:=hS.join [] [0,1] rfl rfl hq
 refine wl_batch 1 2 [] [1] [(1,[],vP b1)] [] H3 (by decide) (by kernel_rfl) trivial fun _ _ H5 hb => ?_
 replace hS:=hS.below hb
 apply wl_end rfl
 apply w_seq
 apply wl_start
 refine wl_batch 0 1 [(vG [vS d_.Name,vL g_d__0 d_.Value,vB d_.Important])] [6] [(6,[],vG [vS d_.Name,vL g_d__0 d_.Value,vB d_.Important])] [rN b1 0 [vS d_.Name,vL g_d__0 d_.Value,vB d_.Important]] H5 (by decide) (by kernel_rfl) ⟨((hS.bk 0 rfl).atD rfl),trivial⟩ fun _ _ H7 hb => ?_
 replace hS:=hS.below hb
 obtain ⟨y8,hy8,hm⟩:=bindE hm
 have hd:=hS.hand [1,2] [0,1,2] rfl rfl
 refine m_stp [7] [] H7 rfl rfl rfl rfl (o_callx H7 rfl rfl (short_Expand_ok (g_d__0:=g_d__0) m _ _ hy8 _ _ hd)) (fun _ => rfl) fun _ _ v H12 hq => ?_
 obtain ⟨g9,rfl,hq⟩:=hq
 replace hS : SH M X w [eO 44 tyLong y8.1 g9,eB b1 [vS d_.Name,vL g_d__0 d_.Value,vB d_.Important],eI tyValue d_.Value g_d__0,gE0] _:=hS.join [1,2] [0,1,2] rfl rfl hq
 refine wl_batch 2 7 [] [4] [(4,[],vI y8.2)] [] H12 (by decide) (by kernel_rfl) trivial fun _ _ H14 hb => ?_
 replace hS:=hS.below hb
 apply wl_end rfl
 replace hS : SH M X w [gE0] _:=hS.sel [3] rfl
 refine s_reg [] [2] [(2,[],vB (y8.2 == 0))] [] H14 (by kernel_rfl) trivial fun _ _ H16 hb => ?_
 replace hS:=hS.below hb
 apply w_ret
 obtain rfl:=someE hm
 exact retR1 H16 rfl rfl ⟨_,rfl,rfl,(hS.sel [] rfl)⟩
theorem short_Known_ok {g_d__0 : Gh} (m : Nat) (d_ : TDecl) (r : Bool) (hm : short_Known m d_ = some r) (w : World) (hL : S0 F0 [eI tyValue d_.Value g_d__0,gE0] w ∧ fpl [eI tyValue d_.Value g_d__0,gE0] = []) : RetB Tryz.prog 48 ⟨[vG [vS d_.Name,vL g_d__0 d_.Value,vB d_.Important]]⟩ (vB r) w:=retB_of hL (Tryz.call48 _) (fun w' h => short_Known_w F0 m   d_ r hm w' h)

def r04_Same_S (rec_ : (List TValue) → (List TValue) → Option (Bool)) : Prop:=∀ (g_a_ : Gh) (g_b_ : Gh) (M : Av) (a_ : List TValue) (b_ : List TValue) (r : Bool),rec_ a_ b_ = some r → ∀ w,S0 M [eI tyValue a_ g_a_,eI tyValue b_ g_b_] w → Calls Tryz.prog 14 ⟨[vL g_a_ a_,vL g_b_ b_]⟩ w (fun e w' => ∃ v,e = .returned v ∧ v = vB r ∧ SH M (fpl [eI tyValue a_ g_a_,eI tyValue b_ g_b_]) w [] w')
theorem r04_Same_w (m : Nat) : ∀ (k : Nat),r04_Same_S (r04_Same_r m  k):=by
 intro k
 induction k with
 | zero => intro g_a_ g_b_ M a_ b_ r hm; exact noneE hm
 | succ k ih =>
  intro g_a_ g_b_ M a_ b_ r hm w hS
  rw [r04_Same_r] at hm
  have hS0 : SH M (fpl [eI tyValue a_ g_a_,eI tyValue b_ g_b_]) w [eI tyValue a_ g_a_,eI tyValue b_ g_b_] w:=hS
  generalize hX : fpl [eI tyValue a_ g_a_,eI tyValue b_ g_b_] = X at hS0 ⊢
  clear hS hX
  have hS:=hS0
  clear hS0
  refine calls_entryP Tryz.func14 rfl Tryz.ntmps14 rfl fun _ H => ?_
  refine s_reg [] [0,1] (fS [0,1] [vL g_a_ a_,vL g_b_ b_]) [] H (by kernel_rfl) trivial fun _ _ H2 hb => ?_
  replace hS:=hS.below hb
  apply w_seq
  refine s_reg [] [0,1,10] (fS [0,1,10] [vL g_a_ a_,vL g_b_ b_,vB ((ln a_) != (ln b_))]) [] H2 (by kernel_rfl) trivial fun _ _ H4 hb => ?_
  replace hS:=hS.below hb
  refine w_if H4 rfl (fun hc => ?c29) (fun hc => ?_)
  case c29 =>
   replace hm:=bT hc hm
   refine s_reg [] [4] [(4,[],vF)] [] H4 (by kernel_rfl) trivial fun _ _ H6 hb => ?_
   replace hS:=hS.below hb
   replace hS : SH M X w [] _:=hS.sel [] rfl
   apply w_ret
   obtain rfl:=someE hm
   exact retR1 H6 rfl rfl ⟨_,rfl,rfl,(hS.sel [] rfl)⟩
  replace hm:=bF hc hm
  apply w_skip
  obtain ⟨z7,hz,hm_z7⟩:=bindE hm
  refine w_cut (fun a' w' => ∃ s_z7 : Unit,z7 = Sum.inr s_z7 ∧ Fr 42 [] a' ∧ SH M X w [eI tyValue a_ g_a_,eI tyValue b_ g_b_] w') ?_ ?_
  ·replace hm:=hz
   refine s_reg [] [0,1,5] (fS [0,1,5] [vL g_a_ a_,vL g_b_ b_,vI 0]) [] H4 (by kernel_rfl) trivial fun _ _ H9 hb => ?_
   replace hS:=hS.below hb
   apply w_block
   refine w_loop (fun kk a' w' => ∃ (v10 : Int),r04_Same_L1 m a_ b_ (r04_Same_r m k) kk v10 = some _ ∧ Fr 42 (fS [0,1,5] [vL g_a_ a_,vL g_b_ b_,vI v10]) a' ∧ SH M X w [eI tyValue a_ g_a_,eI tyValue b_ g_b_] w') ⟨_,0,hm,FrG.keep (ks:=[0,1,5]) H9 (by kernel_rfl),hS⟩ ?_
   clear hm H9 hS
   rintro kk _ _ ⟨v10,hm,H,hS⟩
   cases kk with
   | zero => exact noneE hm
   | succ kk =>
    rw [r04_Same_L1] at hm
    apply w_seq
    refine s_reg [] [0,1,5,14] (fS [0,1,5,14] [vL g_a_ a_,vL g_b_ b_,vI v10,vB (decide (v10 < (ln a_)))]) [] H (by kernel_rfl) trivial fun _ _ H12 hb => ?_
    replace hS:=hS.below hb
    refine w_if H12 rfl (fun hc => ?_) (fun hc => ?c24)
    case c24 =>
     replace hm:=bF hc hm
     apply w_exit rfl
     obtain rfl:=someE hm
     exact ⟨_,rfl,FrG.keep (ks:=[]) H12 (by kernel_rfl),hS⟩
    replace hm:=bT hc hm
    apply w_skip
    apply w_seq
    apply w_block
    obtain ⟨ho13,hm⟩:=chkE hm
    obtain ⟨ho14,hm⟩:=chkE hm
    obtain ⟨x15,hx15,hm⟩:=letE hm
    obtain ⟨y16,hy16,hm⟩:=bindE hm
    refine s_draw [(vG [vU ((gi a_ v10).Token.Kind),vS (gi a_ v10).Token.Text,vI ((gi a_ v10).Token.Num),vS (gi a_ v10).Token.Unit,vB ((gi a_ v10).Token.Flag)]),(vG [vU ((gi b_ v10).Token.Kind),vS (gi b_ v10).Token.Text,vI ((gi b_ v10).Token.Num),vS (gi b_ v10).Token.Unit,vB ((gi b_ v10).Token.Flag)]),(.slice (g_a_.s (v10).toNat 0).a (((gi a_ v10).List_).length) (g_a_.s (v10).toNat 0).c),(.slice (g_b_.s (v10).toNat 0).a (((gi b_ v10).List_).length) (g_b_.s (v10).toNat 0).c),(vB y16)] [0,1,5,41] (fS [0,1,5,41] [vL g_a_ a_,vL g_b_ b_,vI v10,vB (cond x15 true (!y16))]) [fun _ => oka g_a_.a ∧ 0 ≤ v10 ∧ v10 < ln a_,fun wz => V.atN (ab g_a_.a) (ao g_a_.a + (v10).toNat * 6) [vU ((gi a_ v10).Token.Kind),vS (gi a_ v10).Token.Text,vI ((gi a_ v10).Token.Num),vS (gi a_ v10).Token.Unit,vB ((gi a_ v10).Token.Flag)] 0 wz,fun _ => oka g_b_.a ∧ 0 ≤ v10 ∧ v10 < ln b_,fun wz => V.atN (ab g_b_.a) (ao g_b_.a + (v10).toNat * 6) [vU ((gi b_ v10).Token.Kind),vS (gi b_ v10).Token.Text,vI ((gi b_ v10).Token.Num),vS (gi b_ v10).Token.Unit,vB ((gi b_ v10).Token.Flag)] 0 wz,fun _ => (x15 = false ∧ True → oka g_a_.a ∧ 0 ≤ v10 ∧ v10 < ln a_),fun wz => (x15 = false ∧ True → V.at1 ⟨ab g_a_.a,ao g_a_.a + (v10).toNat * 6 + 5,none⟩ (.slice (g_a_.s (v10).toNat 0).a (((gi a_ v10).List_).length) (g_a_.s (v10).toNat 0).c) wz),fun _ => (x15 = false ∧ True → oka g_b_.a ∧ 0 ≤ v10 ∧ v10 < ln b_),fun wz => (x15 = false ∧ True → V.at1 ⟨ab g_b_.a,ao g_b_.a + (v10).toNat * 6 + 5,none⟩ (.slice (g_b_.s (v10).toNat 0).a (((gi b_ v10).List_).length) (g_b_.s (v10).toNat 0).c) wz),fun wz => (x15 = false ∧ True → RetB Tryz.prog 14 ⟨[.slice (g_a_.s (v10).toNat 0).a (((gi a_ v10).List_).length) (g_a_.s (v10).toNat 0).c,.slice (g_b_.s (v10).toNat 0).a (((gi b_ v10).List_).length) (g_b_.s (v10).toNat 0).c]⟩ (vB y16) wz)] H12 (by kernel_rfl) (by kernel_rfl) (by subst hx15; kernel_rfl) ⟨((hS.im 0 rfl).oki ho13),((hS.im 0 rfl).atA ho13 0 rfl),((hS.im 1 rfl).oki ho14),((hS.im 1 rfl).atA ho14 0 rfl),fun hg => (hS.im 0 rfl).oki ho13,fun hg => (hS.im 0 rfl).at1 ho13 5 rfl,fun hg => (hS.im 1 rfl).oki ho14,fun hg => (hS.im 1 rfl).at1 ho14 5 rfl,fun hg => retB_of (s0im (s0im s0nil (tyValue_i0 ((hS.im 1 rfl).el ho14))) (tyValue_i0 ((hS.im 0 rfl).el ho13))) (Tryz.call14 _) (fun w' h' => ih ((g_a_.s (v10).toNat 0)) ((g_b_.s (v10).toNat 0)) F0 _ _ _ (bF (hg.1) hy16) w' h'),trivial⟩ fun _ _ H18 hb => ?_
    replace hS:=hS.below hb
    refine w_if H18 rfl (fun hc => ?_) (fun hc => ?c23)
    case c23 =>
     replace hm:=bF hc hm
     apply w_skip
     refine w_reg [] [0,1,5] (fS [0,1,5] [vL g_a_ a_,vL g_b_ b_,vI (w64 (v10 + 1))]) [] H18 (by kernel_rfl) trivial fun _ _ H22 hb => ?_
     replace hS:=hS.below hb
     exact ⟨_,Nat.lt_succ_self _,w64 (v10 + 1),hm,FrG.keep (ks:=[0,1,5]) H22 (by kernel_rfl),hS⟩
    replace hm:=bT hc hm
    refine s_reg [] [4] [(4,[],vF)] [] H18 (by kernel_rfl) trivial fun _ _ H20 hb => ?_
    replace hS:=hS.below hb
    apply w_ret
    obtain rfl:=someE hm
    have hm:=hm_z7
    obtain rfl:=someE hm
    exact retR1 H20 rfl rfl ⟨_,rfl,rfl,(hS.sel [] rfl)⟩
  ·rintro _ _ ⟨s_z7,hz,H,hS⟩
   subst hz
   replace hm:=sumR hm_z7
   replace hS : SH M X w [] _:=hS.sel [] rfl
   refine s_reg [] [4] [(4,[],vT)] [] H (by kernel_rfl) trivial fun _ _ H27 hb => ?_
   replace hS:=hS.below hb
   apply w_ret
   obtain rfl:=someE hm
   exact retR1 H27 rfl rfl ⟨_,rfl,rfl,(hS.sel [] rfl)⟩
theorem r04_Same_ok {g_a_ : Gh} {g_b_ : Gh} (m : Nat) (a_ : List TValue) (b_ : List TValue) (r : Bool) (hm : r04_Same m a_ b_ = some r) (w : World) (hL : S0 F0 [eI tyValue a_ g_a_,eI tyValue b_ g_b_] w ∧ fpl [eI tyValue a_ g_a_,eI tyValue b_ g_b_] = []) : RetB Tryz.prog 14 ⟨[vL g_a_ a_,vL g_b_ b_]⟩ (vB r) w:=retB_of hL (Tryz.call14 _) (fun w' h => r04_Same_w m   m g_a_ g_b_ F0 a_ b_ r hm w' h)

theorem law27_is_w {g_d__0 : Gh} {g_want : Gh} (M : Av) (m : Nat) (d_ : TDecl) (whole : Str) (want : List Str) (r : Bool) (hm : law27_is m d_ whole want = some r) (w : World) (hS : S0 M [eI tyValue d_.Value g_d__0,eI tS want g_want,gE0] w) : Calls Tryz.prog 21 ⟨[vG [vS d_.Name,vL g_d__0 d_.Value,vB d_.Important],vS whole,vL g_want want]⟩ w (fun e w' => ∃ v,e = .returned v ∧ v = vB r ∧ SH M (fpl [eI tyValue d_.Value g_d__0,eI tS want g_want,gE0]) w [] w'):=by
 rw [law27_is] at hm
 have hS0 : SH M (fpl [eI tyValue d_.Value g_d__0,eI tS want g_want,gE0]) w [eI tyValue d_.Value g_d__0,eI tS want g_want,gE0] w:=hS
 generalize hX : fpl [eI tyValue d_.Value g_d__0,eI tS want g_want,gE0] = X at hS0 ⊢
 clear hS hX
 have hS:=hS0
 clear hS0
 refine calls_entryP Tryz.func21 rfl Tryz.ntmps21 rfl fun _ H => ?_
 apply w_seq
 apply wl_start
 have hd:=hS.hand [] [0,1,2] rfl rfl
 refine m_stp [3,1,2] (fS [1,2] [vS whole,vL g_want want]) H rfl rfl rfl rfl (o_box [vS d_.Name,vL g_d__0 d_.Value,vB d_.Important] H hd rfl rfl) (fun _ => rfl) fun _ _ v H3 hq => ?_
 obtain ⟨b1,rfl,hq⟩:=hq
 replace hS : SH M X w [eB b1 [vS d_.Name,vL g_d__0 d_.Value,vB d_.Important],eI tyValue d_.Value g_d__0,eI tS want g_want,gE0] _:=hS.join [] [0,1,2] rfl rfl hq
 refine wl_batch 1 2 [] [1,2,3] (fS [1,2,3] [vS whole,vL g_want want,vP b1]) [] H3 (by decide) (by kernel_rfl) trivial fun _ _ H5 hb => ?_
 replace hS:=hS.below hb
 apply wl_end rfl
 apply w_seq
 apply wl_start
 refine wl_batch 0 1 [(vG [vS d_.Name,vL g_d__0 d_.Value,vB d_.Important])] [1,2,3,11] (fS [1,2,3,11] [vS whole,vL g_want want,vP b1,vG [vS d_.Name,vL g_d__0 d_.Value,vB d_.Important]]) [rN b1 0 [vS d_.Name,vL g_d__0 d_.Value,vB d_.Important]] H5 (by decide) (by kernel_rfl) ⟨((hS.bk 0 rfl).atD rfl),trivial⟩ fun _ _ H7 hb => ?_
 replace hS:=hS.below hb
 obtain ⟨y8,hy8,hm⟩:=bindE hm
 have hd:=hS.hand [1,3] [0,1,2,3] rfl rfl
 refine m_stp [12,1,2,3] (fS [1,2,3] [vS whole,vL g_want want,vP b1]) H7 rfl rfl rfl rfl (o_callx H7 rfl rfl (short_Expand_ok (g_d__0:=g_d__0) m _ _ hy8 _ _ hd)) (fun _ => rfl) fun _ _ v H12 hq => ?_
 obtain ⟨g9,rfl,hq⟩:=hq
 replace hS : SH M X w [eO 44 tyLong y8.1 g9,eB b1 [vS d_.Name,vL g_d__0 d_.Value,vB d_.Important],eI tyValue d_.Value g_d__0,eI tS want g_want,gE0] _:=hS.join [1,3] [0,1,2,3] rfl rfl hq
 refine wl_batch 2 7 [] [1,2,3,7,8] (fS [1,2,3,7,8] [vS whole,vL g_want want,vP b1,vL g9 y8.1,vI y8.2]) [] H12 (by decide) (by kernel_rfl) trivial fun _ _ H14 hb => ?_
 replace hS:=hS.below hb
 apply wl_end rfl
 apply w_seq
 obtain ⟨x15,hx15,hm⟩:=letE hm
 obtain ⟨y16,hy16,hm⟩:=bindE hm
 refine s_reg [(vG [vS d_.Name,vL g_d__0 d_.Value,vB d_.Important]),(vB y16)] [1,2,7,29] (fS [1,2,7,29] [vS whole,vL g_want want,vL g9 y8.1,vB (cond x15 true (!y16))]) [fun wz => (x15 = false ∧ True → V.atN b1 0 [vS d_.Name,vL g_d__0 d_.Value,vB d_.Important] 0 wz),fun wz => (x15 = false ∧ True → RetB Tryz.prog 48 ⟨[vG [vS d_.Name,vL g_d__0 d_.Value,vB d_.Important]]⟩ (vB y16) wz)] H14 (by subst hx15; kernel_rfl) ⟨fun hg => (hS.bk 1 rfl).atD rfl,fun hg => short_Known_ok (g_d__0:=g_d__0) m _ _ (bF (hg.1) hy16) _ (s0im (s0im s0nil (hS.im 4 rfl)) (hS.im 2 rfl)),trivial⟩ fun _ _ H18 hb => ?_
 replace hS:=hS.below hb
 replace hS : SH M X w [eO 44 tyLong y8.1 g9,eI tS want g_want,gE0] _:=hS.sel [0,3,4] rfl
 refine w_if H18 rfl (fun hc => ?c53) (fun hc => ?_)
 case c53 =>
  replace hm:=bT hc hm
  refine s_reg [] [6] [(6,[],vF)] [] H18 (by kernel_rfl) trivial fun _ _ H20 hb => ?_
  replace hS:=hS.below hb
  replace hS : SH M X w [gE0] _:=hS.sel [2] rfl
  apply w_ret
  obtain rfl:=someE hm
  exact retR1 H20 rfl rfl ⟨_,rfl,rfl,(hS.sel [] rfl)⟩
 replace hm:=bF hc hm
 apply w_skip
 obtain ⟨z21,hz,hm_z21⟩:=bindE hm
 refine w_cut (fun a' w' => ∃ s_z21 : Unit,z21 = Sum.inr s_z21 ∧ Fr 72 [] a' ∧ SH M X w [eO 44 tyLong y8.1 g9,eI tS want g_want,gE0] w') ?_ ?_
 ·replace hm:=hz
  refine s_reg [] [1,2,7,9] (fS [1,2,7,9] [vS whole,vL g_want want,vL g9 y8.1,vI 0]) [] H18 (by kernel_rfl) trivial fun _ _ H23 hb => ?_
  replace hS:=hS.below hb
  apply w_block
  refine w_loop (fun kk a' w' => ∃ (v24 : Int),law27_is_L1 m whole want y8 kk v24 = some _ ∧ Fr 72 (fS [1,2,7,9] [vS whole,vL g_want want,vL g9 y8.1,vI v24]) a' ∧ SH M X w [eO 44 tyLong y8.1 g9,eI tS want g_want,gE0] w') ⟨_,0,hm,FrG.keep (ks:=[1,2,7,9]) H23 (by kernel_rfl),hS⟩ ?_
  clear hm H23 hS
  rintro kk _ _ ⟨v24,hm,H,hS⟩
  cases kk with
  | zero => exact noneE hm
  | succ kk =>
   rw [law27_is_L1] at hm
   apply w_seq
   refine s_reg [] [1,2,7,9,33] (fS [1,2,7,9,33] [vS whole,vL g_want want,vL g9 y8.1,vI v24,vB (decide (v24 < (ln y8.1)))]) [] H (by kernel_rfl) trivial fun _ _ H26 hb => ?_
   replace hS:=hS.below hb
   refine w_if H26 rfl (fun hc => ?_) (fun hc => ?c48)
   case c48 =>
    replace hm:=bF hc hm
    apply w_exit rfl
    obtain rfl:=someE hm
    exact ⟨_,rfl,FrG.keep (ks:=[]) H26 (by kernel_rfl),hS⟩
   replace hm:=bT hc hm
   apply w_skip
   apply w_seq
   apply w_block
   obtain ⟨ho28,hm⟩:=chkE hm
   obtain ⟨ho29,hm⟩:=chkE hm
   obtain ⟨x30,hx30,hm⟩:=letE hm
   obtain ⟨ho31,hm⟩:=chkE hm
   obtain ⟨ho32,hm⟩:=chkE hm
   obtain ⟨y33,hy33,hm⟩:=bindE hm
   obtain ⟨y36,hy36,hm⟩:=bindE hm
   obtain ⟨ho37,hm⟩:=chkE hm
   obtain ⟨x38,hx38,hm⟩:=letE hm
   refine s_drawS (base:=(fS [1,2,7,9] [vS whole,vL g_want want,vL g9 y8.1,vI v24])) (L:=[eO 44 tyLong y8.1 g9,eI tS want g_want,gE0]) 36 3 (fun yg27 => [vL g9 y8.1,vI v24,.pointer (some ⟨ab g9.a,ao g9.a + (v24).toNat * 3,none⟩),.pointer (some ⟨ab g9.a,ao g9.a + (v24).toNat * 3,none⟩),vS (gi y8.1 v24).Name,vL g_want want,vI v24,vI (w64 (2 * v24)),.pointer (some ⟨ab g_want.a,ao g_want.a + ((w64 (2 * v24))).toNat * 1,none⟩),vS (gi want (w64 (2 * v24))),vB x30,vB x30,vL g9 y8.1,vI v24,.pointer (some ⟨ab g9.a,ao g9.a + (v24).toNat * 3,none⟩),.pointer (some ⟨ab g9.a,ao g9.a + (v24).toNat * 3 + 1,none⟩),.slice (g9.s (v24).toNat 0).a (((gi y8.1 v24).Value).length) (g9.s (v24).toNat 0).c,vL g_want want,vI v24,vI (w64 (2 * v24)),vI (w64 ((w64 (2 * v24)) + 1)),.pointer (some ⟨ab g_want.a,ao g_want.a + ((w64 ((w64 (2 * v24)) + 1))).toNat * 1,none⟩),vS ((gi want (w64 ((w64 (2 * v24)) + 1)))),.slice (yg27 23 0).a y33.length (yg27 23 0).c,vB y36,vB (!y36),vB (cond x30 true (!y36)),vB (cond x30 true (!y36)),vL g9 y8.1,vI v24,.pointer (some ⟨ab g9.a,ao g9.a + (v24).toNat * 3,none⟩),.pointer (some ⟨ab g9.a,ao g9.a + (v24).toNat * 3 + 2,none⟩),vS (gi y8.1 v24).Whole,vS whole,vB (!(((gi y8.1 v24).Whole) == whole)),vB x38]) (fun yg27 => [[],[],[],[],[],[],[],[],[],[],[],[],[],[],[],[],[],[],[],[],[],[],[],[eO 51 tyValue y33 (yg27 23 0)],[],[],[],[],[],[],[],[],[],[],[],[]]) [[],[],[36],[36],[36],[],[],[],[37],[37],[],[],[],[],[36],[36],[36],[],[],[],[],[37],[37],[],[23,36],[],[],[],[],[],[36],[36],[36],[],[],[]] [[],[],[],[],[],[],[],[],[],[],[],[],[],[],[],[],[],[],[],[],[],[],[],[],[],[],[],[],[],[],[],[],[],[],[],[]] [[0],[1],[0,1,2],[0,1,2,3],[0,1,2,3,4],[5],[6],[6,7],[5,6,7,8],[5,6,7,8,9],[0,1,2,3,4,5,6,7,8,9,10],[0,1,2,3,4,5,6,7,8,9,10,11],[0,1,2,3,4,5,6,7,8,9,10,11,12],[0,1,2,3,4,5,6,7,8,9,10,11,13],[0,1,2,3,4,5,6,7,8,9,10,11,12,13,14],[0,1,2,3,4,5,6,7,8,9,10,11,12,13,14,15],[0,1,2,3,4,5,6,7,8,9,10,11,12,13,14,15,16],[0,1,2,3,4,5,6,7,8,9,10,11,17],[0,1,2,3,4,5,6,7,8,9,10,11,18],[0,1,2,3,4,5,6,7,8,9,10,11,18,19],[0,1,2,3,4,5,6,7,8,9,10,11,18,19,20],[0,1,2,3,4,5,6,7,8,9,10,11,17,18,19,20,21],[0,1,2,3,4,5,6,7,8,9,10,11,17,18,19,20,21,22],[0,1,2,3,4,5,6,7,8,9,10,11,17,18,19,20,21,22,23],[0,1,2,3,4,5,6,7,8,9,10,11,12,13,14,15,16,17,18,19,20,21,22,23,24],[0,1,2,3,4,5,6,7,8,9,10,11,12,13,14,15,16,17,18,19,20,21,22,23,24,25],[0,1,2,3,4,5,6,7,8,9,10,11,12,13,14,15,16,17,18,19,20,21,22,23,24,25,26],[0,1,2,3,4,5,6,7,8,9,10,11,12,13,14,15,16,17,18,19,20,21,22,23,24,25,26,27],[0,1,2,3,4,5,6,7,8,9,10,11,12,13,14,15,16,17,18,19,20,21,22,23,24,25,26,27,28],[0,1,2,3,4,5,6,7,8,9,10,11,12,13,14,15,16,17,18,19,20,21,22,23,24,25,26,27,29],[0,1,2,3,4,5,6,7,8,9,10,11,12,13,14,15,16,17,18,19,20,21,22,23,24,25,26,27,28,29,30],[0,1,2,3,4,5,6,7,8,9,10,11,12,13,14,15,16,17,18,19,20,21,22,23,24,25,26,27,28,29,30,31],[0,1,2,3,4,5,6,7,8,9,10,11,12,13,14,15,16,17,18,19,20,21,22,23,24,25,26,27,28,29,30,31,32],[0,1,2,3,4,5,6,7,8,9,10,11,12,13,14,15,16,17,18,19,20,21,22,23,24,25,26,27,33],[0,1,2,3,4,5,6,7,8,9,10,11,12,13,14,15,16,17,18,19,20,21,22,23,24,25,26,27,28,29,30,31,32,33,34],[0,1,2,3,4,5,6,7,8,9,10,11,12,13,14,15,16,17,18,19,20,21,22,23,24,25,26,27,28,29,30,31,32,33,34,35]] [] (FrG.keep (ks:=[1,2,7,9]) H26 (by kernel_rfl)) (fun _ _ h => by cases h) (by kernel_rfl) hS (by kernel_rfl) rfl rfl (by kernel_rfl) (by kernel_rfl) (by kernel_rfl) ⟨trivial,trivial,trivial,trivial,trivial,trivial,trivial,trivial,trivial,trivial,trivial,trivial,⟨by kernel_rfl,fun _ => congrArg Value.bool ho31⟩,⟨by kernel_rfl,fun _ => congrArg Value.bool ho31⟩,⟨by kernel_rfl,fun _ => congrArg Value.bool ho31⟩,⟨by kernel_rfl,fun _ => congrArg Value.bool ho31⟩,⟨by kernel_rfl,fun _ => congrArg Value.bool ho31⟩,⟨by kernel_rfl,fun _ => congrArg Value.bool ho31⟩,⟨by kernel_rfl,fun _ => congrArg Value.bool ho31⟩,⟨by kernel_rfl,fun _ => congrArg Value.bool ho31⟩,⟨by kernel_rfl,fun _ => congrArg Value.bool ho31⟩,⟨by kernel_rfl,fun _ => congrArg Value.bool ho31⟩,⟨by kernel_rfl,fun _ => congrArg Value.bool ho31⟩,⟨by kernel_rfl,fun _ => congrArg Value.bool ho31⟩,⟨by kernel_rfl,fun _ => congrArg Value.bool ho31⟩,⟨by kernel_rfl,fun _ => congrArg Value.bool ho31⟩,trivial,trivial,⟨by kernel_rfl,fun _ => congrArg Value.bool ho37⟩,⟨by kernel_rfl,fun _ => congrArg Value.bool ho37⟩,⟨by kernel_rfl,fun _ => congrArg Value.bool ho37⟩,⟨by kernel_rfl,fun _ => congrArg Value.bool ho37⟩,⟨by kernel_rfl,fun _ => congrArg Value.bool ho37⟩,⟨by kernel_rfl,fun _ => congrArg Value.bool ho37⟩,⟨by kernel_rfl,fun _ => congrArg Value.bool ho37⟩,trivial,trivial⟩ ?hloc_yg27 ?hstep_yg27 fun _ _ yg27 H40 hv hS => ?hK_yg27
   case hloc_yg27 => exact ⟨(fun _ _ _ _ => ⟨rfl,rfl⟩),(fun _ _ _ _ => ⟨rfl,rfl⟩),(fun _ _ _ _ => ⟨rfl,rfl⟩),(fun _ _ _ _ => ⟨rfl,rfl⟩),(fun _ _ _ _ => ⟨rfl,rfl⟩),(fun _ _ _ _ => ⟨rfl,rfl⟩),(fun _ _ _ _ => ⟨rfl,rfl⟩),(fun _ _ _ _ => ⟨rfl,rfl⟩),(fun _ _ _ _ => ⟨rfl,rfl⟩),(fun _ _ _ _ => ⟨rfl,rfl⟩),(fun _ _ _ _ => ⟨rfl,rfl⟩),(fun _ _ _ _ => ⟨rfl,rfl⟩),(fun _ _ _ _ => ⟨rfl,rfl⟩),(fun _ _ _ _ => ⟨rfl,rfl⟩),(fun _ _ _ _ => ⟨rfl,rfl⟩),(fun _ _ _ _ => ⟨rfl,rfl⟩),(fun _ _ _ _ => ⟨rfl,rfl⟩),(fun _ _ _ _ => ⟨rfl,rfl⟩),(fun _ _ _ _ => ⟨rfl,rfl⟩),(fun _ _ _ _ => ⟨rfl,rfl⟩),(fun _ _ _ _ => ⟨rfl,rfl⟩),(fun _ _ _ _ => ⟨rfl,rfl⟩),(fun _ _ _ _ => ⟨rfl,rfl⟩),(fun _ i g hi => lcG [23] (fun yg27 => (.slice (yg27 23 0).a y33.length (yg27 23 0).c,[eO 51 tyValue y33 (yg27 23 0)])) hi rfl),(fun _ _ _ _ => ⟨rfl,rfl⟩),(fun _ _ _ _ => ⟨rfl,rfl⟩),(fun _ _ _ _ => ⟨rfl,rfl⟩),(fun _ _ _ _ => ⟨rfl,rfl⟩),(fun _ _ _ _ => ⟨rfl,rfl⟩),(fun _ _ _ _ => ⟨rfl,rfl⟩),(fun _ _ _ _ => ⟨rfl,rfl⟩),(fun _ _ _ _ => ⟨rfl,rfl⟩),(fun _ _ _ _ => ⟨rfl,rfl⟩),(fun _ _ _ _ => ⟨rfl,rfl⟩),(fun _ _ _ _ => ⟨rfl,rfl⟩),(fun _ _ _ _ => ⟨rfl,rfl⟩),trivial⟩
   case hstep_yg27 =>
    refine ⟨?_,?_,?_,?_,?_,?_,?_,?_,?_,?_,?_,?_,?_,?_,?_,?_,?_,?_,?_,?_,?_,?_,?_,?_,?_,?_,?_,?_,?_,?_,?_,?_,?_,?_,?_,?_,trivial⟩
    ·intro o ho a w yg27 M Hb hv hO hS
     obtain rfl:=someE ho
     exact Stp.mono (o_evs [] (vL g9 y8.1) none [] Hb rfl (by kernel_rfl) (fun q e => by cases e)) fun _ _ hq => ⟨gL [],fun _ _ => hq.1,(hS.below hq.2.below).sel [] rfl⟩
    ·intro o ho a w yg27 M Hb hv hO hS
     obtain rfl:=someE ho
     exact Stp.mono (o_evs [] (vI v24) none [] Hb rfl (by kernel_rfl) (fun q e => by cases e)) fun _ _ hq => ⟨gL [],fun _ _ => hq.1,(hS.below hq.2.below).sel [] rfl⟩
    ·intro o ho a w yg27 M Hb hv hO hS
     obtain rfl:=someE ho
     exact Stp.mono (o_evs [] (.pointer (some ⟨ab g9.a,ao g9.a + (v24).toNat * 3,none⟩)) (some (fun _ => oka g9.a ∧ 0 ≤ v24 ∧ v24 < ln y8.1)) [] (((Hb).add (hv 0 (by decide) (by decide) 36 rfl)).add (hv 1 (by decide) (by decide) 37 rfl)) rfl (by kernel_rfl) (fun q e => by cases e; exact ((hS.osl 0 rfl).oki ho28))) fun _ _ hq => ⟨gL [],fun _ _ => hq.1,(hS.below hq.2.below).sel [0] rfl⟩
    ·intro o ho a w yg27 M Hb hv hO hS
     obtain rfl:=someE ho
     exact Stp.mono (o_evs [] (.pointer (some ⟨ab g9.a,ao g9.a + (v24).toNat * 3,none⟩)) none [] ((Hb).add (hv 2 (by decide) (by decide) 38 rfl)) rfl (by kernel_rfl) (fun q e => by cases e)) fun _ _ hq => ⟨gL [],fun _ _ => hq.1,(hS.below hq.2.below).sel [0] rfl⟩
    ·intro o ho a w yg27 M Hb hv hO hS
     obtain rfl:=someE ho
     exact Stp.mono (o_evs [(vS (gi y8.1 v24).Name)] (vS (gi y8.1 v24).Name) (some (fun wz => V.at1 ⟨ab g9.a,ao g9.a + (v24).toNat * 3,none⟩ (vS (gi y8.1 v24).Name) wz)) [] ((Hb).add (hv 3 (by decide) (by decide) 39 rfl)) rfl (by kernel_rfl) (fun q e => by cases e; exact ((hS.osl 0 rfl).at1 ho28 0 rfl))) fun _ _ hq => ⟨gL [],fun _ _ => hq.1,(hS.below hq.2.below).sel [0] rfl⟩
    ·intro o ho a w yg27 M Hb hv hO hS
     obtain rfl:=someE ho
     exact Stp.mono (o_evs [] (vL g_want want) none [] Hb rfl (by kernel_rfl) (fun q e => by cases e)) fun _ _ hq => ⟨gL [],fun _ _ => hq.1,(hS.below hq.2.below).sel [] rfl⟩
    ·intro o ho a w yg27 M Hb hv hO hS
     obtain rfl:=someE ho
     exact Stp.mono (o_evs [] (vI v24) none [] Hb rfl (by kernel_rfl) (fun q e => by cases e)) fun _ _ hq => ⟨gL [],fun _ _ => hq.1,(hS.below hq.2.below).sel [] rfl⟩
    ·intro o ho a w yg27 M Hb hv hO hS
     obtain rfl:=someE ho
     exact Stp.mono (o_evs [] (vI (w64 (2 * v24))) none [] ((Hb).add (hv 6 (by decide) (by decide) 42 rfl)) rfl (by kernel_rfl) (fun q e => by cases e)) fun _ _ hq => ⟨gL [],fun _ _ => hq.1,(hS.below hq.2.below).sel [] rfl⟩
    ·intro o ho a w yg27 M Hb hv hO hS
     obtain rfl:=someE ho
     exact Stp.mono (o_evs [] (.pointer (some ⟨ab g_want.a,ao g_want.a + ((w64 (2 * v24))).toNat * 1,none⟩)) (some (fun _ => oka g_want.a ∧ 0 ≤ (w64 (2 * v24)) ∧ (w64 (2 * v24)) < ln want)) [] (((Hb).add (hv 5 (by decide) (by decide) 41 rfl)).add (hv 7 (by decide) (by decide) 43 rfl)) rfl (by kernel_rfl) (fun q e => by cases e; exact ((hS.im 0 rfl).oki ho29))) fun _ _ hq => ⟨gL [],fun _ _ => hq.1,(hS.below hq.2.below).sel [0] rfl⟩
    ·intro o ho a w yg27 M Hb hv hO hS
     obtain rfl:=someE ho
     exact Stp.mono (o_evs [(vS (gi want (w64 (2 * v24))))] (vS (gi want (w64 (2 * v24)))) (some (fun wz => V.at1 ⟨ab g_want.a,ao g_want.a + ((w64 (2 * v24))).toNat * 1,none⟩ (vS (gi want (w64 (2 * v24)))) wz)) [] ((Hb).add (hv 8 (by decide) (by decide) 44 rfl)) rfl (by kernel_rfl) (fun q e => by cases e; exact ((hS.im 0 rfl).at1 ho29 0 rfl))) fun _ _ hq => ⟨gL [],fun _ _ => hq.1,(hS.below hq.2.below).sel [0] rfl⟩
    ·intro o ho a w yg27 M Hb hv hO hS
     obtain rfl:=someE ho
     exact Stp.mono (o_evs [] (vB x30) none [] (((Hb).add (hv 4 (by decide) (by decide) 40 rfl)).add (hv 9 (by decide) (by decide) 45 rfl)) rfl (by subst hx30; kernel_rfl) (fun q e => by cases e)) fun _ _ hq => ⟨gL [],fun _ _ => hq.1,(hS.below hq.2.below).sel [] rfl⟩
    ·intro o ho a w yg27 M Hb hv hO hS
     obtain rfl:=someE ho
     exact Stp.mono (o_evs [] (vB x30) none [] ((Hb).add (hv 10 (by decide) (by decide) 46 rfl)) rfl (by kernel_rfl) (fun q e => by cases e)) fun _ _ hq => ⟨gL [],fun _ _ => hq.1,(hS.below hq.2.below).sel [] rfl⟩
    ·intro o ho a w yg27 M Hb hv hO hS
     obtain rfl:=someE ho
     exact Stp.mono (o_evs [] (vL g9 y8.1) none [] Hb rfl (by kernel_rfl) (fun q e => by cases e)) fun _ _ hq => ⟨gL [],fun _ _ => hq.1,(hS.below hq.2.below).sel [] rfl⟩
    ·intro o ho a w yg27 M Hb hv hO hS
     obtain rfl:=someE ho
     exact Stp.mono (o_evs [] (vI v24) none [] Hb rfl (by kernel_rfl) (fun q e => by cases e)) fun _ _ hq => ⟨gL [],fun _ _ => hq.1,(hS.below hq.2.below).sel [] rfl⟩
    ·intro o ho a w yg27 M Hb hv hO hS
     obtain rfl:=someE ho
     exact Stp.mono (o_evs [] (.pointer (some ⟨ab g9.a,ao g9.a + (v24).toNat * 3,none⟩)) (some (fun _ => oka g9.a ∧ 0 ≤ v24 ∧ v24 < ln y8.1)) [] (((Hb).add (hv 12 (by decide) (by decide) 48 rfl)).add (hv 13 (by decide) (by decide) 49 rfl)) rfl (by kernel_rfl) (fun q e => by cases e; exact ((hS.osl 0 rfl).oki ho28))) fun _ _ hq => ⟨gL [],fun _ _ => hq.1,(hS.below hq.2.below).sel [0] rfl⟩
    ·intro o ho a w yg27 M Hb hv hO hS
     obtain rfl:=someE ho
     exact Stp.mono (o_evs [] (.pointer (some ⟨ab g9.a,ao g9.a + (v24).toNat * 3 + 1,none⟩)) none [] ((Hb).add (hv 14 (by decide) (by decide) 50 rfl)) rfl (by kernel_rfl) (fun q e => by cases e)) fun _ _ hq => ⟨gL [],fun _ _ => hq.1,(hS.below hq.2.below).sel [0] rfl⟩
    ·intro o ho a w yg27 M Hb hv hO hS
     obtain rfl:=someE ho
     exact Stp.mono (o_evs [(.slice (g9.s (v24).toNat 0).a (((gi y8.1 v24).Value).length) (g9.s (v24).toNat 0).c)] (.slice (g9.s (v24).toNat 0).a (((gi y8.1 v24).Value).length) (g9.s (v24).toNat 0).c) (some (fun wz => V.at1 ⟨ab g9.a,ao g9.a + (v24).toNat * 3 + 1,none⟩ (.slice (g9.s (v24).toNat 0).a (((gi y8.1 v24).Value).length) (g9.s (v24).toNat 0).c) wz)) [] ((Hb).add (hv 15 (by decide) (by decide) 51 rfl)) rfl (by kernel_rfl) (fun q e => by cases e; exact ((hS.osl 0 rfl).at1 ho28 1 rfl))) fun _ _ hq => ⟨gL [],fun _ _ => hq.1,(hS.below hq.2.below).sel [0] rfl⟩
    ·intro o ho a w yg27 M Hb hv hO hS
     obtain rfl:=someE ho
     exact Stp.mono (o_evs [] (vL g_want want) none [] Hb rfl (by kernel_rfl) (fun q e => by cases e)) fun _ _ hq => ⟨gL [],fun _ _ => hq.1,(hS.below hq.2.below).sel [] rfl⟩
    ·intro o ho a w yg27 M Hb hv hO hS
     obtain rfl:=someE ho
     exact Stp.mono (o_evs [] (vI v24) none [] Hb rfl (by kernel_rfl) (fun q e => by cases e)) fun _ _ hq => ⟨gL [],fun _ _ => hq.1,(hS.below hq.2.below).sel [] rfl⟩
    ·intro o ho a w yg27 M Hb hv hO hS
     obtain rfl:=someE ho
     exact Stp.mono (o_evs [] (vI (w64 (2 * v24))) none [] ((Hb).add (hv 18 (by decide) (by decide) 54 rfl)) rfl (by kernel_rfl) (fun q e => by cases e)) fun _ _ hq => ⟨gL [],fun _ _ => hq.1,(hS.below hq.2.below).sel [] rfl⟩
    ·intro o ho a w yg27 M Hb hv hO hS
     obtain rfl:=someE ho
     exact Stp.mono (o_evs [] (vI (w64 ((w64 (2 * v24)) + 1))) none [] ((Hb).add (hv 19 (by decide) (by decide) 55 rfl)) rfl (by kernel_rfl) (fun q e => by cases e)) fun _ _ hq => ⟨gL [],fun _ _ => hq.1,(hS.below hq.2.below).sel [] rfl⟩
    ·intro o ho a w yg27 M Hb hv hO hS
     obtain rfl:=someE ho
     exact Stp.mono (o_evs [] (.pointer (some ⟨ab g_want.a,ao g_want.a + ((w64 ((w64 (2 * v24)) + 1))).toNat * 1,none⟩)) (some (fun _ => oka g_want.a ∧ 0 ≤ (w64 ((w64 (2 * v24)) + 1)) ∧ (w64 ((w64 (2 * v24)) + 1)) < ln want)) [] (((Hb).add (hv 17 (by decide) (by decide) 53 rfl)).add (hv 20 (by decide) (by decide) 56 rfl)) rfl (by kernel_rfl) (fun q e => by cases e; exact ((hS.im 0 rfl).oki ho32))) fun _ _ hq => ⟨gL [],fun _ _ => hq.1,(hS.below hq.2.below).sel [0] rfl⟩
    ·intro o ho a w yg27 M Hb hv hO hS
     obtain rfl:=someE ho
     exact Stp.mono (o_evs [(vS ((gi want (w64 ((w64 (2 * v24)) + 1)))))] (vS ((gi want (w64 ((w64 (2 * v24)) + 1))))) (some (fun wz => V.at1 ⟨ab g_want.a,ao g_want.a + ((w64 ((w64 (2 * v24)) + 1))).toNat * 1,none⟩ (vS ((gi want (w64 ((w64 (2 * v24)) + 1))))) wz)) [] ((Hb).add (hv 21 (by decide) (by decide) 57 rfl)) rfl (by kernel_rfl) (fun q e => by cases e; exact ((hS.im 0 rfl).at1 ho32 0 rfl))) fun _ _ hq => ⟨gL [],fun _ _ => hq.1,(hS.below hq.2.below).sel [0] rfl⟩
    ·intro o ho a w yg27 M Hb hv hO hS0
     obtain rfl:=someE ho
     have H : Fr 72 ([(58,[],vS ((gi want (w64 ((w64 (2 * v24)) + 1)))))] ++ (fS [1,2,7,9] [vS whole,vL g_want want,vL g9 y8.1,vI v24])) _:=(Hb).add (hv 22 (by decide) (by decide) 58 rfl)
     obtain ⟨X,hX⟩ : ∃ X,X = fpl []:=⟨_,rfl⟩
     have hS : SH M X w [] w:=by rw [hX]; exact hS0
     have hd:=hS.hand [] [] rfl rfl
     refine Stp.mono (o_callx H rfl rfl (r04_Of_ok m _ _ hy33 _ _ hd)) ?_
     rintro v w2 hq
     obtain ⟨g34,rfl,hq⟩:=hq
     replace hS : SH M X w [eO 51 tyValue y33 g34] _:=hS.join [] [] rfl rfl hq
     rw [hX] at hS
     exact ⟨gL [g34],fun _ _ => rfl,hS.sel [0] rfl⟩
    ·intro o ho a w yg27 M Hb hv hO hS
     obtain rfl:=someE ho
     exact Stp.mono (o_evs [(vB y36)] (vB y36) (some (rB 14 [.slice (g9.s (v24).toNat 0).a (((gi y8.1 v24).Value).length) (g9.s (v24).toNat 0).c,.slice (yg27 23 0).a y33.length (yg27 23 0).c] (vB y36))) [] (((Hb).add (hv 16 (by decide) (by decide) 52 rfl)).add (hv 23 (by decide) (by decide) 59 rfl)) rfl (by kernel_rfl) (fun q e => by cases e; exact (r04_Same_ok (g_a_:=(g9.s (v24).toNat 0)) (g_b_:=(yg27 23 0)) m _ _ _ hy36 _ (s0im (s0im s0nil (hS.osl 0 rfl)) (tyLong_i0 ((hS.osl 1 rfl).el ho28)))))) fun _ _ hq => ⟨gL [],fun _ _ => hq.1,(hS.below hq.2.below).sel [0,1] rfl⟩
    ·intro o ho a w yg27 M Hb hv hO hS
     obtain rfl:=someE ho
     exact Stp.mono (o_evs [] (vB (!y36)) none [] ((Hb).add (hv 24 (by decide) (by decide) 60 rfl)) rfl (by kernel_rfl) (fun q e => by cases e)) fun _ _ hq => ⟨gL [],fun _ _ => hq.1,(hS.below hq.2.below).sel [] rfl⟩
    ·intro o ho a w yg27 M Hb hv hO hS
     obtain rfl:=someE ho
     exact Stp.mono (o_evs [] (vB (cond x30 true (!y36))) none [] (((Hb).add (hv 11 (by decide) (by decide) 47 rfl)).add (hv 25 (by decide) (by decide) 61 rfl)) rfl (by kernel_rfl) (fun q e => by cases e)) fun _ _ hq => ⟨gL [],fun _ _ => hq.1,(hS.below hq.2.below).sel [] rfl⟩
    ·intro o ho a w yg27 M Hb hv hO hS
     obtain rfl:=someE ho
     exact Stp.mono (o_evs [] (vB (cond x30 true (!y36))) none [] ((Hb).add (hv 26 (by decide) (by decide) 62 rfl)) rfl (by kernel_rfl) (fun q e => by cases e)) fun _ _ hq => ⟨gL [],fun _ _ => hq.1,(hS.below hq.2.below).sel [] rfl⟩
    ·intro o ho a w yg27 M Hb hv hO hS
     obtain rfl:=someE ho
     exact Stp.mono (o_evs [] (vL g9 y8.1) none [] Hb rfl (by kernel_rfl) (fun q e => by cases e)) fun _ _ hq => ⟨gL [],fun _ _ => hq.1,(hS.below hq.2.below).sel [] rfl⟩
    ·intro o ho a w yg27 M Hb hv hO hS
     obtain rfl:=someE ho
     exact Stp.mono (o_evs [] (vI v24) none [] Hb rfl (by kernel_rfl) (fun q e => by cases e)) fun _ _ hq => ⟨gL [],fun _ _ => hq.1,(hS.below hq.2.below).sel [] rfl⟩
    ·intro o ho a w yg27 M Hb hv hO hS
     obtain rfl:=someE ho
     exact Stp.mono (o_evs [] (.pointer (some ⟨ab g9.a,ao g9.a + (v24).toNat * 3,none⟩)) (some (fun _ => oka g9.a ∧ 0 ≤ v24 ∧ v24 < ln y8.1)) [] (((Hb).add (hv 28 (by decide) (by decide) 64 rfl)).add (hv 29 (by decide) (by decide) 65 rfl)) rfl (by kernel_rfl) (fun q e => by cases e; exact ((hS.osl 0 rfl).oki ho28))) fun _ _ hq => ⟨gL [],fun _ _ => hq.1,(hS.below hq.2.below).sel [0] rfl⟩
    ·intro o ho a w yg27 M Hb hv hO hS
     obtain rfl:=someE ho
     exact Stp.mono (o_evs [] (.pointer (some ⟨ab g9.a,ao g9.a + (v24).toNat * 3 + 2,none⟩)) none [] ((Hb).add (hv 30 (by decide) (by decide) 66 rfl)) rfl (by kernel_rfl) (fun q e => by cases e)) fun _ _ hq => ⟨gL [],fun _ _ => hq.1,(hS.below hq.2.below).sel [0] rfl⟩
    ·intro o ho a w yg27 M Hb hv hO hS
     obtain rfl:=someE ho
     exact Stp.mono (o_evs [(vS (gi y8.1 v24).Whole)] (vS (gi y8.1 v24).Whole) (some (fun wz => V.at1 ⟨ab g9.a,ao g9.a + (v24).toNat * 3 + 2,none⟩ (vS (gi y8.1 v24).Whole) wz)) [] ((Hb).add (hv 31 (by decide) (by decide) 67 rfl)) rfl (by kernel_rfl) (fun q e => by cases e; exact ((hS.osl 0 rfl).at1 ho28 2 rfl))) fun _ _ hq => ⟨gL [],fun _ _ => hq.1,(hS.below hq.2.below).sel [0] rfl⟩
    ·intro o ho a w yg27 M Hb hv hO hS
     obtain rfl:=someE ho
     exact Stp.mono (o_evs [] (vS whole) none [] Hb rfl (by kernel_rfl) (fun q e => by cases e)) fun _ _ hq => ⟨gL [],fun _ _ => hq.1,(hS.below hq.2.below).sel [] rfl⟩
    ·intro o ho a w yg27 M Hb hv hO hS
     obtain rfl:=someE ho
     exact Stp.mono (o_evs [] (vB (!(((gi y8.1 v24).Whole) == whole))) none [] (((Hb).add (hv 32 (by decide) (by decide) 68 rfl)).add (hv 33 (by decide) (by decide) 69 rfl)) rfl (by kernel_rfl) (fun q e => by cases e)) fun _ _ hq => ⟨gL [],fun _ _ => hq.1,(hS.below hq.2.below).sel [] rfl⟩
    ·intro o ho a w yg27 M Hb hv hO hS
     obtain rfl:=someE ho
     exact Stp.mono (o_evs [] (vB x38) none [] (((Hb).add (hv 27 (by decide) (by decide) 63 rfl)).add (hv 34 (by decide) (by decide) 70 rfl)) rfl (by subst hx38; kernel_rfl) (fun q e => by cases e)) fun _ _ hq => ⟨gL [],fun _ _ => hq.1,(hS.below hq.2.below).sel [] rfl⟩
   have H41 : Fr 72 (fS [71,1,2,7,9] [vB x38,vS whole,vL g_want want,vL g9 y8.1,vI v24]) _:=(FrG.add (FrG.keep (ks:=[1,2,7,9]) H40 (by kernel_rfl)) (hv 35 71 rfl))
   replace hS : SH M X w [eO 51 tyValue y33 (yg27 23 0),eO 44 tyLong y8.1 g9,eI tS want g_want,gE0] _:=hS
   clear hv H40
   generalize yg27 23 0 = g42 at H41 hS
   replace hS : SH M X w [eO 44 tyLong y8.1 g9,eI tS want g_want,gE0] _:=hS.sel [1,2,3] rfl
   refine w_if H41 rfl (fun hc => ?_) (fun hc => ?c47)
   case c47 =>
    replace hm:=bF hc hm
    apply w_skip
    refine w_reg [] [1,2,7,9] (fS [1,2,7,9] [vS whole,vL g_want want,vL g9 y8.1,vI (w64 (v24 + 1))]) [] H41 (by kernel_rfl) trivial fun _ _ H46 hb => ?_
    replace hS:=hS.below hb
    exact ⟨_,Nat.lt_succ_self _,w64 (v24 + 1),hm,FrG.keep (ks:=[1,2,7,9]) H46 (by kernel_rfl),hS⟩
   replace hm:=bT hc hm
   refine s_reg [] [6] [(6,[],vF)] [] H41 (by kernel_rfl) trivial fun _ _ H44 hb => ?_
   replace hS:=hS.below hb
   apply w_ret
   obtain rfl:=someE hm
   have hm:=hm_z21
   obtain rfl:=someE hm
   exact retR1 H44 rfl rfl ⟨_,rfl,rfl,(hS.sel [] rfl)⟩
 ·rintro _ _ ⟨s_z21,hz,H,hS⟩
  subst hz
  replace hm:=sumR hm_z21
  replace hS : SH M X w [gE0] _:=hS.sel [2] rfl
  refine s_reg [] [6] [(6,[],vT)] [] H (by kernel_rfl) trivial fun _ _ H51 hb => ?_
  replace hS:=hS.below hb
  apply w_ret
  obtain rfl:=someE hm
  exact retR1 H51 rfl rfl ⟨_,rfl,rfl,(hS.sel [] rfl)⟩
theorem law27_is_ok {g_d__0 : Gh} {g_want : Gh} (m : Nat) (d_ : TDecl) (whole : Str) (want : List Str) (r : Bool) (hm : law27_is m d_ whole want = some r) (w : World) (hL : S0 F0 [eI tyValue d_.Value g_d__0,eI tS want g_want,gE0] w ∧ fpl [eI tyValue d_.Value g_d__0,eI tS want g_want,gE0] = []) : RetB Tryz.prog 21 ⟨[vG [vS d_.Name,vL g_d__0 d_.Value,vB d_.Important],vS whole,vL g_want want]⟩ (vB r) w:=retB_of hL (Tryz.call21 _) (fun w' h => law27_is_w F0 m   d_ whole want r hm w' h)

theorem law27_none_w {g_d__0 : Gh} (M : Av) (m : Nat) (d_ : TDecl) (want : Int) (r : Bool) (hm : law27_none m d_ want = some r) (w : World) (hS : S0 M [eI tyValue d_.Value g_d__0,gE0] w) : Calls Tryz.prog 23 ⟨[vG [vS d_.Name,vL g_d__0 d_.Value,vB d_.Important],vI want]⟩ w (fun e w' => ∃ v,e = .returned v ∧ v = vB r ∧ SH M (fpl [eI tyValue d_.Value g_d__0,gE0]) w [] w'):=by
 rw [law27_none] at hm
 have hS0 : SH M (fpl [eI tyValue d_.Value g_d__0,gE0]) w [eI tyValue d_.Value g_d__0,gE0] w:=hS
 generalize hX : fpl [eI tyValue d_.Value g_d__0,gE0] = X at hS0 ⊢
 clear hS hX
 have hS:=hS0
 clear hS0
 refine calls_entryP Tryz.func23 rfl Tryz.ntmps23 rfl fun _ H => ?_
 apply w_seq
 apply wl_start
 have hd:=hS.hand [] [0,1] rfl rfl
 refine m_stp [2,1] [(1,[],vI want)] H rfl rfl rfl rfl (o_box [vS d_.Name,vL g_d__0 d_.Value,vB d_.Important] H hd rfl rfl) (fun _ => rfl) fun _ _ v H3 hq => ?_
 obtain ⟨b1,rfl,hq⟩:=hq
 replace hS : SH M X w [eB b1 [vS d_.Name,vL g_d__0 d_.Value,vB d_.Important],eI tyValue d_.Value g_d__0,gE0] _:=hS.join [] [0,1] rfl rfl hq
 refine wl_batch 1 2 [] [1,2] (fS [1,2] [vI want,vP b1]) [] H3 (by decide) (by kernel_rfl) trivial fun _ _ H5 hb => ?_
 replace hS:=hS.below hb
 apply wl_end rfl
 apply w_seq
 apply wl_start
 refine wl_batch 0 1 [(vG [vS d_.Name,vL g_d__0 d_.Value,vB d_.Important])] [1,2,8] (fS [1,2,8] [vI want,vP b1,vG [vS d_.Name,vL g_d__0 d_.Value,vB d_.Important]]) [rN b1 0 [vS d_.Name,vL g_d__0 d_.Value,vB d_.Important]] H5 (by decide) (by kernel_rfl) ⟨((hS.bk 0 rfl).atD rfl),trivial⟩ fun _ _ H7 hb => ?_
 replace hS:=hS.below hb
 obtain ⟨y8,hy8,hm⟩:=bindE hm
 have hd:=hS.hand [1,2] [0,1,2] rfl rfl
 refine m_stp [9,1,2] (fS [1,2] [vI want,vP b1]) H7 rfl rfl rfl rfl (o_callx H7 rfl rfl (short_Expand_ok (g_d__0:=g_d__0) m _ _ hy8 _ _ hd)) (fun _ => rfl) fun _ _ v H12 hq => ?_
 obtain ⟨g9,rfl,hq⟩:=hq
 replace hS : SH M X w [eO 44 tyLong y8.1 g9,eB b1 [vS d_.Name,vL g_d__0 d_.Value,vB d_.Important],eI tyValue d_.Value g_d__0,gE0] _:=hS.join [1,2] [0,1,2] rfl rfl hq
 refine wl_batch 2 7 [] [1,2,5,6] (fS [1,2,5,6] [vI want,vP b1,vL g9 y8.1,vI y8.2]) [] H12 (by decide) (by kernel_rfl) trivial fun _ _ H14 hb => ?_
 replace hS:=hS.below hb
 apply wl_end rfl
 obtain ⟨x15,hx15,hm⟩:=letE hm
 obtain ⟨y16,hy16,hm⟩:=bindE hm
 refine s_reg [(vG [vS d_.Name,vL g_d__0 d_.Value,vB d_.Important]),(vB y16)] [4] [(4,[],vB (cond x15 (!y16) false))] [fun wz => (x15 = true ∧ True → V.atN b1 0 [vS d_.Name,vL g_d__0 d_.Value,vB d_.Important] 0 wz),fun wz => (x15 = true ∧ True → RetB Tryz.prog 48 ⟨[vG [vS d_.Name,vL g_d__0 d_.Value,vB d_.Important]]⟩ (vB y16) wz)] H14 (by subst hx15; kernel_rfl) ⟨fun hg => (hS.bk 1 rfl).atD rfl,fun hg => short_Known_ok (g_d__0:=g_d__0) m _ _ (bT (hg.1) hy16) _ (s0im (s0im s0nil (hS.im 3 rfl)) (hS.im 2 rfl)),trivial⟩ fun _ _ H18 hb => ?_
 replace hS:=hS.below hb
 replace hS : SH M X w [gE0] _:=hS.sel [3] rfl
 apply w_ret
 obtain rfl:=someE hm
 exact retR1 H18 rfl rfl ⟨_,rfl,rfl,(hS.sel [] rfl)⟩
theorem law27_none_ok {g_d__0 : Gh} (m : Nat) (d_ : TDecl) (want : Int) (r : Bool) (hm : law27_none m d_ want = some r) (w : World) (hL : S0 F0 [eI tyValue d_.Value g_d__0,gE0] w ∧ fpl [eI tyValue d_.Value g_d__0,gE0] = []) : RetB Tryz.prog 23 ⟨[vG [vS d_.Name,vL g_d__0 d_.Value,vB d_.Important],vI want]⟩ (vB r) w:=retB_of hL (Tryz.call23 _) (fun w' h => law27_none_w F0 m   d_ want r hm w' h)

theorem short_Part_w {g_l_ : Gh} (M : Av) (m : Nat) (whole : Str) (long : Str) (l_ : List TValue) (r : (List TValue) × Int) (hm : short_Part m whole long l_ = some r) (w : World) (hS : S0 M [eI tyValue l_ g_l_,gE0] w) : Calls Tryz.prog 11 ⟨[vS whole,vS long,vL g_l_ l_]⟩ w (fun e w' => ∃ v,e = .returned v ∧ ∃ (g901 : Gh),v = vW [vL g901 r.1,vI r.2] ∧ SH M (fpl [eI tyValue l_ g_l_,gE0]) w [eO 51 tyValue r.1 g901] w'):=by
 rw [short_Part] at hm
 have hS0 : SH M (fpl [eI tyValue l_ g_l_,gE0]) w [eI tyValue l_ g_l_,gE0] w:=hS
 generalize hX : fpl [eI tyValue l_ g_l_,gE0] = X at hS0 ⊢
 clear hS hX
 have hS:=hS0
 clear hS0
 refine calls_entryP Tryz.func11 rfl Tryz.ntmps11 rfl fun _ H => ?_
 refine s_reg [] [0,1,2] (fS [0,1,2] [vS whole,vS long,vL g_l_ l_]) [] H (by kernel_rfl) trivial fun _ _ H2 hb => ?_
 replace hS:=hS.below hb
 apply w_seq
 obtain ⟨y3,hy3,hm⟩:=bindE hm
 refine s_reg [(vI y3)] [0,1,2,8] (fS [0,1,2,8] [vS whole,vS long,vL g_l_ l_,vI y3]) [rB 34 [vL g_l_ l_] (vI y3)] H2 (by kernel_rfl) ⟨(nest_Check_ok (g_v_:=g_l_) m _ _ hy3 _ (s0im s0nil (hS.im 0 rfl))),trivial⟩ fun _ _ H5 hb => ?_
 replace hS:=hS.below hb
 refine s_reg [] [0,1,2,8,14] (fS [0,1,2,8,14] [vS whole,vS long,vL g_l_ l_,vI y3,vB (y3 != 0)]) [] H5 (by kernel_rfl) trivial fun _ _ H7 hb => ?_
 replace hS:=hS.below hb
 refine w_if H7 rfl (fun hc => ?c53) (fun hc => ?_)
 case c53 =>
  replace hm:=bT hc hm
  refine s_reg [] [6,7] (fS [6,7] [vO,vI y3]) [] H7 (by kernel_rfl) trivial fun _ _ H9 hb => ?_
  replace hS:=hS.below hb
  replace hS : SH M X w [gE0] _:=hS.sel [1] rfl
  apply w_ret
  obtain rfl:=someE hm
  replace hS : SH M X w [eO 51 tyValue ([] : List TValue) (.nil),gE0] _:=hS.addNil 51 tyValue
  exact retR2 H9 rfl rfl rfl ⟨_,rfl,Gh.nil,rfl,(hS.sel [0] rfl)⟩
 replace hm:=bF hc hm
 apply w_skip
 apply w_seq
 apply wl_start
 refine wl_batch 0 1 [] [0,1,2,16] (fS [0,1,2,16] [vS whole,vS long,vL g_l_ l_,vS whole]) [] H7 (by decide) (by kernel_rfl) trivial fun _ _ H12 hb => ?_
 replace hS:=hS.below hb
 obtain ⟨y13,hy13,hm⟩:=bindE hm
 have hd:=hS.hand [] [0,1] rfl rfl
 refine m_stp [17,0,1,2] (fS [0,1,2] [vS whole,vS long,vL g_l_ l_]) H12 rfl rfl rfl rfl (o_callx H12 rfl rfl (short_of_ok 64 _ _ hy13 _ _ hd)) (fun _ => rfl) fun _ _ v H17 hq => ?_
 obtain ⟨g14,rfl,hq⟩:=hq
 replace hS : SH M X w [eO 9 tS y13 g14,eI tyValue l_ g_l_,gE0] _:=hS.join [] [0,1] rfl rfl hq
 obtain ⟨y18,hy18,hm⟩:=bindE hm
 refine wl_batch 2 5 [(vI y18)] [0,2,9] (fS [0,2,9] [vS whole,vL g_l_ l_,vI y18]) [rB 35 [vL g14 y13,vS long] (vI y18)] H17 (by decide) (by kernel_rfl) ⟨(slices_Index_string_string_ok (g_s:=g14) m _ _ _ hy18 _ (s0im s0nil (hS.osl 0 rfl))),trivial⟩ fun _ _ H20 hb => ?_
 replace hS:=hS.below hb
 apply wl_end rfl
 replace hS : SH M X w [eI tyValue l_ g_l_,gE0] _:=hS.sel [1,2] rfl
 apply w_seq
 refine s_reg [] [0,2,9,21] (fS [0,2,9,21] [vS whole,vL g_l_ l_,vI y18,vB (decide (y18 < 0))]) [] H20 (by kernel_rfl) trivial fun _ _ H22 hb => ?_
 replace hS:=hS.below hb
 refine w_if H22 rfl (fun hc => ?c52) (fun hc => ?_)
 case c52 =>
  replace hm:=bT hc hm
  refine s_reg [] [6,7] (fS [6,7] [vO,vI 6]) [] H22 (by kernel_rfl) trivial fun _ _ H24 hb => ?_
  replace hS:=hS.below hb
  replace hS : SH M X w [gE0] _:=hS.sel [1] rfl
  apply w_ret
  obtain rfl:=someE hm
  replace hS : SH M X w [eO 51 tyValue ([] : List TValue) (.nil),gE0] _:=hS.addNil 51 tyValue
  exact retR2 H24 rfl rfl rfl ⟨_,rfl,Gh.nil,rfl,(hS.sel [0] rfl)⟩
 replace hm:=bF hc hm
 apply w_skip
 apply w_seq
 apply wl_start
 refine wl_batch 0 2 [] [9,22,23] (fS [9,22,23] [vI y18,vS whole,vL g_l_ l_]) [] H22 (by decide) (by kernel_rfl) trivial fun _ _ H27 hb => ?_
 replace hS:=hS.below hb
 obtain ⟨y28,hy28,hm⟩:=bindE hm
 have hd:=hS.hand [0,1] [0,1] rfl rfl
 refine m_stp [24,9] [(9,[],vI y18)] H27 rfl rfl rfl rfl (o_callx H27 rfl rfl (short_parts_ok (g_l_:=g_l_) m _ _ _ hy28 _ _ hd)) (fun _ => rfl) fun _ _ v H32 hq => ?_
 obtain ⟨g29,rfl,hq⟩:=hq
 replace hS : SH M X w [eO 22 (Ty.sl tyValue) y28 g29,eI tyValue l_ g_l_,gE0] _:=hS.join [0,1] [0,1] rfl rfl hq
 refine wl_batch 3 4 [] [9,10] (fS [9,10] [vI y18,vL g29 y28]) [] H32 (by decide) (by kernel_rfl) trivial fun _ _ H34 hb => ?_
 replace hS:=hS.below hb
 apply wl_end rfl
 replace hS : SH M X w [eO 22 (Ty.sl tyValue) y28 g29,gE0] _:=hS.sel [0,2] rfl
 apply w_seq
 refine s_reg [] [9,10,27] (fS [9,10,27] [vI y18,vL g29 y28,vB ((ln y28) == 0)]) [] H34 (by kernel_rfl) trivial fun _ _ H36 hb => ?_
 replace hS:=hS.below hb
 refine w_if H36 rfl (fun hc => ?c51) (fun hc => ?_)
 case c51 =>
  replace hm:=bT hc hm
  refine s_reg [] [6,7] (fS [6,7] [vO,vI 12]) [] H36 (by kernel_rfl) trivial fun _ _ H38 hb => ?_
  replace hS:=hS.below hb
  replace hS : SH M X w [gE0] _:=hS.sel [1] rfl
  apply w_ret
  obtain rfl:=someE hm
  replace hS : SH M X w [eO 51 tyValue ([] : List TValue) (.nil),gE0] _:=hS.addNil 51 tyValue
  exact retR2 H38 rfl rfl rfl ⟨_,rfl,Gh.nil,rfl,(hS.sel [0] rfl)⟩
 replace hm:=bF hc hm
 apply w_skip
 apply w_seq
 apply wl_start
 obtain ⟨ho40,hm⟩:=chkE hm
 refine wl_batch 0 4 [(.slice (g29.s (y18).toNat 0).a ((gi y28 y18).length) (g29.s (y18).toNat 0).c)] [31] [(31,[],.slice (g29.s (y18).toNat 0).a ((gi y28 y18).length) (g29.s (y18).toNat 0).c)] [fun _ => oka g29.a ∧ 0 ≤ y18 ∧ y18 < ln y28,fun wz => V.at1 ⟨ab g29.a,ao g29.a + (y18).toNat * 1,none⟩ (.slice (g29.s (y18).toNat 0).a ((gi y28 y18).length) (g29.s (y18).toNat 0).c) wz] H36 (by decide) (by kernel_rfl) ⟨((hS.osl 0 rfl).oki ho40),((hS.osl 0 rfl).at1 ho40 0 rfl),trivial⟩ fun _ _ H42 hb => ?_
 replace hS:=hS.below hb
 replace hS : SH M X w [eI tyValue (gi y28 y18) (g29.s (y18).toNat 0),eO 22 (Ty.sl tyValue) y28 g29,gE0] _:=hS.addIm (sl_inn ((hS.ow 0 rfl).el ho40))
 obtain ⟨y44,hy44,hm⟩:=bindE hm
 have hd:=hS.hand [0] [0,1,2] rfl rfl
 refine m_stp [32] [] H42 rfl rfl rfl rfl (o_callx H42 rfl rfl (short_clone_ok (g_l_:=(g29.s (y18).toNat 0)) m _ _ hy44 _ _ hd)) (fun _ => rfl) fun _ _ v H48 hq => ?_
 obtain ⟨g45,rfl,hq⟩:=hq
 replace hS : SH M X w [eO 51 tyValue y44 g45,eI tyValue (gi y28 y18) (g29.s (y18).toNat 0),eO 22 (Ty.sl tyValue) y28 g29,gE0] _:=hS.join [0] [0,1,2] rfl rfl hq
 refine wl_batch 5 7 [] [6,7] (fS [6,7] [vL g45 y44,vI 0]) [] H48 (by decide) (by kernel_rfl) trivial fun _ _ H50 hb => ?_
 replace hS:=hS.below hb
 apply wl_end rfl
 replace hS : SH M X w [eO 51 tyValue y44 g45,gE0] _:=hS.sel [0,3] rfl
 apply w_ret
 obtain rfl:=someE hm
 exact retR2 H50 rfl rfl rfl ⟨_,rfl,g45,rfl,(hS.sel [0] rfl)⟩
theorem short_Part_ok {g_l_ : Gh} (m : Nat) (whole : Str) (long : Str) (l_ : List TValue) (r : (List TValue) × Int) (hm : short_Part m whole long l_ = some r) (M : Av) (w : World) (hS : S0 M [eI tyValue l_ g_l_,gE0] w) : DoesX Tryz.prog 11 ⟨[vS whole,vS long,vL g_l_ l_]⟩ w (fun v w' => ∃ (g901 : Gh),v = vW [vL g901 r.1,vI r.2] ∧ SH M (fpl [eI tyValue l_ g_l_,gE0]) w [eO 51 tyValue r.1 g901] w'):=⟨Tryz.call11 _,short_Part_w M m   whole long l_ r hm w hS⟩

theorem law27_alive_w  (M : Av) (m : Nat)  (r : Bool) (hm : law27_alive m = some r) (w : World) (hS : S0 M [gE0] w) : Calls Tryz.prog 15 ⟨[]⟩ w (fun e w' => ∃ v,e = .returned v ∧ v = vB r ∧ SH M (fpl [gE0]) w [] w'):=by
 rw [law27_alive] at hm
 have hS0 : SH M (fpl [gE0]) w [gE0] w:=hS
 generalize hX : fpl [gE0] = X at hS0 ⊢
 clear hS hX
 have hS:=hS0
 clear hS0
 refine calls_entryP Tryz.func15 rfl Tryz.ntmps15 rfl fun _ H => ?_
 refine s_reg [] [] [] [] H (by kernel_rfl) trivial fun _ _ H2 hb => ?_
 replace hS:=hS.below hb
 obtain ⟨z3,hz,hm⟩:=bindE hm
 refine w_cut (fun a' w' => Fr 36 [(0,[],vB z3)] a' ∧ SH M X w [gE0] w') ?_ ?_
 ·replace hm:=hz
  apply wl_start
  obtain ⟨y4,hy4,hm⟩:=bindE hm
  have hd:=hS.hand [] [0] rfl rfl
  refine m_stp [1] [] H2 rfl rfl rfl rfl (o_callx H2 rfl rfl (law27_decl_ok m _ _ _ hy4 _ _ hd)) (fun _ => rfl) fun _ _ v H8 hq => ?_
  obtain ⟨g5,rfl,hq⟩:=hq
  replace hS : SH M X w [eO 51 tyValue y4.Value g5,gE0] _:=hS.join [] [0] rfl rfl hq
  have hd:=hS.hand [] [0,1] rfl rfl
  refine m_stp [2,1] [(1,[],vG [vS y4.Name,vL g5 y4.Value,vB y4.Important])] H8 rfl rfl rfl rfl (o_lit (T:=tS) (E:=9) (zv:=vN) [vS [109,97,114,103,105,110,45,116,111,112],vS [49,112,120],vS [109,97,114,103,105,110,45,114,105,103,104,116],vS [97,117,116,111],vS [109,97,114,103,105,110,45,98,111,116,116,111,109],vS [49,112,120],vS [109,97,114,103,105,110,45,108,101,102,116],vS [97,117,116,111]] kL2 [gL [],gL [],gL [],gL [],gL [],gL [],gL [],gL []] _ H8 hd rfl (by kernel_rfl) (by kernel_rfl) (by kernel_rfl) (by kernel_rfl) (by kernel_rfl) (by kernel_rfl) (by kernel_rfl) rfl (InnL.cons trivial (InnL.cons trivial (InnL.cons trivial (InnL.cons trivial (InnL.cons trivial (InnL.cons trivial (InnL.cons trivial (InnL.cons trivial InnL.nil))))))))) (fun _ => rfl) fun _ _ v H12 hq => ?_
  obtain ⟨g9,rfl,hq⟩:=hq
  replace hS : SH M X w [eO 9 tS kL2 g9,eO 51 tyValue y4.Value g5,gE0] _:=hS.join [] [0,1] rfl rfl hq
  obtain ⟨y13,hy13,hm⟩:=bindE hm
  obtain ⟨x14,hx14,hm⟩:=letE hm
  refine wl_batch 2 4 [(vB y13)] [4] [(4,[],vB x14)] [rB 21 [vG [vS y4.Name,vL g5 y4.Value,vB y4.Important],vN,vK g9 8] (vB y13)] H12 (by decide) (by subst hx14; kernel_rfl) ⟨(law27_is_ok (g_d__0:=g5) (g_want:=g9) m _ _ _ _ hy13 _ (s0im (s0im (s0im s0nil (hS.im 2 rfl)) (hS.osl 0 rfl)) (hS.osl 1 rfl))),trivial⟩ fun _ _ H16 hb => ?_
  replace hS:=hS.below hb
  cases x14
  case false =>
   replace hm:=bF rfl hm
   refine m_skipG 4 [5,4] (fS [5,4] [undef,vF]) H16 rfl rfl rfl rfl rfl rfl fun _ H188 => ?_
   refine m_skipG 4 [6,4,5] (fS [6,4,5] [undef,vF,undef]) H188 rfl rfl rfl rfl rfl rfl fun _ H189 => ?_
   refine m_skipG 4 [7,4] (fS [7,4] [undef,vF]) H189 rfl rfl rfl rfl rfl rfl fun _ H190 => ?_
   refine wl_batch 7 9 [] [9] [(9,[],vF)] [] H190 (by decide) (by kernel_rfl) trivial fun _ _ H192 hb => ?_
   replace hS:=hS.below hb
   refine m_skipG 9 [10,9] (fS [10,9] [undef,vF]) H192 rfl rfl rfl rfl rfl rfl fun _ H193 => ?_
   refine m_skipG 9 [11,9,10] (fS [11,9,10] [undef,vF,undef]) H193 rfl rfl rfl rfl rfl rfl fun _ H194 => ?_
   refine m_skipG 9 [12,9] (fS [12,9] [undef,vF]) H194 rfl rfl rfl rfl rfl rfl fun _ H195 => ?_
   refine wl_batch 12 14 [] [14] [(14,[],vF)] [] H195 (by decide) (by kernel_rfl) trivial fun _ _ H197 hb => ?_
   replace hS:=hS.below hb
   refine m_skipG 14 [15,14] (fS [15,14] [undef,vF]) H197 rfl rfl rfl rfl rfl rfl fun _ H198 => ?_
   refine m_skipG 14 [16,14,15] (fS [16,14,15] [undef,vF,undef]) H198 rfl rfl rfl rfl rfl rfl fun _ H199 => ?_
   refine m_skipG 14 [17,14] (fS [17,14] [undef,vF]) H199 rfl rfl rfl rfl rfl rfl fun _ H200 => ?_
   refine wl_batch 17 19 [] [19] [(19,[],vF)] [] H200 (by decide) (by kernel_rfl) trivial fun _ _ H202 hb => ?_
   replace hS:=hS.below hb
   refine m_skipG 19 [20,19] (fS [20,19] [undef,vF]) H202 rfl rfl rfl rfl rfl rfl fun _ H203 => ?_
   refine m_skipG 19 [21,19] (fS [21,19] [undef,vF]) H203 rfl rfl rfl rfl rfl rfl fun _ H204 => ?_
   refine wl_batch 21 23 [] [23] [(23,[],vF)] [] H204 (by decide) (by kernel_rfl) trivial fun _ _ H206 hb => ?_
   replace hS:=hS.below hb
   refine m_skipG 23 [24,23] (fS [24,23] [undef,vF]) H206 rfl rfl rfl rfl rfl rfl fun _ H207 => ?_
   refine m_skipG 23 [25,23] (fS [25,23] [undef,vF]) H207 rfl rfl rfl rfl rfl rfl fun _ H208 => ?_
   refine wl_batch 25 27 [] [27] [(27,[],vF)] [] H208 (by decide) (by kernel_rfl) trivial fun _ _ H210 hb => ?_
   replace hS:=hS.below hb
   refine m_skipG 27 [28,27] (fS [28,27] [undef,vF]) H210 rfl rfl rfl rfl rfl rfl fun _ H211 => ?_
   refine m_skipG 27 [29,27] (fS [29,27] [undef,vF]) H211 rfl rfl rfl rfl rfl rfl fun _ H212 => ?_
   refine wl_batch 29 31 [] [31] [(31,[],vF)] [] H212 (by decide) (by kernel_rfl) trivial fun _ _ H214 hb => ?_
   replace hS:=hS.below hb
   refine m_skipG 31 [32,31] (fS [32,31] [undef,vF]) H214 rfl rfl rfl rfl rfl rfl fun _ H215 => ?_
   refine m_skipG 31 [33,31,32] (fS [33,31,32] [undef,vF,undef]) H215 rfl rfl rfl rfl rfl rfl fun _ H216 => ?_
   refine m_skipG 31 [34,31] (fS [34,31] [undef,vF]) H216 rfl rfl rfl rfl rfl rfl fun _ H217 => ?_
   refine wl_batch 34 36 [] [0] [(0,[],vF)] [] H217 (by decide) (by kernel_rfl) trivial fun _ _ H219 hb => ?_
   replace hS:=hS.below hb
   apply wl_end rfl
   replace hS : SH M X w [gE0] _:=hS.sel [2] rfl
   obtain rfl:=someE hm
   exact ⟨FrG.keep (ks:=[0]) H219 (by kernel_rfl),hS⟩
  replace hm:=bT rfl hm
  obtain ⟨y17,hy17,hm⟩:=bindE hm
  have hd:=hS.hand [] [0,1,2] rfl rfl
  refine m_stpG 4 [5,4] [(4,[],vT)] H16 rfl rfl rfl rfl (o_callx H16 rfl rfl (law27_decl_ok m _ _ _ hy17 _ _ hd)) (fun _ => rfl) fun _ _ v H21 hq => ?_
  obtain ⟨g18,rfl,hq⟩:=hq
  replace hS : SH M X w [eO 51 tyValue y17.Value g18,eO 9 tS kL2 g9,eO 51 tyValue y4.Value g5,gE0] _:=hS.join [] [0,1,2] rfl rfl hq
  have hd:=hS.hand [] [0,1,2,3] rfl rfl
  refine m_stpG 4 [6,4,5] (fS [4,5] [vT,vG [vS y17.Name,vL g18 y17.Value,vB y17.Important]]) H21 rfl rfl rfl rfl (o_lit (T:=tS) (E:=9) (zv:=vN) [vS [109,97,114,103,105,110,45,116,111,112],vS [49,112,120,32,118,97,114,40,45,45,97,41],vS [109,97,114,103,105,110,45,114,105,103,104,116],vS [49,112,120,32,118,97,114,40,45,45,97,41],vS [109,97,114,103,105,110,45,98,111,116,116,111,109],vS [49,112,120,32,118,97,114,40,45,45,97,41],vS [109,97,114,103,105,110,45,108,101,102,116],vS [49,112,120,32,118,97,114,40,45,45,97,41]] kL5 [gL [],gL [],gL [],gL [],gL [],gL [],gL [],gL []] _ H21 hd rfl (by kernel_rfl) (by kernel_rfl) (by kernel_rfl) (by kernel_rfl) (by kernel_rfl) (by kernel_rfl) (by kernel_rfl) rfl (InnL.cons trivial (InnL.cons trivial (InnL.cons trivial (InnL.cons trivial (InnL.cons trivial (InnL.cons trivial (InnL.cons trivial (InnL.cons trivial InnL.nil))))))))) (fun _ => rfl) fun _ _ v H25 hq => ?_
  obtain ⟨g22,rfl,hq⟩:=hq
  replace hS : SH M X w [eO 9 tS kL5 g22,eO 51 tyValue y17.Value g18,eO 9 tS kL2 g9,eO 51 tyValue y4.Value g5,gE0] _:=hS.join [] [0,1,2,3] rfl rfl hq
  obtain ⟨y26,hy26,hm⟩:=bindE hm
  obtain ⟨x27,hx27,hm⟩:=letE hm
  refine wl_batch 6 9 [(vB y26)] [9] [(9,[],vB x27)] [fun wz => (true = true ∧ True → RetB Tryz.prog 21 ⟨[vG [vS y17.Name,vL g18 y17.Value,vB y17.Important],vS [109,97,114,103,105,110],vK g22 8]⟩ (vB y26) wz)] H25 (by decide) (by subst hx27; kernel_rfl) ⟨fun hg => law27_is_ok (g_d__0:=g18) (g_want:=g22) m _ _ _ _ hy26 _ (s0im (s0im (s0im s0nil (hS.im 4 rfl)) (hS.osl 0 rfl)) (hS.osl 1 rfl)),trivial⟩ fun _ _ H29 hb => ?_
  replace hS:=hS.below hb
  cases x27
  case false =>
   replace hm:=bF rfl hm
   refine m_skipG 9 [10,9] (fS [10,9] [undef,vF]) H29 rfl rfl rfl rfl rfl rfl fun _ H161 => ?_
   refine m_skipG 9 [11,9,10] (fS [11,9,10] [undef,vF,undef]) H161 rfl rfl rfl rfl rfl rfl fun _ H162 => ?_
   refine m_skipG 9 [12,9] (fS [12,9] [undef,vF]) H162 rfl rfl rfl rfl rfl rfl fun _ H163 => ?_
   refine wl_batch 12 14 [] [14] [(14,[],vF)] [] H163 (by decide) (by kernel_rfl) trivial fun _ _ H165 hb => ?_
   replace hS:=hS.below hb
   refine m_skipG 14 [15,14] (fS [15,14] [undef,vF]) H165 rfl rfl rfl rfl rfl rfl fun _ H166 => ?_
   refine m_skipG 14 [16,14,15] (fS [16,14,15] [undef,vF,undef]) H166 rfl rfl rfl rfl rfl rfl fun _ H167 => ?_
   refine m_skipG 14 [17,14] (fS [17,14] [undef,vF]) H167 rfl rfl rfl rfl rfl rfl fun _ H168 => ?_
   refine wl_batch 17 19 [] [19] [(19,[],vF)] [] H168 (by decide) (by kernel_rfl) trivial fun _ _ H170 hb => ?_
   replace hS:=hS.below hb
   refine m_skipG 19 [20,19] (fS [20,19] [undef,vF]) H170 rfl rfl rfl rfl rfl rfl fun _ H171 => ?_
   refine m_skipG 19 [21,19] (fS [21,19] [undef,vF]) H171 rfl rfl rfl rfl rfl rfl fun _ H172 => ?_
   refine wl_batch 21 23 [] [23] [(23,[],vF)] [] H172 (by decide) (by kernel_rfl) trivial fun _ _ H174 hb => ?_
   replace hS:=hS.below hb
   refine m_skipG 23 [24,23] (fS [24,23] [undef,vF]) H174 rfl rfl rfl rfl rfl rfl fun _ H175 => ?_
   refine m_skipG 23 [25,23] (fS [25,23] [undef,vF]) H175 rfl rfl rfl rfl rfl rfl fun _ H176 => ?_
   refine wl_batch 25 27 [] [27] [(27,[],vF)] [] H176 (by decide) (by kernel_rfl) trivial fun _ _ H178 hb => ?_
   replace hS:=hS.below hb
   refine m_skipG 27 [28,27] (fS [28,27] [undef,vF]) H178 rfl rfl rfl rfl rfl rfl fun _ H179 => ?_
   refine m_skipG 27 [29,27] (fS [29,27] [undef,vF]) H179 rfl rfl rfl rfl rfl rfl fun _ H180 => ?_
   refine wl_batch 29 31 [] [31] [(31,[],vF)] [] H180 (by decide) (by kernel_rfl) trivial fun _ _ H182 hb => ?_
   replace hS:=hS.below hb
   refine m_skipG 31 [32,31] (fS [32,31] [undef,vF]) H182 rfl rfl rfl rfl rfl rfl fun _ H183 => ?_
   refine m_skipG 31 [33,31,32] (fS [33,31,32] [undef,vF,undef]) H183 rfl rfl rfl rfl rfl rfl fun _ H184 => ?_
   refine m_skipG 31 [34,31] (fS [34,31] [undef,vF]) H184 rfl rfl rfl rfl rfl rfl fun _ H185 => ?_
   refine wl_batch 34 36 [] [0] [(0,[],vF)] [] H185 (by decide) (by kernel_rfl) trivial fun _ _ H187 hb => ?_
   replace hS:=hS.below hb
   apply wl_end rfl
   replace hS : SH M X w [gE0] _:=hS.sel [4] rfl
   obtain rfl:=someE hm
   exact ⟨FrG.keep (ks:=[0]) H187 (by kernel_rfl),hS⟩
  replace hm:=bT rfl hm
  obtain ⟨y30,hy30,hm⟩:=bindE hm
  have hd:=hS.hand [] [0,1,2,3,4] rfl rfl
  refine m_stpG 9 [10,9] [(9,[],vT)] H29 rfl rfl rfl rfl (o_callx H29 rfl rfl (law27_decl_ok m _ _ _ hy30 _ _ hd)) (fun _ => rfl) fun _ _ v H34 hq => ?_
  obtain ⟨g31,rfl,hq⟩:=hq
  replace hS : SH M X w [eO 51 tyValue y30.Value g31,eO 9 tS kL5 g22,eO 51 tyValue y17.Value g18,eO 9 tS kL2 g9,eO 51 tyValue y4.Value g5,gE0] _:=hS.join [] [0,1,2,3,4] rfl rfl hq
  have hd:=hS.hand [] [0,1,2,3,4,5] rfl rfl
  refine m_stpG 9 [11,9,10] (fS [9,10] [vT,vG [vS y30.Name,vL g31 y30.Value,vB y30.Important]]) H34 rfl rfl rfl rfl (o_lit (T:=tS) (E:=9) (zv:=vN) [vS [98,111,114,100,101,114,45,99,111,108,111,114],vS [82,69,68]] kL7 [gL [],gL []] _ H34 hd rfl (by kernel_rfl) (by kernel_rfl) (by kernel_rfl) (by kernel_rfl) (by kernel_rfl) (by kernel_rfl) (by kernel_rfl) rfl (InnL.cons trivial (InnL.cons trivial InnL.nil))) (fun _ => rfl) fun _ _ v H38 hq => ?_
  obtain ⟨g35,rfl,hq⟩:=hq
  replace hS : SH M X w [eO 9 tS kL7 g35,eO 51 tyValue y30.Value g31,eO 9 tS kL5 g22,eO 51 tyValue y17.Value g18,eO 9 tS kL2 g9,eO 51 tyValue y4.Value g5,gE0] _:=hS.join [] [0,1,2,3,4,5] rfl rfl hq
  obtain ⟨y39,hy39,hm⟩:=bindE hm
  obtain ⟨x40,hx40,hm⟩:=letE hm
  refine wl_batch 11 14 [(vB y39)] [14] [(14,[],vB x40)] [fun wz => (true = true ∧ True → RetB Tryz.prog 21 ⟨[vG [vS y30.Name,vL g31 y30.Value,vB y30.Important],vN,vK g35 2]⟩ (vB y39) wz)] H38 (by decide) (by subst hx40; kernel_rfl) ⟨fun hg => law27_is_ok (g_d__0:=g31) (g_want:=g35) m _ _ _ _ hy39 _ (s0im (s0im (s0im s0nil (hS.im 6 rfl)) (hS.osl 0 rfl)) (hS.osl 1 rfl)),trivial⟩ fun _ _ H42 hb => ?_
  replace hS:=hS.below hb
  cases x40
  case false =>
   replace hm:=bF rfl hm
   refine m_skipG 14 [15,14] (fS [15,14] [undef,vF]) H42 rfl rfl rfl rfl rfl rfl fun _ H139 => ?_
   refine m_skipG 14 [16,14,15] (fS [16,14,15] [undef,vF,undef]) H139 rfl rfl rfl rfl rfl rfl fun _ H140 => ?_
   refine m_skipG 14 [17,14] (fS [17,14] [undef,vF]) H140 rfl rfl rfl rfl rfl rfl fun _ H141 => ?_
   refine wl_batch 17 19 [] [19] [(19,[],vF)] [] H141 (by decide) (by kernel_rfl) trivial fun _ _ H143 hb => ?_
   replace hS:=hS.below hb
   refine m_skipG 19 [20,19] (fS [20,19] [undef,vF]) H143 rfl rfl rfl rfl rfl rfl fun _ H144 => ?_
   refine m_skipG 19 [21,19] (fS [21,19] [undef,vF]) H144 rfl rfl rfl rfl rfl rfl fun _ H145 => ?_
   refine wl_batch 21 23 [] [23] [(23,[],vF)] [] H145 (by decide) (by kernel_rfl) trivial fun _ _ H147 hb => ?_
   replace hS:=hS.below hb
   refine m_skipG 23 [24,23] (fS [24,23] [undef,vF]) H147 rfl rfl rfl rfl rfl rfl fun _ H148 => ?_
   refine m_skipG 23 [25,23] (fS [25,23] [undef,vF]) H148 rfl rfl rfl rfl rfl rfl fun _ H149 => ?_
   refine wl_batch 25 27 [] [27] [(27,[],vF)] [] H149 (by decide) (by kernel_rfl) trivial fun _ _ H151 hb => ?_
   replace hS:=hS.below hb
   refine m_skipG 27 [28,27] (fS [28,27] [undef,vF]) H151 rfl rfl rfl rfl rfl rfl fun _ H152 => ?_
   refine m_skipG 27 [29,27] (fS [29,27] [undef,vF]) H152 rfl rfl rfl rfl rfl rfl fun _ H153 => ?_
   refine wl_batch 29 31 [] [31] [(31,[],vF)] [] H153 (by decide) (by kernel_rfl) trivial fun _ _ H155 hb => ?_
   replace hS:=hS.below hb
   refine m_skipG 31 [32,31] (fS [32,31] [undef,vF]) H155 rfl rfl rfl rfl rfl rfl fun _ H156 => ?_
   refine m_skipG 31 [33,31,32] (fS [33,31,32] [undef,vF,undef]) H156 rfl rfl rfl rfl rfl rfl fun _ H157 => ?_
   refine m_skipG 31 [34,31] (fS [34,31] [undef,vF]) H157 rfl rfl rfl rfl rfl rfl fun _ H158 => ?_
   refine wl_batch 34 36 [] [0] [(0,[],vF)] [] H158 (by decide) (by kernel_rfl) trivial fun _ _ H160 hb => ?_
   replace hS:=hS.below hb
   apply wl_end rfl
   replace hS : SH M X w [gE0] _:=hS.sel [6] rfl
   obtain rfl:=someE hm
   exact ⟨FrG.keep (ks:=[0]) H160 (by kernel_rfl),hS⟩
  replace hm:=bT rfl hm
  obtain ⟨y43,hy43,hm⟩:=bindE hm
  have hd:=hS.hand [] [0,1,2,3,4,5,6] rfl rfl
  refine m_stpG 14 [15,14] [(14,[],vT)] H42 rfl rfl rfl rfl (o_callx H42 rfl rfl (law27_decl_ok m _ _ _ hy43 _ _ hd)) (fun _ => rfl) fun _ _ v H47 hq => ?_
  obtain ⟨g44,rfl,hq⟩:=hq
  replace hS : SH M X w [eO 51 tyValue y43.Value g44,eO 9 tS kL7 g35,eO 51 tyValue y30.Value g31,eO 9 tS kL5 g22,eO 51 tyValue y17.Value g18,eO 9 tS kL2 g9,eO 51 tyValue y4.Value g5,gE0] _:=hS.join [] [0,1,2,3,4,5,6] rfl rfl hq
  have hd:=hS.hand [] [0,1,2,3,4,5,6,7] rfl rfl
  refine m_stpG 14 [16,14,15] (fS [14,15] [vT,vG [vS y43.Name,vL g44 y43.Value,vB y43.Important]]) H47 rfl rfl rfl rfl (o_lit (T:=tS) (E:=9) (zv:=vN) [vS [111,117,116,108,105,110,101,45,99,111,108,111,114],vS [117,110,115,101,116]] kL12 [gL [],gL []] _ H47 hd rfl (by kernel_rfl) (by kernel_rfl) (by kernel_rfl) (by kernel_rfl) (by kernel_rfl) (by kernel_rfl) (by kernel_rfl) rfl (InnL.cons trivial (InnL.cons trivial InnL.nil))) (fun _ => rfl) fun _ _ v H51 hq => ?_
  obtain ⟨g48,rfl,hq⟩:=hq
  replace hS : SH M X w [eO 9 tS kL12 g48,eO 51 tyValue y43.Value g44,eO 9 tS kL7 g35,eO 51 tyValue y30.Value g31,eO 9 tS kL5 g22,eO 51 tyValue y17.Value g18,eO 9 tS kL2 g9,eO 51 tyValue y4.Value g5,gE0] _:=hS.join [] [0,1,2,3,4,5,6,7] rfl rfl hq
  obtain ⟨y52,hy52,hm⟩:=bindE hm
  obtain ⟨x53,hx53,hm⟩:=letE hm
  refine wl_batch 16 19 [(vB y52)] [19] [(19,[],vB x53)] [fun wz => (true = true ∧ True → RetB Tryz.prog 21 ⟨[vG [vS y43.Name,vL g44 y43.Value,vB y43.Important],vN,vK g48 2]⟩ (vB y52) wz)] H51 (by decide) (by subst hx53; kernel_rfl) ⟨fun hg => law27_is_ok (g_d__0:=g44) (g_want:=g48) m _ _ _ _ hy52 _ (s0im (s0im (s0im s0nil (hS.im 8 rfl)) (hS.osl 0 rfl)) (hS.osl 1 rfl)),trivial⟩ fun _ _ H55 hb => ?_
  replace hS:=hS.below hb
  cases x53
  case false =>
   replace hm:=bF rfl hm
   refine m_skipG 19 [20,19] (fS [20,19] [undef,vF]) H55 rfl rfl rfl rfl rfl rfl fun _ H122 => ?_
   refine m_skipG 19 [21,19] (fS [21,19] [undef,vF]) H122 rfl rfl rfl rfl rfl rfl fun _ H123 => ?_
   refine wl_batch 21 23 [] [23] [(23,[],vF)] [] H123 (by decide) (by kernel_rfl) trivial fun _ _ H125 hb => ?_
   replace hS:=hS.below hb
   refine m_skipG 23 [24,23] (fS [24,23] [undef,vF]) H125 rfl rfl rfl rfl rfl rfl fun _ H126 => ?_
   refine m_skipG 23 [25,23] (fS [25,23] [undef,vF]) H126 rfl rfl rfl rfl rfl rfl fun _ H127 => ?_
   refine wl_batch 25 27 [] [27] [(27,[],vF)] [] H127 (by decide) (by kernel_rfl) trivial fun _ _ H129 hb => ?_
   replace hS:=hS.below hb
   refine m_skipG 27 [28,27] (fS [28,27] [undef,vF]) H129 rfl rfl rfl rfl rfl rfl fun _ H130 => ?_
   refine m_skipG 27 [29,27] (fS [29,27] [undef,vF]) H130 rfl rfl rfl rfl rfl rfl fun _ H131 => ?_
   refine wl_batch 29 31 [] [31] [(31,[],vF)] [] H131 (by decide) (by kernel_rfl) trivial fun _ _ H133 hb => ?_
   replace hS:=hS.below hb
   refine m_skipG 31 [32,31] (fS [32,31] [undef,vF]) H133 rfl rfl rfl rfl rfl rfl fun _ H134 => ?_
   refine m_skipG 31 [33,31,32] (fS [33,31,32] [undef,vF,undef]) H134 rfl rfl rfl rfl rfl rfl fun _ H135 => ?_
   refine m_skipG 31 [34,31] (fS [34,31] [undef,vF]) H135 rfl rfl rfl rfl rfl rfl fun _ H136 => ?_
   refine wl_batch 34 36 [] [0] [(0,[],vF)] [] H136 (by decide) (by kernel_rfl) trivial fun _ _ H138 hb => ?_
   replace hS:=hS.below hb
   apply wl_end rfl
   replace hS : SH M X w [gE0] _:=hS.sel [8] rfl
   obtain rfl:=someE hm
   exact ⟨FrG.keep (ks:=[0]) H138 (by kernel_rfl),hS⟩
  replace hm:=bT rfl hm
  obtain ⟨y56,hy56,hm⟩:=bindE hm
  have hd:=hS.hand [] [0,1,2,3,4,5,6,7,8] rfl rfl
  refine m_stpG 19 [20,19] [(19,[],vT)] H55 rfl rfl rfl rfl (o_callx H55 rfl rfl (law27_decl_ok m _ _ _ hy56 _ _ hd)) (fun _ => rfl) fun _ _ v H60 hq => ?_
  obtain ⟨g57,rfl,hq⟩:=hq
  replace hS : SH M X w [eO 51 tyValue y56.Value g57,eO 9 tS kL12 g48,eO 51 tyValue y43.Value g44,eO 9 tS kL7 g35,eO 51 tyValue y30.Value g31,eO 9 tS kL5 g22,eO 51 tyValue y17.Value g18,eO 9 tS kL2 g9,eO 51 tyValue y4.Value g5,gE0] _:=hS.join [] [0,1,2,3,4,5,6,7,8] rfl rfl hq
  obtain ⟨y61,hy61,hm⟩:=bindE hm
  obtain ⟨x62,hx62,hm⟩:=letE hm
  refine wl_batch 20 23 [(vB y61)] [23] [(23,[],vB x62)] [fun wz => (true = true ∧ True → RetB Tryz.prog 23 ⟨[vG [vS y56.Name,vL g57 y56.Value,vB y56.Important],vI 12]⟩ (vB y61) wz)] H60 (by decide) (by subst hx62; kernel_rfl) ⟨fun hg => law27_none_ok (g_d__0:=g57) m _ _ _ hy61 _ (s0im (s0im s0nil (hS.im 9 rfl)) (hS.osl 0 rfl)),trivial⟩ fun _ _ H64 hb => ?_
  replace hS:=hS.below hb
  cases x62
  case false =>
   replace hm:=bF rfl hm
   refine m_skipG 23 [24,23] (fS [24,23] [undef,vF]) H64 rfl rfl rfl rfl rfl rfl fun _ H109 => ?_
   refine m_skipG 23 [25,23] (fS [25,23] [undef,vF]) H109 rfl rfl rfl rfl rfl rfl fun _ H110 => ?_
   refine wl_batch 25 27 [] [27] [(27,[],vF)] [] H110 (by decide) (by kernel_rfl) trivial fun _ _ H112 hb => ?_
   replace hS:=hS.below hb
   refine m_skipG 27 [28,27] (fS [28,27] [undef,vF]) H112 rfl rfl rfl rfl rfl rfl fun _ H113 => ?_
   refine m_skipG 27 [29,27] (fS [29,27] [undef,vF]) H113 rfl rfl rfl rfl rfl rfl fun _ H114 => ?_
   refine wl_batch 29 31 [] [31] [(31,[],vF)] [] H114 (by decide) (by kernel_rfl) trivial fun _ _ H116 hb => ?_
   replace hS:=hS.below hb
   refine m_skipG 31 [32,31] (fS [32,31] [undef,vF]) H116 rfl rfl rfl rfl rfl rfl fun _ H117 => ?_
   refine m_skipG 31 [33,31,32] (fS [33,31,32] [undef,vF,undef]) H117 rfl rfl rfl rfl rfl rfl fun _ H118 => ?_
   refine m_skipG 31 [34,31] (fS [34,31] [undef,vF]) H118 rfl rfl rfl rfl rfl rfl fun _ H119 => ?_
   refine wl_batch 34 36 [] [0] [(0,[],vF)] [] H119 (by decide) (by kernel_rfl) trivial fun _ _ H121 hb => ?_
   replace hS:=hS.below hb
   apply wl_end rfl
   replace hS : SH M X w [gE0] _:=hS.sel [9] rfl
   obtain rfl:=someE hm
   exact ⟨FrG.keep (ks:=[0]) H121 (by kernel_rfl),hS⟩
  replace hm:=bT rfl hm
  obtain ⟨y65,hy65,hm⟩:=bindE hm
  have hd:=hS.hand [] [0,1,2,3,4,5,6,7,8,9] rfl rfl
  refine m_stpG 23 [24,23] [(23,[],vT)] H64 rfl rfl rfl rfl (o_callx H64 rfl rfl (law27_decl_ok m _ _ _ hy65 _ _ hd)) (fun _ => rfl) fun _ _ v H69 hq => ?_
  obtain ⟨g66,rfl,hq⟩:=hq
  replace hS : SH M X w [eO 51 tyValue y65.Value g66,eO 51 tyValue y56.Value g57,eO 9 tS kL12 g48,eO 51 tyValue y43.Value g44,eO 9 tS kL7 g35,eO 51 tyValue y30.Value g31,eO 9 tS kL5 g22,eO 51 tyValue y17.Value g18,eO 9 tS kL2 g9,eO 51 tyValue y4.Value g5,gE0] _:=hS.join [] [0,1,2,3,4,5,6,7,8,9] rfl rfl hq
  obtain ⟨y70,hy70,hm⟩:=bindE hm
  obtain ⟨x71,hx71,hm⟩:=letE hm
  refine wl_batch 24 27 [(vB y70)] [27] [(27,[],vB x71)] [fun wz => (true = true ∧ True → RetB Tryz.prog 23 ⟨[vG [vS y65.Name,vL g66 y65.Value,vB y65.Important],vI 12]⟩ (vB y70) wz)] H69 (by decide) (by subst hx71; kernel_rfl) ⟨fun hg => law27_none_ok (g_d__0:=g66) m _ _ _ hy70 _ (s0im (s0im s0nil (hS.im 10 rfl)) (hS.osl 0 rfl)),trivial⟩ fun _ _ H73 hb => ?_
  replace hS:=hS.below hb
  cases x71
  case false =>
   replace hm:=bF rfl hm
   refine m_skipG 27 [28,27] (fS [28,27] [undef,vF]) H73 rfl rfl rfl rfl rfl rfl fun _ H100 => ?_
   refine m_skipG 27 [29,27] (fS [29,27] [undef,vF]) H100 rfl rfl rfl rfl rfl rfl fun _ H101 => ?_
   refine wl_batch 29 31 [] [31] [(31,[],vF)] [] H101 (by decide) (by kernel_rfl) trivial fun _ _ H103 hb => ?_
   replace hS:=hS.below hb
   refine m_skipG 31 [32,31] (fS [32,31] [undef,vF]) H103 rfl rfl rfl rfl rfl rfl fun _ H104 => ?_
   refine m_skipG 31 [33,31,32] (fS [33,31,32] [undef,vF,undef]) H104 rfl rfl rfl rfl rfl rfl fun _ H105 => ?_
   refine m_skipG 31 [34,31] (fS [34,31] [undef,vF]) H105 rfl rfl rfl rfl rfl rfl fun _ H106 => ?_
   refine wl_batch 34 36 [] [0] [(0,[],vF)] [] H106 (by decide) (by kernel_rfl) trivial fun _ _ H108 hb => ?_
   replace hS:=hS.below hb
   apply wl_end rfl
   replace hS : SH M X w [gE0] _:=hS.sel [10] rfl
   obtain rfl:=someE hm
   exact ⟨FrG.keep (ks:=[0]) H108 (by kernel_rfl),hS⟩
  replace hm:=bT rfl hm
  obtain ⟨y74,hy74,hm⟩:=bindE hm
  have hd:=hS.hand [] [0,1,2,3,4,5,6,7,8,9,10] rfl rfl
  refine m_stpG 27 [28,27] [(27,[],vT)] H73 rfl rfl rfl rfl (o_callx H73 rfl rfl (law27_decl_ok m _ _ _ hy74 _ _ hd)) (fun _ => rfl) fun _ _ v H78 hq => ?_
  obtain ⟨g75,rfl,hq⟩:=hq
  replace hS : SH M X w [eO 51 tyValue y74.Value g75,eO 51 tyValue y65.Value g66,eO 51 tyValue y56.Value g57,eO 9 tS kL12 g48,eO 51 tyValue y43.Value g44,eO 9 tS kL7 g35,eO 51 tyValue y30.Value g31,eO 9 tS kL5 g22,eO 51 tyValue y17.Value g18,eO 9 tS kL2 g9,eO 51 tyValue y4.Value g5,gE0] _:=hS.join [] [0,1,2,3,4,5,6,7,8,9,10] rfl rfl hq
  obtain ⟨y79,hy79,hm⟩:=bindE hm
  obtain ⟨x80,hx80,hm⟩:=letE hm
  refine wl_batch 28 31 [(vB y79)] [31] [(31,[],vB x80)] [fun wz => (true = true ∧ True → RetB Tryz.prog 23 ⟨[vG [vS y74.Name,vL g75 y74.Value,vB y74.Important],vI 12]⟩ (vB y79) wz)] H78 (by decide) (by subst hx80; kernel_rfl) ⟨fun hg => law27_none_ok (g_d__0:=g75) m _ _ _ hy79 _ (s0im (s0im s0nil (hS.im 11 rfl)) (hS.osl 0 rfl)),trivial⟩ fun _ _ H82 hb => ?_
  replace hS:=hS.below hb
  cases x80
  case false =>
   replace hm:=bF rfl hm
   refine m_skipG 31 [32,31] (fS [32,31] [undef,vF]) H82 rfl rfl rfl rfl rfl rfl fun _ H95 => ?_
   refine m_skipG 31 [33,31,32] (fS [33,31,32] [undef,vF,undef]) H95 rfl rfl rfl rfl rfl rfl fun _ H96 => ?_
   refine m_skipG 31 [34,31] (fS [34,31] [undef,vF]) H96 rfl rfl rfl rfl rfl rfl fun _ H97 => ?_
   refine wl_batch 34 36 [] [0] [(0,[],vF)] [] H97 (by decide) (by kernel_rfl) trivial fun _ _ H99 hb => ?_
   replace hS:=hS.below hb
   apply wl_end rfl
   replace hS : SH M X w [gE0] _:=hS.sel [11] rfl
   obtain rfl:=someE hm
   exact ⟨FrG.keep (ks:=[0]) H99 (by kernel_rfl),hS⟩
  replace hm:=bT rfl hm
  obtain ⟨y83,hy83,hm⟩:=bindE hm
  have hd:=hS.hand [] [0,1,2,3,4,5,6,7,8,9,10,11] rfl rfl
  refine m_stpG 31 [32,31] [(31,[],vT)] H82 rfl rfl rfl rfl (o_callx H82 rfl rfl (law27_decl_ok m _ _ _ hy83 _ _ hd)) (fun _ => rfl) fun _ _ v H87 hq => ?_
  obtain ⟨g84,rfl,hq⟩:=hq
  replace hS : SH M X w [eO 51 tyValue y83.Value g84,eO 51 tyValue y74.Value g75,eO 51 tyValue y65.Value g66,eO 51 tyValue y56.Value g57,eO 9 tS kL12 g48,eO 51 tyValue y43.Value g44,eO 9 tS kL7 g35,eO 51 tyValue y30.Value g31,eO 9 tS kL5 g22,eO 51 tyValue y17.Value g18,eO 9 tS kL2 g9,eO 51 tyValue y4.Value g5,gE0] _:=hS.join [] [0,1,2,3,4,5,6,7,8,9,10,11] rfl rfl hq
  have hd:=hS.hand [] [0,1,2,3,4,5,6,7,8,9,10,11,12] rfl rfl
  refine m_stpG 31 [33,31,32] (fS [31,32] [vT,vG [vS y83.Name,vL g84 y83.Value,vB y83.Important]]) H87 rfl rfl rfl rfl (o_lit (T:=tS) (E:=9) (zv:=vN) [vS [45,45,120],vN] ([[45,45,120],[]] : List Str) [gL [],gL []] _ H87 hd rfl (by kernel_rfl) (by kernel_rfl) (by kernel_rfl) (by kernel_rfl) (by kernel_rfl) (by kernel_rfl) (by kernel_rfl) rfl (InnL.cons trivial (InnL.cons trivial InnL.nil))) (fun _ => rfl) fun _ _ v H91 hq => ?_
  obtain ⟨g88,rfl,hq⟩:=hq
  replace hS : SH M X w [eO 9 tS ([[45,45,120],[]] : List Str) g88,eO 51 tyValue y83.Value g84,eO 51 tyValue y74.Value g75,eO 51 tyValue y65.Value g66,eO 51 tyValue y56.Value g57,eO 9 tS kL12 g48,eO 51 tyValue y43.Value g44,eO 9 tS kL7 g35,eO 51 tyValue y30.Value g31,eO 9 tS kL5 g22,eO 51 tyValue y17.Value g18,eO 9 tS kL2 g9,eO 51 tyValue y4.Value g5,gE0] _:=hS.join [] [0,1,2,3,4,5,6,7,8,9,10,11,12] rfl rfl hq
  obtain ⟨y92,hy92,hm⟩:=bindE hm
  refine wl_batch 33 36 [(vB y92)] [0] [(0,[],vB y92)] [fun wz => (true = true ∧ True → RetB Tryz.prog 21 ⟨[vG [vS y83.Name,vL g84 y83.Value,vB y83.Important],vN,vK g88 2]⟩ (vB y92) wz)] H91 (by decide) (by kernel_rfl) ⟨fun hg => law27_is_ok (g_d__0:=g84) (g_want:=g88) m _ _ _ _ hy92 _ (s0im (s0im (s0im s0nil (hS.im 13 rfl)) (hS.osl 0 rfl)) (hS.osl 1 rfl)),trivial⟩ fun _ _ H94 hb => ?_
  replace hS:=hS.below hb
  apply wl_end rfl
  replace hS : SH M X w [gE0] _:=hS.sel [13] rfl
  obtain rfl:=someE hm
  exact ⟨FrG.keep (ks:=[0]) H94 (by kernel_rfl),hS⟩
 ·rintro _ _ ⟨H,hS⟩
  apply w_ret
  obtain rfl:=someE hm
  exact retR1 H rfl rfl ⟨_,rfl,rfl,(hS.sel [] rfl)⟩
theorem law27_alive_ok  (m : Nat)  (r : Bool) (hm : law27_alive m = some r) (w : World) (hL : S0 F0 [gE0] w ∧ fpl [gE0] = []) : RetB Tryz.prog 15 ⟨[]⟩ (vB r) w:=retB_of hL (Tryz.call15 _) (fun w' h => law27_alive_w F0 m    r hm w' h)

end Go.Proofs.YtpgflfjmjppmeaaGreatDoor
