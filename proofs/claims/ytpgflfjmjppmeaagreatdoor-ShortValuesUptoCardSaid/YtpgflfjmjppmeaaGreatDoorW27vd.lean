/-
  What the Go functions compute, as Lean functions, and that a call returns just that. Printed by a program.
-/
import Derived.Test.YtpgflfjmjppmeaaGreatDoorRows
import Derived.Test.YtpgflfjmjppmeaaGreatDoorX
import Derived.Test.YtpgflfjmjppmeaaGreatDoorMP
import Derived.Test.YtpgflfjmjppmeaaGreatDoorCO
import Derived.Test.YtpgflfjmjppmeaaGreatDoorM
import Derived.Test.YtpgflfjmjppmeaaGreatDoorW27vc
set_option linter.unusedVariables false
set_option maxRecDepth 20000
set_option maxHeartbeats 4000000
namespace Go.Proofs.YtpgflfjmjppmeaaGreatDoor
open Go.V Go.RowKit

theorem law27_ShortValues_w {g_d__0 : Gh} (M : Av) (m : Nat) (d_ : TDecl) (r : Bool) (hm : law27_ShortValues m d_ = some r) (w : World) (hS : S0 M [eI tyValue d_.Value g_d__0,gE0] w) : Calls Tryz.prog 7 ⟨[vG [vS d_.Name,vL g_d__0 d_.Value,vB d_.Important]]⟩ w (fun e w' => ∃ v,e = .returned v ∧ v = vB r ∧ SH M (fpl [eI tyValue d_.Value g_d__0,gE0]) w [] w'):=by
 rw [law27_ShortValues] at hm
 have hS0 : SH M (fpl [eI tyValue d_.Value g_d__0,gE0]) w [eI tyValue d_.Value g_d__0,gE0] w:=hS
 generalize hX : fpl [eI tyValue d_.Value g_d__0,gE0] = X at hS0 ⊢
 clear hS hX
 have hS:=hS0
 clear hS0
 refine calls_entryP Tryz.func7 rfl Tryz.ntmps7 rfl fun _ H => ?_
 apply w_seq
 apply wl_start
 have hd:=hS.hand [] [0,1] rfl rfl
 refine m_stp [1] [] H rfl rfl rfl rfl (o_box [vS d_.Name,vL g_d__0 d_.Value,vB d_.Important] H hd rfl rfl) (fun _ => rfl) fun _ _ v H3 hq => ?_
 clear H hd
 obtain ⟨b1,rfl,hq⟩:=hq
 replace hS : SH M X w [eB b1 [vS d_.Name,vL g_d__0 d_.Value,vB d_.Important],eI tyValue d_.Value g_d__0,gE0] _:=hS.join [] [0,1] rfl rfl hq
 clear hq
 refine wl_batch 1 2 [] [1] [(1,[],vP b1)] [] H3 (by decide) (by kernel_rfl) trivial fun _ _ H5 hb => ?_
 replace hS:=hS.below hb
 clear H3 hb
 apply wl_end rfl
 obtain ⟨y6,hy6,hm⟩:=bindE hm
 refine s_reg [(vB y6)] [1,3] (fS [1,3] [vP b1,vB y6]) [rB 15 [] (vB y6)] H5 (by kernel_rfl) ⟨(law27_alive_ok 300 _ hy6 _ (s0im s0nil (hS.im 2 rfl))),trivial⟩ fun _ _ H8 hb => ?_
 replace hS:=hS.below hb
 clear H5 hb
 apply w_seq
 obtain ⟨y9,hy9,hm⟩:=bindE hm
 obtain ⟨x10,hx10,hm⟩:=letE hm
 refine s_reg [(vL g_d__0 d_.Value),(vB y9),(vS d_.Name)] [1,3,26] (fS [1,3,26] [vP b1,vB y6,vB (cond x10 true (!y6))]) [rA b1 1 (vL g_d__0 d_.Value),rB 8 [vL g_d__0 d_.Value] (vB y9),fun wz => (y9 = false ∧ True → V.at1 ⟨b1,0,none⟩ (vS d_.Name) wz)] H8 (by subst hx10; kernel_rfl) ⟨((hS.bk 0 rfl).at1 rfl),(r04_Great_ok (g_v_:=g_d__0) m _ _ hy9 _ (s0im s0nil (hS.im 1 rfl))),fun hg => (hS.bk 0 rfl).at1 rfl,trivial⟩ fun _ _ H12 hb => ?_
 replace hS:=hS.below hb
 clear H8 hb
 refine w_if H12 rfl (fun hc => ?c99) (fun hc => ?_)
 case c99 =>
  replace hm:=bT hc hm
  refine s_reg [] [2] [(2,[],vB y6)] [] H12 (by kernel_rfl) trivial fun _ _ H14 hb => ?_
  replace hS:=hS.below hb
  clear H12 hb
  replace hS : SH M X w [gE0] _:=hS.sel [2] rfl
  apply w_ret
  obtain rfl:=someE hm
  exact retR1 H14 rfl rfl ⟨_,rfl,rfl,(hS.sel [] rfl)⟩
 replace hm:=bF hc hm
 apply w_skip
 apply w_seq
 apply wl_start
 refine wl_batch 0 1 [(vG [vS d_.Name,vL g_d__0 d_.Value,vB d_.Important])] [1,3,29] (fS [1,3,29] [vP b1,vB y6,vG [vS d_.Name,vL g_d__0 d_.Value,vB d_.Important]]) [rN b1 0 [vS d_.Name,vL g_d__0 d_.Value,vB d_.Important]] H12 (by decide) (by kernel_rfl) ⟨((hS.bk 0 rfl).atD rfl),trivial⟩ fun _ _ H16 hb => ?_
 replace hS:=hS.below hb
 clear H12 hb
 obtain ⟨y17,hy17,hm⟩:=bindE hm
 have hd:=hS.hand [1,2] [0,1,2] rfl rfl
 refine m_stp [30,1,3] (fS [1,3] [vP b1,vB y6]) H16 rfl rfl rfl rfl (o_callx H16 rfl rfl (short_Expand_ok (g_d__0:=g_d__0) m _ _ hy17 _ _ hd)) (fun _ => rfl) fun _ _ v H21 hq => ?_
 clear H16 hd
 obtain ⟨g18,rfl,hq⟩:=hq
 replace hS : SH M X w [eO 44 tyLong y17.1 g18,eB b1 [vS d_.Name,vL g_d__0 d_.Value,vB d_.Important],eI tyValue d_.Value g_d__0,gE0] _:=hS.join [1,2] [0,1,2] rfl rfl hq
 clear hq
 refine wl_batch 2 7 [] [1,3,4,5] (fS [1,3,4,5] [vP b1,vB y6,vL g18 y17.1,vI y17.2]) [] H21 (by decide) (by kernel_rfl) trivial fun _ _ H23 hb => ?_
 replace hS:=hS.below hb
 clear H21 hb
 apply wl_end rfl
 apply w_seq
 refine s_reg [] [1,3,4,34] (fS [1,3,4,34] [vP b1,vB y6,vL g18 y17.1,vB (y17.2 != 0)]) [] H23 (by kernel_rfl) trivial fun _ _ H25 hb => ?_
 replace hS:=hS.below hb
 clear H23 hb
 refine w_if H25 rfl (fun hc => ?c98) (fun hc => ?_)
 case c98 =>
  replace hm:=bT hc hm
  refine s_reg [] [2] [(2,[],vB y6)] [] H25 (by kernel_rfl) trivial fun _ _ H27 hb => ?_
  replace hS:=hS.below hb
  clear H25 hb
  replace hS : SH M X w [gE0] _:=hS.sel [3] rfl
  apply w_ret
  obtain rfl:=someE hm
  exact retR1 H27 rfl rfl ⟨_,rfl,rfl,(hS.sel [] rfl)⟩
 replace hm:=bF hc hm
 apply w_skip
 obtain ⟨z28,hz,hm_z28⟩:=bindE hm
 refine w_cut (fun a' w' => ∃ s_z28 : Unit,z28 = Sum.inr s_z28 ∧ Fr 142 [(3,[],vB y6)] a' ∧ SH M X w [eO 44 tyLong y17.1 g18,eB b1 [vS d_.Name,vL g_d__0 d_.Value,vB d_.Important],eI tyValue d_.Value g_d__0,gE0] w') ?_ ?_
 ·replace hm:=hz
  refine s_reg [] [1,3,4,6] (fS [1,3,4,6] [vP b1,vB y6,vL g18 y17.1,vI 0]) [] H25 (by kernel_rfl) trivial fun _ _ H30 hb => ?_
  replace hS:=hS.below hb
  clear H25 hb
  apply w_block
  refine w_loop (fun kk a' w' => ∃ (v31 : Int),law27_ShortValues_L1 m d_ y17 kk v31 = some _ ∧ Fr 142 (fS [1,3,4,6] [vP b1,vB y6,vL g18 y17.1,vI v31]) a' ∧ SH M X w [eO 44 tyLong y17.1 g18,eB b1 [vS d_.Name,vL g_d__0 d_.Value,vB d_.Important],eI tyValue d_.Value g_d__0,gE0] w') ⟨_,0,hm,FrG.keep (ks:=[1,3,4,6]) H30 (by kernel_rfl),hS⟩ ?_
  clear hm H30 hS
  rintro kk _ _ ⟨v31,hm,H,hS⟩
  cases kk with
  | zero => exact noneE hm
  | succ kk =>
   rw [law27_ShortValues_L1] at hm
   apply w_seq
   refine s_reg [] [1,3,4,6,39] (fS [1,3,4,6,39] [vP b1,vB y6,vL g18 y17.1,vI v31,vB (decide (v31 < (ln y17.1)))]) [] H (by kernel_rfl) trivial fun _ _ H33 hb => ?_
   replace hS:=hS.below hb
   clear H hb
   refine w_if H33 rfl (fun hc => ?_) (fun hc => ?c93)
   case c93 =>
    replace hm:=bF hc hm
    apply w_exit rfl
    obtain rfl:=someE hm
    exact ⟨_,rfl,FrG.keep (ks:=[3]) H33 (by kernel_rfl),hS⟩
   replace hm:=bT hc hm
   apply w_skip
   obtain ⟨z34,hz,hm_z34⟩:=bindE hm
   refine w_cut (fun a' w' => ∃ s_z34 : Unit,z34 = Sum.inr s_z34 ∧ Fr 142 (fS [1,3,4,6] [vP b1,vB y6,vL g18 y17.1,vI v31]) a' ∧ SH M X w [eO 44 tyLong y17.1 g18,eB b1 [vS d_.Name,vL g_d__0 d_.Value,vB d_.Important],eI tyValue d_.Value g_d__0,gE0] w') ?_ ?_
   ·replace hm:=hz
    apply w_block
    apply w_seq
    obtain ⟨ho35,hm⟩:=chkE hm
    obtain ⟨y36,hy36,hm⟩:=bindE hm
    refine s_reg [(vS (gi y17.1 v31).Name),(vB y36)] [1,3,4,6,47] (fS [1,3,4,6,47] [vP b1,vB y6,vL g18 y17.1,vI v31,vB y36]) [fun _ => oka g18.a ∧ 0 ≤ v31 ∧ v31 < ln y17.1,fun wz => V.at1 ⟨ab g18.a,ao g18.a + (v31).toNat * 3,none⟩ (vS (gi y17.1 v31).Name) wz,rB 26 [vS (gi y17.1 v31).Name] (vB y36)] H33 (by kernel_rfl) ⟨((hS.osl 0 rfl).oki ho35),((hS.osl 0 rfl).at1 ho35 0 rfl),((props_Custom_ok _ _ hy36).b),trivial⟩ fun _ _ H38 hb => ?_
    replace hS:=hS.below hb
    clear H33 hb
    refine w_if H38 rfl (fun hc => ?c89) (fun hc => ?_)
    case c89 =>
     replace hm:=bT hc hm
     apply w_seq
     obtain ⟨y39,hy39,hm⟩:=bindE hm
     refine s_draw [(.slice (g18.s (v31).toNat 0).a (((gi y17.1 v31).Value).length) (g18.s (v31).toNat 0).c),(vL g_d__0 d_.Value),(vB y39)] [1,3,4,6,56] (fS [1,3,4,6,56] [vP b1,vB y6,vL g18 y17.1,vI v31,vB (!y39)]) [fun _ => oka g18.a ∧ 0 ≤ v31 ∧ v31 < ln y17.1,fun wz => V.at1 ⟨ab g18.a,ao g18.a + (v31).toNat * 3 + 1,none⟩ (.slice (g18.s (v31).toNat 0).a (((gi y17.1 v31).Value).length) (g18.s (v31).toNat 0).c) wz,rA b1 1 (vL g_d__0 d_.Value),rB 14 [.slice (g18.s (v31).toNat 0).a (((gi y17.1 v31).Value).length) (g18.s (v31).toNat 0).c,vL g_d__0 d_.Value] (vB y39)] H38 (by kernel_rfl) (by kernel_rfl) (by kernel_rfl) ⟨((hS.osl 0 rfl).oki ho35),((hS.osl 0 rfl).at1 ho35 1 rfl),((hS.bk 1 rfl).at1 rfl),(r04_Same_ok (g_a_:=(g18.s (v31).toNat 0)) (g_b_:=g_d__0) m _ _ _ hy39 _ (s0im (s0im s0nil (hS.im 2 rfl)) (tyLong_i0 ((hS.osl 0 rfl).el ho35)))),trivial⟩ fun _ _ H41 hb => ?_
     replace hS:=hS.below hb
     clear H38 hb
     refine w_if H41 rfl (fun hc => ?_) (fun hc => ?c44)
     case c44 =>
      replace hm:=bF hc hm
      apply w_skip
      apply w_exit rfl
      obtain rfl:=someE hm
      exact ⟨_,rfl,FrG.keep (ks:=[1,3,4,6]) H41 (by kernel_rfl),hS⟩
     replace hm:=bT hc hm
     refine s_reg [] [2] [(2,[],vF)] [] H41 (by kernel_rfl) trivial fun _ _ H43 hb => ?_
     replace hS:=hS.below hb
     clear H41 hb
     apply w_ret
     obtain rfl:=someE hm
     have hm:=hm_z34
     obtain rfl:=someE hm
     have hm:=hm_z28
     obtain rfl:=someE hm
     exact retR1 H43 rfl rfl ⟨_,rfl,rfl,(hS.sel [] rfl)⟩
    replace hm:=bF hc hm
    apply w_skip
    obtain ⟨y45,hy45,hm⟩:=bindE hm
    refine s_reg [(vS (gi y17.1 v31).Name),(vW [vI y45.1,vI y45.2])] [1,3,4,6,7,8] (fS [1,3,4,6,7,8] [vP b1,vB y6,vL g18 y17.1,vI v31,vI y45.1,vI y45.2]) [fun _ => oka g18.a ∧ 0 ≤ v31 ∧ v31 < ln y17.1,fun wz => V.at1 ⟨ab g18.a,ao g18.a + (v31).toNat * 3,none⟩ (vS (gi y17.1 v31).Name) wz,rB 27 [vS (gi y17.1 v31).Name] (vW [vI y45.1,vI y45.2])] H38 (by kernel_rfl) ⟨((hS.osl 0 rfl).oki ho35),((hS.osl 0 rfl).at1 ho35 0 rfl),(props_Find_ok 64 _ _ hy45 _ (s0im s0nil (hS.im 3 rfl))),trivial⟩ fun _ _ H47 hb => ?_
    replace hS:=hS.below hb
    clear H38 hb
    apply w_seq
    refine s_reg [] [1,3,4,6,7,67] (fS [1,3,4,6,7,67] [vP b1,vB y6,vL g18 y17.1,vI v31,vI y45.1,vB (y45.2 != 0)]) [] H47 (by kernel_rfl) trivial fun _ _ H49 hb => ?_
    replace hS:=hS.below hb
    clear H47 hb
    refine w_if H49 rfl (fun hc => ?c88) (fun hc => ?_)
    case c88 =>
     replace hm:=bT hc hm
     refine s_reg [] [2] [(2,[],vF)] [] H49 (by kernel_rfl) trivial fun _ _ H51 hb => ?_
     replace hS:=hS.below hb
     clear H49 hb
     apply w_ret
     obtain rfl:=someE hm
     have hm:=hm_z34
     obtain rfl:=someE hm
     have hm:=hm_z28
     obtain rfl:=someE hm
     exact retR1 H51 rfl rfl ⟨_,rfl,rfl,(hS.sel [] rfl)⟩
    replace hm:=bF hc hm
    apply w_skip
    apply w_seq
    obtain ⟨y52,hy52,hm⟩:=bindE hm
    obtain ⟨y53,hy53,hm⟩:=bindE hm
    refine s_reg [(.slice (g18.s (v31).toNat 0).a (((gi y17.1 v31).Value).length) (g18.s (v31).toNat 0).c),(vS y52),(.slice (g18.s (v31).toNat 0).a (((gi y17.1 v31).Value).length) (g18.s (v31).toNat 0).c),(vB y53)] [1,3,4,6,7,82] (fS [1,3,4,6,7,82] [vP b1,vB y6,vL g18 y17.1,vI v31,vI y45.1,vB (cond (!(y52 == [])) true y53)]) [fun _ => oka g18.a ∧ 0 ≤ v31 ∧ v31 < ln y17.1,fun wz => V.at1 ⟨ab g18.a,ao g18.a + (v31).toNat * 3 + 1,none⟩ (.slice (g18.s (v31).toNat 0).a (((gi y17.1 v31).Value).length) (g18.s (v31).toNat 0).c) wz,rB 25 [.slice (g18.s (v31).toNat 0).a (((gi y17.1 v31).Value).length) (g18.s (v31).toNat 0).c] (vS y52),fun _ => ((!(y52 == [])) = false ∧ True → oka g18.a ∧ 0 ≤ v31 ∧ v31 < ln y17.1),fun wz => ((!(y52 == [])) = false ∧ True → V.at1 ⟨ab g18.a,ao g18.a + (v31).toNat * 3 + 1,none⟩ (.slice (g18.s (v31).toNat 0).a (((gi y17.1 v31).Value).length) (g18.s (v31).toNat 0).c) wz),fun wz => ((!(y52 == [])) = false ∧ True → RetB Tryz.prog 18 ⟨[.slice (g18.s (v31).toNat 0).a (((gi y17.1 v31).Value).length) (g18.s (v31).toNat 0).c]⟩ (vB y53) wz)] H49 (by kernel_rfl) ⟨((hS.osl 0 rfl).oki ho35),((hS.osl 0 rfl).at1 ho35 1 rfl),(short_Wide_ok (g_l_:=(g18.s (v31).toNat 0)) m _ _ hy52 _ (s0im s0nil (tyLong_i0 ((hS.osl 0 rfl).el ho35)))),fun hg => (hS.osl 0 rfl).oki ho35,fun hg => (hS.osl 0 rfl).at1 ho35 1 rfl,fun hg => short_Var_ok (g_l_:=(g18.s (v31).toNat 0)) m _ _ (bF (hg.1) hy53) _ (s0im s0nil (tyLong_i0 ((hS.osl 0 rfl).el ho35))),trivial⟩ fun _ _ H55 hb => ?_
    replace hS:=hS.below hb
    clear H49 hb
    refine w_if H55 rfl (fun hc => ?c87) (fun hc => ?_)
    case c87 =>
     replace hm:=bT hc hm
     apply w_seq
     obtain ⟨y56,hy56,hm⟩:=bindE hm
     refine s_draw [(.slice (g18.s (v31).toNat 0).a (((gi y17.1 v31).Value).length) (g18.s (v31).toNat 0).c),(vL g_d__0 d_.Value),(vB y56)] [1,3,4,6,91] (fS [1,3,4,6,91] [vP b1,vB y6,vL g18 y17.1,vI v31,vB (!y56)]) [fun _ => oka g18.a ∧ 0 ≤ v31 ∧ v31 < ln y17.1,fun wz => V.at1 ⟨ab g18.a,ao g18.a + (v31).toNat * 3 + 1,none⟩ (.slice (g18.s (v31).toNat 0).a (((gi y17.1 v31).Value).length) (g18.s (v31).toNat 0).c) wz,rA b1 1 (vL g_d__0 d_.Value),rB 14 [.slice (g18.s (v31).toNat 0).a (((gi y17.1 v31).Value).length) (g18.s (v31).toNat 0).c,vL g_d__0 d_.Value] (vB y56)] H55 (by kernel_rfl) (by kernel_rfl) (by kernel_rfl) ⟨((hS.osl 0 rfl).oki ho35),((hS.osl 0 rfl).at1 ho35 1 rfl),((hS.bk 1 rfl).at1 rfl),(r04_Same_ok (g_a_:=(g18.s (v31).toNat 0)) (g_b_:=g_d__0) m _ _ _ hy56 _ (s0im (s0im s0nil (hS.im 2 rfl)) (tyLong_i0 ((hS.osl 0 rfl).el ho35)))),trivial⟩ fun _ _ H58 hb => ?_
     replace hS:=hS.below hb
     clear H55 hb
     refine w_if H58 rfl (fun hc => ?_) (fun hc => ?c61)
     case c61 =>
      replace hm:=bF hc hm
      apply w_skip
      apply w_exit rfl
      obtain rfl:=someE hm
      exact ⟨_,rfl,FrG.keep (ks:=[1,3,4,6]) H58 (by kernel_rfl),hS⟩
     replace hm:=bT hc hm
     refine s_reg [] [2] [(2,[],vF)] [] H58 (by kernel_rfl) trivial fun _ _ H60 hb => ?_
     replace hS:=hS.below hb
     clear H58 hb
     apply w_ret
     obtain rfl:=someE hm
     have hm:=hm_z34
     obtain rfl:=someE hm
     have hm:=hm_z28
     obtain rfl:=someE hm
     exact retR1 H60 rfl rfl ⟨_,rfl,rfl,(hS.sel [] rfl)⟩
    replace hm:=bF hc hm
    apply w_skip
    apply w_seq
    apply wl_start
    obtain ⟨y62,hy62,hm⟩:=bindE hm
    refine wl_batch 0 10 [(.slice (g18.s (v31).toNat 0).a (((gi y17.1 v31).Value).length) (g18.s (v31).toNat 0).c),(vW [vG (cV y62.1),vI y62.2])] [1,3,4,6,100,101] (fS [1,3,4,6,100,101] [vP b1,vB y6,vL g18 y17.1,vI v31,vG (cV y62.1),vI y62.2]) [fun _ => oka g18.a ∧ 0 ≤ v31 ∧ v31 < ln y17.1,fun wz => V.at1 ⟨ab g18.a,ao g18.a + (v31).toNat * 3 + 1,none⟩ (.slice (g18.s (v31).toNat 0).a (((gi y17.1 v31).Value).length) (g18.s (v31).toNat 0).c) wz,rB 19 [vI y45.1,.slice (g18.s (v31).toNat 0).a (((gi y17.1 v31).Value).length) (g18.s (v31).toNat 0).c] (vW [vG (cV y62.1),vI y62.2])] H55 (by decide) (by kernel_rfl) ⟨((hS.osl 0 rfl).oki ho35),((hS.osl 0 rfl).at1 ho35 1 rfl),(parseval_Parse_ok (g_l_:=(g18.s (v31).toNat 0)) m _ _ _ hy62 _ (s0im (s0im s0nil (hS.im 3 rfl)) (tyLong_i0 ((hS.osl 0 rfl).el ho35)))),trivial⟩ fun _ _ H64 hb => ?_
    replace hS:=hS.below hb
    clear H55 hb
    have hd:=hS.hand [] [0,1,2,3] rfl rfl
    refine m_stp [9,1,3,4,6,100,101] (fS [1,3,4,6,100,101] [vP b1,vB y6,vL g18 y17.1,vI v31,vG (cV y62.1),vI y62.2]) H64 rfl rfl rfl rfl (o_alloc [vU 0,vN,vI 0,vU 0,vU 0,vU 0,vU 0] (z:=vG [vU 0,vN,vI 0,vU 0,vU 0,vU 0,vU 0]) hd (by kernel_rfl) rfl) (fun _ => rfl) fun _ _ v H67 hq => ?_
    clear H64 hd
    obtain ⟨b65,rfl,hq⟩:=hq
    replace hS : SH M X w [eB b65 [vU 0,vN,vI 0,vU 0,vU 0,vU 0,vU 0],eO 44 tyLong y17.1 g18,eB b1 [vS d_.Name,vL g_d__0 d_.Value,vB d_.Important],eI tyValue d_.Value g_d__0,gE0] _:=hS.join [] [0,1,2,3] rfl rfl hq
    clear hq
    have hd:=hS.hand [0] [1,2,3,4] rfl rfl
    refine m_stp0 [1,3,4,6,101] (fS [1,3,4,6,101] [vP b1,vB y6,vL g18 y17.1,vI v31,vI y62.2]) H67 rfl rfl rfl (o_store (cV y62.1) H67 hd rfl rfl (by kernel_rfl) rfl rfl rfl) rfl fun _ _ H69 hq => ?_
    clear H67 hd
    obtain ⟨_,hq⟩:=hq
    replace hS : SH M X w [eB b65 (cV y62.1),eO 44 tyLong y17.1 g18,eB b1 [vS d_.Name,vL g_d__0 d_.Value,vB d_.Important],eI tyValue d_.Value g_d__0,gE0] _:=hS.join [0] [1,2,3,4] rfl rfl hq
    clear hq
    refine wl_batch 12 13 [] [1,3,4,6,10] (fS [1,3,4,6,10] [vP b1,vB y6,vL g18 y17.1,vI v31,vI y62.2]) [] H69 (by decide) (by kernel_rfl) trivial fun _ _ H71 hb => ?_
    replace hS:=hS.below hb
    clear H69 hb
    apply wl_end rfl
    replace hS : SH M X w [eO 44 tyLong y17.1 g18,eB b1 [vS d_.Name,vL g_d__0 d_.Value,vB d_.Important],eI tyValue d_.Value g_d__0,gE0] _:=hS.sel [1,2,3,4] rfl
    obtain ⟨y73,hy73,hm⟩:=bindE hm
    refine s_drawS (base:=(fS [1,3,4,6,10] [vP b1,vB y6,vL g18 y17.1,vI v31,vI y62.2])) (L:=[eO 44 tyLong y17.1 g18,eB b1 [vS d_.Name,vL g_d__0 d_.Value,vB d_.Important],eI tyValue d_.Value g_d__0,gE0]) 15 4 (fun yg72 => [vP b1,vS d_.Name,vL g18 y17.1,vI v31,.pointer (some ⟨ab g18.a,ao g18.a + (v31).toNat * 3,none⟩),.pointer (some ⟨ab g18.a,ao g18.a + (v31).toNat * 3,none⟩),vS (gi y17.1 v31).Name,vA b1 1,vL g_d__0 d_.Value,vW [.slice (yg72 9 0).a y73.1.length (yg72 9 0).c,vI y73.2],vW [.slice (yg72 9 0).a y73.1.length (yg72 9 0).c,vI y73.2],.slice (yg72 9 0).a y73.1.length (yg72 9 0).c,vI y73.2,.slice (yg72 9 0).a y73.1.length (yg72 9 0).c,vI y73.2]) (fun yg72 => [[],[],[],[],[],[],[],[],[],[eO 51 tyValue y73.1 (yg72 9 0)],[],[],[],[],[]]) [[16,17],[16,17],[],[],[15],[15],[15],[16,17],[16,17],[17,18],[],[9],[9],[9],[]] [[],[],[],[],[],[],[],[],[],[],[],[],[],[],[]] [[0],[0,1],[2],[3],[2,3,4],[2,3,4,5],[2,3,4,5,6],[7],[7,8],[0,1,2,3,4,5,6,7,8,9],[0,1,2,3,4,5,6,7,8,9,10],[0,1,2,3,4,5,6,7,8,9,10,11],[0,1,2,3,4,5,6,7,8,9,10,12],[0,1,2,3,4,5,6,7,8,9,10,11,13],[0,1,2,3,4,5,6,7,8,9,10,12,14]] [] (FrG.keep (ks:=[1,3,4,6,10]) H71 (by kernel_rfl)) (fun _ _ h => by cases h) (by kernel_rfl) hS (by kernel_rfl) rfl rfl (by kernel_rfl) (by kernel_rfl) (by kernel_rfl) (gd_none (by kernel_rfl) _ _) ?hloc_yg72 ?hstep_yg72 fun _ _ yg72 H77 hv hS => ?hK_yg72
    case hloc_yg72 => exact ⟨(fun _ _ _ _ => ⟨rfl,rfl⟩),(fun _ _ _ _ => ⟨rfl,rfl⟩),(fun _ _ _ _ => ⟨rfl,rfl⟩),(fun _ _ _ _ => ⟨rfl,rfl⟩),(fun _ _ _ _ => ⟨rfl,rfl⟩),(fun _ _ _ _ => ⟨rfl,rfl⟩),(fun _ _ _ _ => ⟨rfl,rfl⟩),(fun _ _ _ _ => ⟨rfl,rfl⟩),(fun _ _ _ _ => ⟨rfl,rfl⟩),(fun _ i g hi => lcG [9] (fun yg72 => (vW [.slice (yg72 9 0).a y73.1.length (yg72 9 0).c,vI y73.2],[eO 51 tyValue y73.1 (yg72 9 0)])) hi rfl),(fun _ i g hi => lcG [9] (fun yg72 => (vW [.slice (yg72 9 0).a y73.1.length (yg72 9 0).c,vI y73.2],[])) hi rfl),(fun _ i g hi => lcG [9] (fun yg72 => (.slice (yg72 9 0).a y73.1.length (yg72 9 0).c,[])) hi rfl),(fun _ _ _ _ => ⟨rfl,rfl⟩),(fun _ i g hi => lcG [9] (fun yg72 => (.slice (yg72 9 0).a y73.1.length (yg72 9 0).c,[])) hi rfl),(fun _ _ _ _ => ⟨rfl,rfl⟩),trivial⟩
    case hstep_yg72 =>
     refine ⟨?_,?_,?_,?_,?_,?_,?_,?_,?_,?_,?_,?_,?_,?_,?_,trivial⟩
     ·intro o ho a w yg72 M Hb hv hO hS
      obtain rfl:=someE ho
      exact Stp.mono (o_evs [] (vP b1) none [] Hb rfl (by kernel_rfl) (fun q e => by cases e)) fun _ _ hq => ⟨gL [],fun _ _ => hq.1,(hS.below hq.2.below).sel [0,1] rfl⟩
     ·intro o ho a w yg72 M Hb hv hO hS
      obtain rfl:=someE ho
      exact Stp.mono (o_evs [(vS d_.Name)] (vS d_.Name) (some (rA b1 0 (vS d_.Name))) [] ((Hb).add (hv 0 (by decide) (by decide) 103 rfl)) rfl (by kernel_rfl) (fun q e => by cases e; exact ((hS.bk 0 rfl).at1 rfl))) fun _ _ hq => ⟨gL [],fun _ _ => hq.1,(hS.below hq.2.below).sel [0,1] rfl⟩
     ·intro o ho a w yg72 M Hb hv hO hS
      obtain rfl:=someE ho
      exact Stp.mono (o_evs [] (vL g18 y17.1) none [] Hb rfl (by kernel_rfl) (fun q e => by cases e)) fun _ _ hq => ⟨gL [],fun _ _ => hq.1,(hS.below hq.2.below).sel [] rfl⟩
     ·intro o ho a w yg72 M Hb hv hO hS
      obtain rfl:=someE ho
      exact Stp.mono (o_evs [] (vI v31) none [] Hb rfl (by kernel_rfl) (fun q e => by cases e)) fun _ _ hq => ⟨gL [],fun _ _ => hq.1,(hS.below hq.2.below).sel [] rfl⟩
     ·intro o ho a w yg72 M Hb hv hO hS
      obtain rfl:=someE ho
      exact Stp.mono (o_evs [] (.pointer (some ⟨ab g18.a,ao g18.a + (v31).toNat * 3,none⟩)) (some (fun _ => oka g18.a ∧ 0 ≤ v31 ∧ v31 < ln y17.1)) [] (((Hb).add (hv 2 (by decide) (by decide) 105 rfl)).add (hv 3 (by decide) (by decide) 106 rfl)) rfl (by kernel_rfl) (fun q e => by cases e; exact ((hS.osl 0 rfl).oki ho35))) fun _ _ hq => ⟨gL [],fun _ _ => hq.1,(hS.below hq.2.below).sel [0] rfl⟩
     ·intro o ho a w yg72 M Hb hv hO hS
      obtain rfl:=someE ho
      exact Stp.mono (o_evs [] (.pointer (some ⟨ab g18.a,ao g18.a + (v31).toNat * 3,none⟩)) none [] ((Hb).add (hv 4 (by decide) (by decide) 107 rfl)) rfl (by kernel_rfl) (fun q e => by cases e)) fun _ _ hq => ⟨gL [],fun _ _ => hq.1,(hS.below hq.2.below).sel [0] rfl⟩
     ·intro o ho a w yg72 M Hb hv hO hS
      obtain rfl:=someE ho
      exact Stp.mono (o_evs [(vS (gi y17.1 v31).Name)] (vS (gi y17.1 v31).Name) (some (fun wz => V.at1 ⟨ab g18.a,ao g18.a + (v31).toNat * 3,none⟩ (vS (gi y17.1 v31).Name) wz)) [] ((Hb).add (hv 5 (by decide) (by decide) 108 rfl)) rfl (by kernel_rfl) (fun q e => by cases e; exact ((hS.osl 0 rfl).at1 ho35 0 rfl))) fun _ _ hq => ⟨gL [],fun _ _ => hq.1,(hS.below hq.2.below).sel [0] rfl⟩
     ·intro o ho a w yg72 M Hb hv hO hS
      obtain rfl:=someE ho
      exact Stp.mono (o_evs [] (vA b1 1) none [] Hb rfl (by kernel_rfl) (fun q e => by cases e)) fun _ _ hq => ⟨gL [],fun _ _ => hq.1,(hS.below hq.2.below).sel [0,1] rfl⟩
     ·intro o ho a w yg72 M Hb hv hO hS
      obtain rfl:=someE ho
      exact Stp.mono (o_evs [(vL g_d__0 d_.Value)] (vL g_d__0 d_.Value) (some (rA b1 1 (vL g_d__0 d_.Value))) [] ((Hb).add (hv 7 (by decide) (by decide) 110 rfl)) rfl (by kernel_rfl) (fun q e => by cases e; exact ((hS.bk 0 rfl).at1 rfl))) fun _ _ hq => ⟨gL [],fun _ _ => hq.1,(hS.below hq.2.below).sel [0,1] rfl⟩
     ·intro o ho a w yg72 M Hb hv hO hS0
      obtain rfl:=someE ho
      have H : Fr 142 ((fS [111,109,104] [vL g_d__0 d_.Value,vS (gi y17.1 v31).Name,vS d_.Name]) ++ (fS [1,3,4,6,10] [vP b1,vB y6,vL g18 y17.1,vI v31,vI y62.2])) _:=(((Hb).add (hv 1 (by decide) (by decide) 104 rfl)).add (hv 6 (by decide) (by decide) 109 rfl)).add (hv 8 (by decide) (by decide) 111 rfl)
      obtain ⟨X,hX⟩ : ∃ X,X = fpl [eI tyValue d_.Value g_d__0,gE0]:=⟨_,rfl⟩
      have hS : SH M X w [eI tyValue d_.Value g_d__0,gE0] w:=by rw [hX]; exact hS0
      have hd:=hS.hand [0,1] [0,1] rfl rfl
      refine Stp.mono (o_callx H rfl rfl (short_Part_ok (g_l_:=g_d__0) m _ _ _ _ hy73 _ _ hd)) ?_
      rintro v w2 hq
      obtain ⟨g74,rfl,hq⟩:=hq
      replace hS : SH M X w [eO 51 tyValue y73.1 g74,eI tyValue d_.Value g_d__0,gE0] _:=hS.join [0,1] [0,1] rfl rfl hq
      clear hq
      rw [hX] at hS
      exact ⟨gL [g74],fun _ _ => rfl,hS.sel [0,1,2] rfl⟩
     ·intro o ho a w yg72 M Hb hv hO hS
      obtain rfl:=someE ho
      exact Stp.mono (o_evs [] (vW [.slice (yg72 9 0).a y73.1.length (yg72 9 0).c,vI y73.2]) none [] ((Hb).add (hv 9 (by decide) (by decide) 112 rfl)) rfl (by kernel_rfl) (fun q e => by cases e)) fun _ _ hq => ⟨gL [],fun _ _ => hq.1,(hS.below hq.2.below).sel [] rfl⟩
     ·intro o ho a w yg72 M Hb hv hO hS
      obtain rfl:=someE ho
      exact Stp.mono (o_evs [] (.slice (yg72 9 0).a y73.1.length (yg72 9 0).c) none [] ((Hb).add (hv 10 (by decide) (by decide) 102 rfl)) rfl (by kernel_rfl) (fun q e => by cases e)) fun _ _ hq => ⟨gL [],fun _ _ => hq.1,(hS.below hq.2.below).sel [0] rfl⟩
     ·intro o ho a w yg72 M Hb hv hO hS
      obtain rfl:=someE ho
      exact Stp.mono (o_evs [] (vI y73.2) none [] ((Hb).add (hv 10 (by decide) (by decide) 102 rfl)) rfl (by kernel_rfl) (fun q e => by cases e)) fun _ _ hq => ⟨gL [],fun _ _ => hq.1,(hS.below hq.2.below).sel [0] rfl⟩
     ·intro o ho a w yg72 M Hb hv hO hS
      obtain rfl:=someE ho
      exact Stp.mono (o_evs [] (.slice (yg72 9 0).a y73.1.length (yg72 9 0).c) none [] ((Hb).add (hv 11 (by decide) (by decide) 113 rfl)) rfl (by kernel_rfl) (fun q e => by cases e)) fun _ _ hq => ⟨gL [],fun _ _ => hq.1,(hS.below hq.2.below).sel [0] rfl⟩
     ·intro o ho a w yg72 M Hb hv hO hS
      obtain rfl:=someE ho
      exact Stp.mono (o_evs [] (vI y73.2) none [] ((Hb).add (hv 12 (by decide) (by decide) 114 rfl)) rfl (by kernel_rfl) (fun q e => by cases e)) fun _ _ hq => ⟨gL [],fun _ _ => hq.1,(hS.below hq.2.below).sel [] rfl⟩
    have H78 : Fr 142 (fS [12,11,1,3,4,6,10] [vI y73.2,.slice (yg72 9 0).a y73.1.length (yg72 9 0).c,vP b1,vB y6,vL g18 y17.1,vI v31,vI y62.2]) _:=(FrG.add (FrG.add (FrG.keep (ks:=[1,3,4,6,10]) H77 (by kernel_rfl)) (hv 13 11 rfl)) (hv 14 12 rfl))
    replace hS : SH M X w [eO 51 tyValue y73.1 (yg72 9 0),eO 44 tyLong y17.1 g18,eB b1 [vS d_.Name,vL g_d__0 d_.Value,vB d_.Important],eI tyValue d_.Value g_d__0,gE0] _:=hS
    clear hv H77
    generalize yg72 9 0 = g79 at H78 hS
    obtain ⟨y80,hy80,hm⟩:=bindE hm
    obtain ⟨x81,hx81,hm⟩:=letE hm
    refine s_draw [(vS (gi y17.1 v31).Name),(vS d_.Name),(.slice (g18.s (v31).toNat 0).a (((gi y17.1 v31).Value).length) (g18.s (v31).toNat 0).c),(vB y80)] [1,3,4,6,140] (fS [1,3,4,6,140] [vP b1,vB y6,vL g18 y17.1,vI v31,vB x81]) [fun _ => ((y62.2 != 0) = false ∧ True → oka g18.a ∧ 0 ≤ v31 ∧ v31 < ln y17.1),fun wz => ((y62.2 != 0) = false ∧ True → V.at1 ⟨ab g18.a,ao g18.a + (v31).toNat * 3,none⟩ (vS (gi y17.1 v31).Name) wz),fun wz => ((y62.2 != 0) = false ∧ True → V.at1 ⟨b1,0,none⟩ (vS d_.Name) wz),fun _ => ((y73.2 != 0) = false ∧ (!(((gi y17.1 v31).Name) == d_.Name)) = true ∧ (y62.2 != 0) = false ∧ True → oka g18.a ∧ 0 ≤ v31 ∧ v31 < ln y17.1),fun wz => ((y73.2 != 0) = false ∧ (!(((gi y17.1 v31).Name) == d_.Name)) = true ∧ (y62.2 != 0) = false ∧ True → V.at1 ⟨ab g18.a,ao g18.a + (v31).toNat * 3 + 1,none⟩ (.slice (g18.s (v31).toNat 0).a (((gi y17.1 v31).Value).length) (g18.s (v31).toNat 0).c) wz),fun wz => ((y73.2 != 0) = false ∧ (!(((gi y17.1 v31).Name) == d_.Name)) = true ∧ (y62.2 != 0) = false ∧ True → RetB Tryz.prog 14 ⟨[vL g79 y73.1,.slice (g18.s (v31).toNat 0).a (((gi y17.1 v31).Value).length) (g18.s (v31).toNat 0).c]⟩ (vB y80) wz)] H78 (by kernel_rfl) (by kernel_rfl) (by subst hx81; kernel_rfl) ⟨fun hg => (hS.osl 1 rfl).oki ho35,fun hg => (hS.osl 1 rfl).at1 ho35 0 rfl,fun hg => (hS.bk 2 rfl).at1 rfl,fun hg => (hS.osl 1 rfl).oki ho35,fun hg => (hS.osl 1 rfl).at1 ho35 1 rfl,fun hg => r04_Same_ok (g_a_:=g79) (g_b_:=(g18.s (v31).toNat 0)) m _ _ _ (bF (hg.1) (bT (hg.2.1) (bF (hg.2.2.1) hy80))) _ (s0im (s0im s0nil (tyLong_i0 ((hS.osl 1 rfl).el ho35))) (hS.osl 0 rfl)),trivial⟩ fun _ _ H83 hb => ?_
    replace hS:=hS.below hb
    clear H78 hb
    replace hS : SH M X w [eO 44 tyLong y17.1 g18,eB b1 [vS d_.Name,vL g_d__0 d_.Value,vB d_.Important],eI tyValue d_.Value g_d__0,gE0] _:=hS.sel [1,2,3,4] rfl
    refine w_if H83 rfl (fun hc => ?_) (fun hc => ?c86)
    case c86 =>
     replace hm:=bF hc hm
     apply w_skip
     obtain rfl:=someE hm
     exact ⟨_,rfl,FrG.keep (ks:=[1,3,4,6]) H83 (by kernel_rfl),hS⟩
    replace hm:=bT hc hm
    refine s_reg [] [2] [(2,[],vF)] [] H83 (by kernel_rfl) trivial fun _ _ H85 hb => ?_
    replace hS:=hS.below hb
    clear H83 hb
    apply w_ret
    obtain rfl:=someE hm
    have hm:=hm_z34
    obtain rfl:=someE hm
    have hm:=hm_z28
    obtain rfl:=someE hm
    exact retR1 H85 rfl rfl ⟨_,rfl,rfl,(hS.sel [] rfl)⟩
   ·rintro _ _ ⟨s_z34,hz,H,hS⟩
    subst hz
    replace hm:=sumR hm_z34
    refine w_reg [] [1,3,4,6] (fS [1,3,4,6] [vP b1,vB y6,vL g18 y17.1,vI (w64 (v31 + 1))]) [] H (by kernel_rfl) trivial fun _ _ H91 hb => ?_
    replace hS:=hS.below hb
    clear H hb
    exact ⟨_,Nat.lt_succ_self _,w64 (v31 + 1),hm,FrG.keep (ks:=[1,3,4,6]) H91 (by kernel_rfl),hS⟩
 ·rintro _ _ ⟨s_z28,hz,H,hS⟩
  subst hz
  replace hm:=sumR hm_z28
  replace hS : SH M X w [gE0] _:=hS.sel [3] rfl
  refine s_reg [] [2] [(2,[],vB y6)] [] H (by kernel_rfl) trivial fun _ _ H96 hb => ?_
  replace hS:=hS.below hb
  clear H hb
  apply w_ret
  obtain rfl:=someE hm
  exact retR1 H96 rfl rfl ⟨_,rfl,rfl,(hS.sel [] rfl)⟩
theorem law27_ShortValues_ok {g_d__0 : Gh} (m : Nat) (d_ : TDecl) (r : Bool) (hm : law27_ShortValues m d_ = some r) (w : World) (hL : S0 F0 [eI tyValue d_.Value g_d__0,gE0] w ∧ fpl [eI tyValue d_.Value g_d__0,gE0] = []) : RetB Tryz.prog 7 ⟨[vG [vS d_.Name,vL g_d__0 d_.Value,vB d_.Important]]⟩ (vB r) w:=retB_of hL (Tryz.call7 _) (fun w' h => law27_ShortValues_w F0 m   d_ r hm w' h)

end Go.Proofs.YtpgflfjmjppmeaaGreatDoor
