/-
  What the Go functions compute, as Lean functions, and that a call returns just that. Printed by a program.
-/
import Derived.Test.YtpgflfjmjppmeaaGreatDoorRows
import Derived.Test.YtpgflfjmjppmeaaGreatDoorX
import Derived.Test.YtpgflfjmjppmeaaGreatDoorMP
import Derived.Test.YtpgflfjmjppmeaaGreatDoorCO
import Derived.Test.YtpgflfjmjppmeaaGreatDoorM
import Derived.Test.YtpgflfjmjppmeaaGreatDoorW27wc
set_option linter.unusedVariables false
set_option maxRecDepth 20000
set_option maxHeartbeats 4000000
namespace Go.Proofs.YtpgflfjmjppmeaaGreatDoor
open Go.V Go.RowKit

theorem law27_ShortWritten_w {g_d__0 : Gh} (M : Av) (m : Nat) (d_ : TDecl) (r : Bool) (hm : law27_ShortWritten m d_ = some r) (w : World) (hS : S0 M [eI tyValue d_.Value g_d__0,gE0] w) : Calls Tryz.prog 4 ⟨[vG [vS d_.Name,vL g_d__0 d_.Value,vB d_.Important]]⟩ w (fun e w' => ∃ v,e = .returned v ∧ v = vB r ∧ SH M (fpl [eI tyValue d_.Value g_d__0,gE0]) w [] w'):=by
 rw [law27_ShortWritten] at hm
 have hS0 : SH M (fpl [eI tyValue d_.Value g_d__0,gE0]) w [eI tyValue d_.Value g_d__0,gE0] w:=hS
 generalize hX : fpl [eI tyValue d_.Value g_d__0,gE0] = X at hS0 ⊢
 clear hS hX
 have hS:=hS0
 clear hS0
 refine calls_entryP Tryz.func4 rfl Tryz.ntmps4 rfl fun _ H => ?_
 apply w_seq
 apply wl_start
 have hd:=hS.hand [] [0,1] rfl rfl
 refine m_stp [1] [] H rfl rfl rfl rfl (o_box [vS d_.Name,vL g_d__0 d_.Value,vB d_.Important] H hd rfl rfl) (fun _ => rfl) fun _ _ v H3 hq => ?_
 clear H hd
 obtain ⟨b1,rfl,hq⟩:=hq
 replace hS : SH M X w [eB b1 [vS d_.Name,vL g_d__0 d_.Value,vB d_.Important],eI tyValue d_.Value g_d__0,gE0] _:=hS.join [] [0,1] rfl rfl hq
 clear hq
 refine wl_batch 1 2 [] [1] [(1,[],vP b1)] [] H3 (by decide) (by kernel_rfl) trivial fun _ _ H5 hb => ?_
 replace hS:=hS.below hb
 clear H3 hb
 apply wl_end rfl
 obtain ⟨y6,hy6,hm⟩:=bindE hm
 refine s_reg [(vB y6)] [1,3] (fS [1,3] [vP b1,vB y6]) [rB 15 [] (vB y6)] H5 (by kernel_rfl) ⟨(law27_alive_ok 300 _ hy6 _ (s0im s0nil (hS.im 2 rfl))),trivial⟩ fun _ _ H8 hb => ?_
 replace hS:=hS.below hb
 clear H5 hb
 apply w_seq
 obtain ⟨y9,hy9,hm⟩:=bindE hm
 obtain ⟨x10,hx10,hm⟩:=letE hm
 refine s_reg [(vL g_d__0 d_.Value),(vB y9),(vS d_.Name)] [1,3,26] (fS [1,3,26] [vP b1,vB y6,vB (cond x10 true (!y6))]) [rA b1 1 (vL g_d__0 d_.Value),rB 8 [vL g_d__0 d_.Value] (vB y9),fun wz => (y9 = false ∧ True → V.at1 ⟨b1,0,none⟩ (vS d_.Name) wz)] H8 (by subst hx10; kernel_rfl) ⟨((hS.bk 0 rfl).at1 rfl),(r04_Great_ok (g_v_:=g_d__0) m _ _ hy9 _ (s0im s0nil (hS.im 1 rfl))),fun hg => (hS.bk 0 rfl).at1 rfl,trivial⟩ fun _ _ H12 hb => ?_
 replace hS:=hS.below hb
 clear H8 hb
 refine w_if H12 rfl (fun hc => ?c138) (fun hc => ?_)
 case c138 =>
  replace hm:=bT hc hm
  refine s_reg [] [2] [(2,[],vB y6)] [] H12 (by kernel_rfl) trivial fun _ _ H14 hb => ?_
  replace hS:=hS.below hb
  clear H12 hb
  replace hS : SH M X w [gE0] _:=hS.sel [2] rfl
  apply w_ret
  obtain rfl:=someE hm
  exact retR1 H14 rfl rfl ⟨_,rfl,rfl,(hS.sel [] rfl)⟩
 replace hm:=bF hc hm
 apply w_skip
 apply w_seq
 apply wl_start
 refine wl_batch 0 1 [(vG [vS d_.Name,vL g_d__0 d_.Value,vB d_.Important])] [1,3,29] (fS [1,3,29] [vP b1,vB y6,vG [vS d_.Name,vL g_d__0 d_.Value,vB d_.Important]]) [rN b1 0 [vS d_.Name,vL g_d__0 d_.Value,vB d_.Important]] H12 (by decide) (by kernel_rfl) ⟨((hS.bk 0 rfl).atD rfl),trivial⟩ fun _ _ H16 hb => ?_
 replace hS:=hS.below hb
 clear H12 hb
 obtain ⟨y17,hy17,hm⟩:=bindE hm
 have hd:=hS.hand [1,2] [0,1,2] rfl rfl
 refine m_stp [30,1,3] (fS [1,3] [vP b1,vB y6]) H16 rfl rfl rfl rfl (o_callx H16 rfl rfl (short_Expand_ok (g_d__0:=g_d__0) m _ _ hy17 _ _ hd)) (fun _ => rfl) fun _ _ v H21 hq => ?_
 clear H16 hd
 obtain ⟨g18,rfl,hq⟩:=hq
 replace hS : SH M X w [eO 44 tyLong y17.1 g18,eB b1 [vS d_.Name,vL g_d__0 d_.Value,vB d_.Important],eI tyValue d_.Value g_d__0,gE0] _:=hS.join [1,2] [0,1,2] rfl rfl hq
 clear hq
 refine wl_batch 2 7 [] [1,3,4,5] (fS [1,3,4,5] [vP b1,vB y6,vL g18 y17.1,vI y17.2]) [] H21 (by decide) (by kernel_rfl) trivial fun _ _ H23 hb => ?_
 replace hS:=hS.below hb
 clear H21 hb
 apply wl_end rfl
 apply w_seq
 refine s_reg [] [1,3,4,34] (fS [1,3,4,34] [vP b1,vB y6,vL g18 y17.1,vB (y17.2 != 0)]) [] H23 (by kernel_rfl) trivial fun _ _ H25 hb => ?_
 replace hS:=hS.below hb
 clear H23 hb
 refine w_if H25 rfl (fun hc => ?c137) (fun hc => ?_)
 case c137 =>
  replace hm:=bT hc hm
  refine s_reg [] [2] [(2,[],vB (cond y6 ((ln y17.1) == 0) false))] [] H25 (by kernel_rfl) trivial fun _ _ H27 hb => ?_
  replace hS:=hS.below hb
  clear H25 hb
  replace hS : SH M X w [gE0] _:=hS.sel [3] rfl
  apply w_ret
  obtain rfl:=someE hm
  exact retR1 H27 rfl rfl ⟨_,rfl,rfl,(hS.sel [] rfl)⟩
 replace hm:=bF hc hm
 apply w_skip
 apply w_seq
 apply wl_start
 refine wl_batch 0 2 [(vS d_.Name)] [1,3,4,43] (fS [1,3,4,43] [vP b1,vB y6,vL g18 y17.1,vS d_.Name]) [rA b1 0 (vS d_.Name)] H25 (by decide) (by kernel_rfl) ⟨((hS.bk 1 rfl).at1 rfl),trivial⟩ fun _ _ H29 hb => ?_
 replace hS:=hS.below hb
 clear H25 hb
 obtain ⟨y30,hy30,hm⟩:=bindE hm
 have hd:=hS.hand [3] [0,1,2,3] rfl rfl
 refine m_stp [44,1,3,4] (fS [1,3,4] [vP b1,vB y6,vL g18 y17.1]) H29 rfl rfl rfl rfl (o_callx H29 rfl rfl (short_Longs_ok 64 _ _ hy30 _ _ hd)) (fun _ => rfl) fun _ _ v H34 hq => ?_
 clear H29 hd
 obtain ⟨g31,rfl,hq⟩:=hq
 replace hS : SH M X w [eO 9 tS y30.1 g31,eO 44 tyLong y17.1 g18,eB b1 [vS d_.Name,vL g_d__0 d_.Value,vB d_.Important],eI tyValue d_.Value g_d__0,gE0] _:=hS.join [3] [0,1,2,3] rfl rfl hq
 clear hq
 refine wl_batch 3 8 [] [1,3,4,6,7] (fS [1,3,4,6,7] [vP b1,vB y6,vL g18 y17.1,vL g31 y30.1,vI y30.2]) [] H34 (by decide) (by kernel_rfl) trivial fun _ _ H36 hb => ?_
 replace hS:=hS.below hb
 clear H34 hb
 apply wl_end rfl
 apply w_seq
 obtain ⟨x37,hx37,hm⟩:=letE hm
 refine s_reg [] [1,3,4,6,60] (fS [1,3,4,6,60] [vP b1,vB y6,vL g18 y17.1,vL g31 y30.1,vB (cond x37 true ((ln y17.1) == 0))]) [] H36 (by subst hx37; kernel_rfl) trivial fun _ _ H39 hb => ?_
 replace hS:=hS.below hb
 clear H36 hb
 refine w_if H39 rfl (fun hc => ?c136) (fun hc => ?_)
 case c136 =>
  replace hm:=bT hc hm
  refine s_reg [] [2] [(2,[],vF)] [] H39 (by kernel_rfl) trivial fun _ _ H41 hb => ?_
  replace hS:=hS.below hb
  clear H39 hb
  replace hS : SH M X w [gE0] _:=hS.sel [4] rfl
  apply w_ret
  obtain rfl:=someE hm
  exact retR1 H41 rfl rfl ⟨_,rfl,rfl,(hS.sel [] rfl)⟩
 replace hm:=bF hc hm
 apply w_skip
 obtain ⟨z42,hz,hm_z42⟩:=bindE hm
 refine w_cut (fun a' w' => ∃ s_z42 : Unit,z42 = Sum.inr s_z42 ∧ Fr 145 [(3,[],vB y6)] a' ∧ SH M X w [eO 9 tS y30.1 g31,eO 44 tyLong y17.1 g18,eB b1 [vS d_.Name,vL g_d__0 d_.Value,vB d_.Important],eI tyValue d_.Value g_d__0,gE0] w') ?_ ?_
 ·replace hm:=hz
  refine s_reg [] [1,3,4,6,8] (fS [1,3,4,6,8] [vP b1,vB y6,vL g18 y17.1,vL g31 y30.1,vI 0]) [] H39 (by kernel_rfl) trivial fun _ _ H44 hb => ?_
  replace hS:=hS.below hb
  clear H39 hb
  apply w_block
  refine w_loop (fun kk a' w' => ∃ (v45 : Int),law27_ShortWritten_L1 m d_ y17 y30 kk v45 = some _ ∧ Fr 145 (fS [1,3,4,6,8] [vP b1,vB y6,vL g18 y17.1,vL g31 y30.1,vI v45]) a' ∧ SH M X w [eO 9 tS y30.1 g31,eO 44 tyLong y17.1 g18,eB b1 [vS d_.Name,vL g_d__0 d_.Value,vB d_.Important],eI tyValue d_.Value g_d__0,gE0] w') ⟨_,0,hm,FrG.keep (ks:=[1,3,4,6,8]) H44 (by kernel_rfl),hS⟩ ?_
  clear hm H44 hS
  rintro kk _ _ ⟨v45,hm,H,hS⟩
  cases kk with
  | zero => exact noneE hm
  | succ kk =>
   rw [law27_ShortWritten_L1] at hm
   apply w_seq
   refine s_reg [] [1,3,4,6,8,64] (fS [1,3,4,6,8,64] [vP b1,vB y6,vL g18 y17.1,vL g31 y30.1,vI v45,vB (decide (v45 < (ln y17.1)))]) [] H (by kernel_rfl) trivial fun _ _ H47 hb => ?_
   replace hS:=hS.below hb
   clear H hb
   refine w_if H47 rfl (fun hc => ?_) (fun hc => ?c131)
   case c131 =>
    replace hm:=bF hc hm
    apply w_exit rfl
    obtain rfl:=someE hm
    exact ⟨_,rfl,FrG.keep (ks:=[3]) H47 (by kernel_rfl),hS⟩
   replace hm:=bT hc hm
   apply w_skip
   obtain ⟨z48,hz,hm_z48⟩:=bindE hm
   refine w_cut (fun a' w' => ∃ s_z48 : Unit,z48 = Sum.inr s_z48 ∧ Fr 145 (fS [1,3,4,6,8] [vP b1,vB y6,vL g18 y17.1,vL g31 y30.1,vI v45]) a' ∧ SH M X w [eO 9 tS y30.1 g31,eO 44 tyLong y17.1 g18,eB b1 [vS d_.Name,vL g_d__0 d_.Value,vB d_.Important],eI tyValue d_.Value g_d__0,gE0] w') ?_ ?_
   ·replace hm:=hz
    apply w_block
    apply w_seq
    obtain ⟨ho49,hm⟩:=chkE hm
    obtain ⟨ho50,hm⟩:=chkE hm
    obtain ⟨x51,hx51,hm⟩:=letE hm
    refine s_draw [(vS (gi y17.1 v45).Name),(vS (gi y30.1 v45))] [1,3,4,6,8,76] (fS [1,3,4,6,8,76] [vP b1,vB y6,vL g18 y17.1,vL g31 y30.1,vI v45,vB x51]) [fun _ => oka g18.a ∧ 0 ≤ v45 ∧ v45 < ln y17.1,fun wz => V.at1 ⟨ab g18.a,ao g18.a + (v45).toNat * 3,none⟩ (vS (gi y17.1 v45).Name) wz,fun _ => oka g31.a ∧ 0 ≤ v45 ∧ v45 < ln y30.1,fun wz => V.at1 ⟨ab g31.a,ao g31.a + (v45).toNat * 1,none⟩ (vS (gi y30.1 v45)) wz] H47 (by kernel_rfl) (by kernel_rfl) (by subst hx51; kernel_rfl) ⟨((hS.osl 1 rfl).oki ho49),((hS.osl 1 rfl).at1 ho49 0 rfl),((hS.osl 0 rfl).oki ho50),((hS.osl 0 rfl).at1 ho50 0 rfl),trivial⟩ fun _ _ H53 hb => ?_
    replace hS:=hS.below hb
    clear H47 hb
    refine w_if H53 rfl (fun hc => ?c127) (fun hc => ?_)
    case c127 =>
     replace hm:=bT hc hm
     refine s_reg [] [2] [(2,[],vF)] [] H53 (by kernel_rfl) trivial fun _ _ H55 hb => ?_
     replace hS:=hS.below hb
     clear H53 hb
     apply w_ret
     obtain rfl:=someE hm
     have hm:=hm_z48
     obtain rfl:=someE hm
     have hm:=hm_z42
     obtain rfl:=someE hm
     exact retR1 H55 rfl rfl ⟨_,rfl,rfl,(hS.sel [] rfl)⟩
    replace hm:=bF hc hm
    apply w_skip
    obtain ⟨z56,hz,hm_z56⟩:=bindE hm
    refine w_cut (fun a' w' => ∃ s_z56 : Unit,z56 = Sum.inr s_z56 ∧ Fr 145 (fS [1,3,4,6,8] [vP b1,vB y6,vL g18 y17.1,vL g31 y30.1,vI v45]) a' ∧ SH M X w [eO 9 tS y30.1 g31,eO 44 tyLong y17.1 g18,eB b1 [vS d_.Name,vL g_d__0 d_.Value,vB d_.Important],eI tyValue d_.Value g_d__0,gE0] w') ?_ ?_
    ·replace hm:=hz
     refine s_reg [] [1,3,4,6,8,9] (fS [1,3,4,6,8,9] [vP b1,vB y6,vL g18 y17.1,vL g31 y30.1,vI v45,vI 0]) [] H53 (by kernel_rfl) trivial fun _ _ H58 hb => ?_
     replace hS:=hS.below hb
     clear H53 hb
     apply w_block
     refine w_loop (fun kk a' w' => ∃ (v59 : Int),law27_ShortWritten_L2 m y30 v45 kk v59 = some _ ∧ Fr 145 (fS [1,3,4,6,8,9] [vP b1,vB y6,vL g18 y17.1,vL g31 y30.1,vI v45,vI v59]) a' ∧ SH M X w [eO 9 tS y30.1 g31,eO 44 tyLong y17.1 g18,eB b1 [vS d_.Name,vL g_d__0 d_.Value,vB d_.Important],eI tyValue d_.Value g_d__0,gE0] w') ⟨_,0,hm,FrG.keep (ks:=[1,3,4,6,8,9]) H58 (by kernel_rfl),hS⟩ ?_
     clear hm H58 hS
     rintro kk _ _ ⟨v59,hm,H,hS⟩
     cases kk with
     | zero => exact noneE hm
     | succ kk =>
      rw [law27_ShortWritten_L2] at hm
      apply w_seq
      refine s_reg [] [1,3,4,6,8,9,79] (fS [1,3,4,6,8,9,79] [vP b1,vB y6,vL g18 y17.1,vL g31 y30.1,vI v45,vI v59,vB (decide (v59 < v45))]) [] H (by kernel_rfl) trivial fun _ _ H61 hb => ?_
      replace hS:=hS.below hb
      clear H hb
      refine w_if H61 rfl (fun hc => ?_) (fun hc => ?c70)
      case c70 =>
       replace hm:=bF hc hm
       apply w_exit rfl
       obtain rfl:=someE hm
       exact ⟨_,rfl,FrG.keep (ks:=[1,3,4,6,8]) H61 (by kernel_rfl),hS⟩
      replace hm:=bT hc hm
      apply w_skip
      apply w_seq
      apply w_block
      obtain ⟨ho62,hm⟩:=chkE hm
      refine s_draw [(vS (gi y30.1 v59)),(vS (gi y30.1 v45))] [1,3,4,6,8,9,90] (fS [1,3,4,6,8,9,90] [vP b1,vB y6,vL g18 y17.1,vL g31 y30.1,vI v45,vI v59,vB ((gi y30.1 v59) == (gi y30.1 v45))]) [fun _ => oka g31.a ∧ 0 ≤ v59 ∧ v59 < ln y30.1,fun wz => V.at1 ⟨ab g31.a,ao g31.a + (v59).toNat * 1,none⟩ (vS (gi y30.1 v59)) wz,fun _ => oka g31.a ∧ 0 ≤ v45 ∧ v45 < ln y30.1,fun wz => V.at1 ⟨ab g31.a,ao g31.a + (v45).toNat * 1,none⟩ (vS (gi y30.1 v45)) wz] H61 (by kernel_rfl) (by kernel_rfl) (by kernel_rfl) ⟨((hS.osl 0 rfl).oki ho62),((hS.osl 0 rfl).at1 ho62 0 rfl),((hS.osl 0 rfl).oki ho50),((hS.osl 0 rfl).at1 ho50 0 rfl),trivial⟩ fun _ _ H64 hb => ?_
      replace hS:=hS.below hb
      clear H61 hb
      refine w_if H64 rfl (fun hc => ?_) (fun hc => ?c69)
      case c69 =>
       replace hm:=bF hc hm
       apply w_skip
       refine w_reg [] [1,3,4,6,8,9] (fS [1,3,4,6,8,9] [vP b1,vB y6,vL g18 y17.1,vL g31 y30.1,vI v45,vI (w64 (v59 + 1))]) [] H64 (by kernel_rfl) trivial fun _ _ H68 hb => ?_
       replace hS:=hS.below hb
       clear H64 hb
       exact ⟨_,Nat.lt_succ_self _,w64 (v59 + 1),hm,FrG.keep (ks:=[1,3,4,6,8,9]) H68 (by kernel_rfl),hS⟩
      replace hm:=bT hc hm
      refine s_reg [] [2] [(2,[],vF)] [] H64 (by kernel_rfl) trivial fun _ _ H66 hb => ?_
      replace hS:=hS.below hb
      clear H64 hb
      apply w_ret
      obtain rfl:=someE hm
      have hm:=hm_z56
      obtain rfl:=someE hm
      have hm:=hm_z48
      obtain rfl:=someE hm
      have hm:=hm_z42
      obtain rfl:=someE hm
      exact retR1 H66 rfl rfl ⟨_,rfl,rfl,(hS.sel [] rfl)⟩
    ·rintro _ _ ⟨s_z56,hz,H,hS⟩
     subst hz
     replace hm:=sumR hm_z56
     obtain ⟨y74,hy74,hm⟩:=bindE hm
     refine s_drawS (base:=(fS [1,3,4,6,8] [vP b1,vB y6,vL g18 y17.1,vL g31 y30.1,vI v45])) (L:=[eO 9 tS y30.1 g31,eO 44 tyLong y17.1 g18,eB b1 [vS d_.Name,vL g_d__0 d_.Value,vB d_.Important],eI tyValue d_.Value g_d__0,gE0]) 17 5 (fun yg72 => [vL g18 y17.1,vI v45,.pointer (some ⟨ab g18.a,ao g18.a + (v45).toNat * 3,none⟩),.pointer (some ⟨ab g18.a,ao g18.a + (v45).toNat * 3,none⟩),vS (gi y17.1 v45).Name,vL g18 y17.1,vI v45,.pointer (some ⟨ab g18.a,ao g18.a + (v45).toNat * 3,none⟩),.pointer (some ⟨ab g18.a,ao g18.a + (v45).toNat * 3 + 1,none⟩),.slice (g18.s (v45).toNat 0).a (((gi y17.1 v45).Value).length) (g18.s (v45).toNat 0).c,vG [vS (gi y17.1 v45).Name,.slice (g18.s (v45).toNat 0).a (((gi y17.1 v45).Value).length) (g18.s (v45).toNat 0).c,vF],vW [.slice (yg72 11 0).a y74.1.length (yg72 11 0).c,vI y74.2],vW [.slice (yg72 11 0).a y74.1.length (yg72 11 0).c,vI y74.2],.slice (yg72 11 0).a y74.1.length (yg72 11 0).c,vI y74.2,.slice (yg72 11 0).a y74.1.length (yg72 11 0).c,vI y74.2]) (fun yg72 => [[],[],[],[],[],[],[],[],[],[],[],[eO 44 tyLong y74.1 (yg72 11 0),eI tyValue ((gi y17.1 v45).Value) (g18.s (v45).toNat 0)],[],[],[],[],[]]) [[],[],[18],[18],[18],[],[],[18],[18],[18],[18],[18,21],[],[11],[11],[11],[]] [[],[],[],[],[],[],[],[],[],[],[],[],[],[],[],[],[]] [[0],[1],[0,1,2],[0,1,2,3],[0,1,2,3,4],[5],[6],[5,6,7],[5,6,7,8],[5,6,7,8,9],[0,1,2,3,4,5,6,7,8,9,10],[0,1,2,3,4,5,6,7,8,9,10,11],[0,1,2,3,4,5,6,7,8,9,10,11,12],[0,1,2,3,4,5,6,7,8,9,10,11,12,13],[0,1,2,3,4,5,6,7,8,9,10,11,12,14],[0,1,2,3,4,5,6,7,8,9,10,11,12,13,15],[0,1,2,3,4,5,6,7,8,9,10,11,12,14,16]] [] (FrG.keep (ks:=[1,3,4,6,8]) H (by kernel_rfl)) (fun _ _ h => by cases h) (by kernel_rfl) hS (by kernel_rfl) rfl rfl (by kernel_rfl) (by kernel_rfl) (by kernel_rfl) (gd_none (by kernel_rfl) _ _) ?hloc_yg72 ?hstep_yg72 fun _ _ yg72 H78 hv hS => ?hK_yg72
     case hloc_yg72 => exact ⟨(fun _ _ _ _ => ⟨rfl,rfl⟩),(fun _ _ _ _ => ⟨rfl,rfl⟩),(fun _ _ _ _ => ⟨rfl,rfl⟩),(fun _ _ _ _ => ⟨rfl,rfl⟩),(fun _ _ _ _ => ⟨rfl,rfl⟩),(fun _ _ _ _ => ⟨rfl,rfl⟩),(fun _ _ _ _ => ⟨rfl,rfl⟩),(fun _ _ _ _ => ⟨rfl,rfl⟩),(fun _ _ _ _ => ⟨rfl,rfl⟩),(fun _ _ _ _ => ⟨rfl,rfl⟩),(fun _ _ _ _ => ⟨rfl,rfl⟩),(fun _ i g hi => lcG [11] (fun yg72 => (vW [.slice (yg72 11 0).a y74.1.length (yg72 11 0).c,vI y74.2],[eO 44 tyLong y74.1 (yg72 11 0),eI tyValue ((gi y17.1 v45).Value) (g18.s (v45).toNat 0)])) hi rfl),(fun _ i g hi => lcG [11] (fun yg72 => (vW [.slice (yg72 11 0).a y74.1.length (yg72 11 0).c,vI y74.2],[])) hi rfl),(fun _ i g hi => lcG [11] (fun yg72 => (.slice (yg72 11 0).a y74.1.length (yg72 11 0).c,[])) hi rfl),(fun _ _ _ _ => ⟨rfl,rfl⟩),(fun _ i g hi => lcG [11] (fun yg72 => (.slice (yg72 11 0).a y74.1.length (yg72 11 0).c,[])) hi rfl),(fun _ _ _ _ => ⟨rfl,rfl⟩),trivial⟩
     case hstep_yg72 =>
      refine ⟨?_,?_,?_,?_,?_,?_,?_,?_,?_,?_,?_,?_,?_,?_,?_,?_,?_,trivial⟩
      ·intro o ho a w yg72 M Hb hv hO hS
       obtain rfl:=someE ho
       exact Stp.mono (o_evs [] (vL g18 y17.1) none [] Hb rfl (by kernel_rfl) (fun q e => by cases e)) fun _ _ hq => ⟨gL [],fun _ _ => hq.1,(hS.below hq.2.below).sel [] rfl⟩
      ·intro o ho a w yg72 M Hb hv hO hS
       obtain rfl:=someE ho
       exact Stp.mono (o_evs [] (vI v45) none [] Hb rfl (by kernel_rfl) (fun q e => by cases e)) fun _ _ hq => ⟨gL [],fun _ _ => hq.1,(hS.below hq.2.below).sel [] rfl⟩
      ·intro o ho a w yg72 M Hb hv hO hS
       obtain rfl:=someE ho
       exact Stp.mono (o_evs [] (.pointer (some ⟨ab g18.a,ao g18.a + (v45).toNat * 3,none⟩)) (some (fun _ => oka g18.a ∧ 0 ≤ v45 ∧ v45 < ln y17.1)) [] (((Hb).add (hv 0 (by decide) (by decide) 92 rfl)).add (hv 1 (by decide) (by decide) 93 rfl)) rfl (by kernel_rfl) (fun q e => by cases e; exact ((hS.osl 0 rfl).oki ho49))) fun _ _ hq => ⟨gL [],fun _ _ => hq.1,(hS.below hq.2.below).sel [0] rfl⟩
      ·intro o ho a w yg72 M Hb hv hO hS
       obtain rfl:=someE ho
       exact Stp.mono (o_evs [] (.pointer (some ⟨ab g18.a,ao g18.a + (v45).toNat * 3,none⟩)) none [] ((Hb).add (hv 2 (by decide) (by decide) 94 rfl)) rfl (by kernel_rfl) (fun q e => by cases e)) fun _ _ hq => ⟨gL [],fun _ _ => hq.1,(hS.below hq.2.below).sel [0] rfl⟩
      ·intro o ho a w yg72 M Hb hv hO hS
       obtain rfl:=someE ho
       exact Stp.mono (o_evs [(vS (gi y17.1 v45).Name)] (vS (gi y17.1 v45).Name) (some (fun wz => V.at1 ⟨ab g18.a,ao g18.a + (v45).toNat * 3,none⟩ (vS (gi y17.1 v45).Name) wz)) [] ((Hb).add (hv 3 (by decide) (by decide) 95 rfl)) rfl (by kernel_rfl) (fun q e => by cases e; exact ((hS.osl 0 rfl).at1 ho49 0 rfl))) fun _ _ hq => ⟨gL [],fun _ _ => hq.1,(hS.below hq.2.below).sel [0] rfl⟩
      ·intro o ho a w yg72 M Hb hv hO hS
       obtain rfl:=someE ho
       exact Stp.mono (o_evs [] (vL g18 y17.1) none [] Hb rfl (by kernel_rfl) (fun q e => by cases e)) fun _ _ hq => ⟨gL [],fun _ _ => hq.1,(hS.below hq.2.below).sel [] rfl⟩
      ·intro o ho a w yg72 M Hb hv hO hS
       obtain rfl:=someE ho
       exact Stp.mono (o_evs [] (vI v45) none [] Hb rfl (by kernel_rfl) (fun q e => by cases e)) fun _ _ hq => ⟨gL [],fun _ _ => hq.1,(hS.below hq.2.below).sel [] rfl⟩
      ·intro o ho a w yg72 M Hb hv hO hS
       obtain rfl:=someE ho
       exact Stp.mono (o_evs [] (.pointer (some ⟨ab g18.a,ao g18.a + (v45).toNat * 3,none⟩)) (some (fun _ => oka g18.a ∧ 0 ≤ v45 ∧ v45 < ln y17.1)) [] (((Hb).add (hv 5 (by decide) (by decide) 97 rfl)).add (hv 6 (by decide) (by decide) 98 rfl)) rfl (by kernel_rfl) (fun q e => by cases e; exact ((hS.osl 0 rfl).oki ho49))) fun _ _ hq => ⟨gL [],fun _ _ => hq.1,(hS.below hq.2.below).sel [0] rfl⟩
      ·intro o ho a w yg72 M Hb hv hO hS
       obtain rfl:=someE ho
       exact Stp.mono (o_evs [] (.pointer (some ⟨ab g18.a,ao g18.a + (v45).toNat * 3 + 1,none⟩)) none [] ((Hb).add (hv 7 (by decide) (by decide) 99 rfl)) rfl (by kernel_rfl) (fun q e => by cases e)) fun _ _ hq => ⟨gL [],fun _ _ => hq.1,(hS.below hq.2.below).sel [0] rfl⟩
      ·intro o ho a w yg72 M Hb hv hO hS
       obtain rfl:=someE ho
       exact Stp.mono (o_evs [(.slice (g18.s (v45).toNat 0).a (((gi y17.1 v45).Value).length) (g18.s (v45).toNat 0).c)] (.slice (g18.s (v45).toNat 0).a (((gi y17.1 v45).Value).length) (g18.s (v45).toNat 0).c) (some (fun wz => V.at1 ⟨ab g18.a,ao g18.a + (v45).toNat * 3 + 1,none⟩ (.slice (g18.s (v45).toNat 0).a (((gi y17.1 v45).Value).length) (g18.s (v45).toNat 0).c) wz)) [] ((Hb).add (hv 8 (by decide) (by decide) 100 rfl)) rfl (by kernel_rfl) (fun q e => by cases e; exact ((hS.osl 0 rfl).at1 ho49 1 rfl))) fun _ _ hq => ⟨gL [],fun _ _ => hq.1,(hS.below hq.2.below).sel [0] rfl⟩
      ·intro o ho a w yg72 M Hb hv hO hS
       obtain rfl:=someE ho
       exact Stp.mono (o_evs [] (vG [vS (gi y17.1 v45).Name,.slice (g18.s (v45).toNat 0).a (((gi y17.1 v45).Value).length) (g18.s (v45).toNat 0).c,vF]) none [] (((Hb).add (hv 4 (by decide) (by decide) 96 rfl)).add (hv 9 (by decide) (by decide) 101 rfl)) rfl (by kernel_rfl) (fun q e => by cases e)) fun _ _ hq => ⟨gL [],fun _ _ => hq.1,(hS.below hq.2.below).sel [0] rfl⟩
      ·intro o ho a w yg72 M Hb hv hO hS0
       obtain rfl:=someE ho
       have H : Fr 145 ([(102,[],vG [vS (gi y17.1 v45).Name,.slice (g18.s (v45).toNat 0).a (((gi y17.1 v45).Value).length) (g18.s (v45).toNat 0).c,vF])] ++ (fS [1,3,4,6,8] [vP b1,vB y6,vL g18 y17.1,vL g31 y30.1,vI v45])) _:=(Hb).add (hv 10 (by decide) (by decide) 102 rfl)
       obtain ⟨X,hX⟩ : ∃ X,X = fpl [eO 44 tyLong y17.1 g18,gE0]:=⟨_,rfl⟩
       have hS : SH M X w [eO 44 tyLong y17.1 g18,gE0] w:=by rw [hX]; exact hS0
       replace hS : SH M X w [eI tyValue ((gi y17.1 v45).Value) (g18.s (v45).toNat 0),eO 44 tyLong y17.1 g18,gE0] _:=hS.addIm (tyLong_i0 ((hS.ow 0 rfl).el ho49))
       have hd:=hS.hand [0,2] [0,1,2] rfl rfl
       refine Stp.mono (o_callx H rfl rfl (short_Expand_ok (g_d__0:=(g18.s (v45).toNat 0)) m _ _ hy74 _ _ hd)) ?_
       rintro v w2 hq
       obtain ⟨g75,rfl,hq⟩:=hq
       replace hS : SH M X w [eO 44 tyLong y74.1 g75,eI tyValue ((gi y17.1 v45).Value) (g18.s (v45).toNat 0),eO 44 tyLong y17.1 g18,gE0] _:=hS.join [0,2] [0,1,2] rfl rfl hq
       clear hq
       rw [hX] at hS
       exact ⟨gL [g75],fun _ _ => rfl,hS.sel [0,1,2,3] rfl⟩
      ·intro o ho a w yg72 M Hb hv hO hS
       obtain rfl:=someE ho
       exact Stp.mono (o_evs [] (vW [.slice (yg72 11 0).a y74.1.length (yg72 11 0).c,vI y74.2]) none [] ((Hb).add (hv 11 (by decide) (by decide) 103 rfl)) rfl (by kernel_rfl) (fun q e => by cases e)) fun _ _ hq => ⟨gL [],fun _ _ => hq.1,(hS.below hq.2.below).sel [] rfl⟩
      ·intro o ho a w yg72 M Hb hv hO hS
       obtain rfl:=someE ho
       exact Stp.mono (o_evs [] (.slice (yg72 11 0).a y74.1.length (yg72 11 0).c) none [] ((Hb).add (hv 12 (by decide) (by decide) 91 rfl)) rfl (by kernel_rfl) (fun q e => by cases e)) fun _ _ hq => ⟨gL [],fun _ _ => hq.1,(hS.below hq.2.below).sel [0,1] rfl⟩
      ·intro o ho a w yg72 M Hb hv hO hS
       obtain rfl:=someE ho
       exact Stp.mono (o_evs [] (vI y74.2) none [] ((Hb).add (hv 12 (by decide) (by decide) 91 rfl)) rfl (by kernel_rfl) (fun q e => by cases e)) fun _ _ hq => ⟨gL [],fun _ _ => hq.1,(hS.below hq.2.below).sel [0,1] rfl⟩
      ·intro o ho a w yg72 M Hb hv hO hS
       obtain rfl:=someE ho
       exact Stp.mono (o_evs [] (.slice (yg72 11 0).a y74.1.length (yg72 11 0).c) none [] ((Hb).add (hv 13 (by decide) (by decide) 104 rfl)) rfl (by kernel_rfl) (fun q e => by cases e)) fun _ _ hq => ⟨gL [],fun _ _ => hq.1,(hS.below hq.2.below).sel [0,1] rfl⟩
      ·intro o ho a w yg72 M Hb hv hO hS
       obtain rfl:=someE ho
       exact Stp.mono (o_evs [] (vI y74.2) none [] ((Hb).add (hv 14 (by decide) (by decide) 105 rfl)) rfl (by kernel_rfl) (fun q e => by cases e)) fun _ _ hq => ⟨gL [],fun _ _ => hq.1,(hS.below hq.2.below).sel [] rfl⟩
     have H79 : Fr 145 (fS [11,10,1,3,4,6,8] [vI y74.2,.slice (yg72 11 0).a y74.1.length (yg72 11 0).c,vP b1,vB y6,vL g18 y17.1,vL g31 y30.1,vI v45]) _:=(FrG.add (FrG.add (FrG.keep (ks:=[1,3,4,6,8]) H78 (by kernel_rfl)) (hv 15 10 rfl)) (hv 16 11 rfl))
     replace hS : SH M X w [eO 44 tyLong y74.1 (yg72 11 0),eI tyValue ((gi y17.1 v45).Value) (g18.s (v45).toNat 0),eO 9 tS y30.1 g31,eO 44 tyLong y17.1 g18,eB b1 [vS d_.Name,vL g_d__0 d_.Value,vB d_.Important],eI tyValue d_.Value g_d__0,gE0] _:=hS
     clear hv H78
     generalize yg72 11 0 = g80 at H79 hS
     replace hS : SH M X w [eO 44 tyLong y74.1 g80,eO 9 tS y30.1 g31,eO 44 tyLong y17.1 g18,eB b1 [vS d_.Name,vL g_d__0 d_.Value,vB d_.Important],eI tyValue d_.Value g_d__0,gE0] _:=hS.sel [0,2,3,4,5,6] rfl
     apply w_seq
     apply wl_start
     refine wl_batch 0 4 [(vG [vS (gi y17.1 v45).Name,.slice (g18.s (v45).toNat 0).a (((gi y17.1 v45).Value).length) (g18.s (v45).toNat 0).c,vS (gi y17.1 v45).Whole])] [1,3,4,6,8,10,11,109] (fS [1,3,4,6,8,10,11,109] [vP b1,vB y6,vL g18 y17.1,vL g31 y30.1,vI v45,vL g80 y74.1,vI y74.2,vG [vS (gi y17.1 v45).Name,.slice (g18.s (v45).toNat 0).a (((gi y17.1 v45).Value).length) (g18.s (v45).toNat 0).c,vS (gi y17.1 v45).Whole]]) [fun _ => oka g18.a ∧ 0 ≤ v45 ∧ v45 < ln y17.1,fun wz => V.atN (ab g18.a) (ao g18.a + (v45).toNat * 3) [vS (gi y17.1 v45).Name,.slice (g18.s (v45).toNat 0).a (((gi y17.1 v45).Value).length) (g18.s (v45).toNat 0).c,vS (gi y17.1 v45).Whole] 0 wz] H79 (by decide) (by kernel_rfl) ⟨((hS.osl 2 rfl).oki ho49),((hS.osl 2 rfl).atA ho49 0 rfl),trivial⟩ fun _ _ H82 hb => ?_
     replace hS:=hS.below hb
     clear H79 hb
     have hd:=hS.hand [] [0,1,2,3,4,5] rfl rfl
     refine m_stp [12,1,3,4,6,8,10,11,109] (fS [1,3,4,6,8,10,11,109] [vP b1,vB y6,vL g18 y17.1,vL g31 y30.1,vI v45,vL g80 y74.1,vI y74.2,vG [vS (gi y17.1 v45).Name,.slice (g18.s (v45).toNat 0).a (((gi y17.1 v45).Value).length) (g18.s (v45).toNat 0).c,vS (gi y17.1 v45).Whole]]) H82 rfl rfl rfl rfl (o_alloc [vN,vO,vN] (z:=vG [vN,vO,vN]) hd (by kernel_rfl) rfl) (fun _ => rfl) fun _ _ v H85 hq => ?_
     clear H82 hd
     obtain ⟨b83,rfl,hq⟩:=hq
     replace hS : SH M X w [eB b83 [vN,vO,vN],eO 44 tyLong y74.1 g80,eO 9 tS y30.1 g31,eO 44 tyLong y17.1 g18,eB b1 [vS d_.Name,vL g_d__0 d_.Value,vB d_.Important],eI tyValue d_.Value g_d__0,gE0] _:=hS.join [] [0,1,2,3,4,5] rfl rfl hq
     clear hq
     have hd:=hS.hand [0] [1,2,3,4,5,6] rfl rfl
     refine m_stp0 [1,3,4,6,8,10,11,12] (fS [1,3,4,6,8,10,11,12] [vP b1,vB y6,vL g18 y17.1,vL g31 y30.1,vI v45,vL g80 y74.1,vI y74.2,vP b83]) H85 rfl rfl rfl (o_store [vS (gi y17.1 v45).Name,.slice (g18.s (v45).toNat 0).a (((gi y17.1 v45).Value).length) (g18.s (v45).toNat 0).c,vS (gi y17.1 v45).Whole] H85 hd rfl rfl (by kernel_rfl) rfl rfl rfl) rfl fun _ _ H87 hq => ?_
     clear H85 hd
     obtain ⟨_,hq⟩:=hq
     replace hS : SH M X w [eB b83 [vS (gi y17.1 v45).Name,.slice (g18.s (v45).toNat 0).a (((gi y17.1 v45).Value).length) (g18.s (v45).toNat 0).c,vS (gi y17.1 v45).Whole],eO 44 tyLong y74.1 g80,eO 9 tS y30.1 g31,eO 44 tyLong y17.1 g18,eB b1 [vS d_.Name,vL g_d__0 d_.Value,vB d_.Important],eI tyValue d_.Value g_d__0,gE0] _:=hS.join [0] [1,2,3,4,5,6] rfl rfl hq
     clear hq
     apply wl_end rfl
     apply w_seq
     apply wl_start
     refine wl_batch 0 1 [] [1,3,4,6,8,10,11,12,110] (fS [1,3,4,6,8,10,11,12,110] [vP b1,vB y6,vL g18 y17.1,vL g31 y30.1,vI v45,vL g80 y74.1,vI y74.2,vP b83,vA b83 2]) [] H87 (by decide) (by kernel_rfl) trivial fun _ _ H89 hb => ?_
     replace hS:=hS.below hb
     clear H87 hb
     have hd:=hS.hand [0] [1,2,3,4,5,6] rfl rfl
     refine m_stp0 [1,3,4,6,8,10,11,12] (fS [1,3,4,6,8,10,11,12] [vP b1,vB y6,vL g18 y17.1,vL g31 y30.1,vI v45,vL g80 y74.1,vI y74.2,vP b83]) H89 rfl rfl rfl (o_store [vS (gi y17.1 v45).Name,.slice (g18.s (v45).toNat 0).a (((gi y17.1 v45).Value).length) (g18.s (v45).toNat 0).c,vN] H89 hd rfl rfl (by kernel_rfl) rfl rfl rfl) rfl fun _ _ H91 hq => ?_
     clear H89 hd
     obtain ⟨_,hq⟩:=hq
     replace hS : SH M X w [eB b83 [vS (gi y17.1 v45).Name,.slice (g18.s (v45).toNat 0).a (((gi y17.1 v45).Value).length) (g18.s (v45).toNat 0).c,vN],eO 44 tyLong y74.1 g80,eO 9 tS y30.1 g31,eO 44 tyLong y17.1 g18,eB b1 [vS d_.Name,vL g_d__0 d_.Value,vB d_.Important],eI tyValue d_.Value g_d__0,gE0] _:=hS.join [0] [1,2,3,4,5,6] rfl rfl hq
     clear hq
     apply wl_end rfl
     generalize hz_z92 : (!(((gi y17.1 v45).Whole) == [])) = z92 at hm
     cases z92
     case false =>
      replace hm:=bF rfl hm
      obtain ⟨ho112,hm⟩:=chkE hm
      obtain ⟨y116,hy116,hm⟩:=bindE hm
      obtain ⟨ho117,hm⟩:=chkE hm
      obtain ⟨x118,hx118,hm⟩:=letE hm
      refine s_drawG (base:=(fS [1,3,4,6,8,10,11,12] [vP b1,vB y6,vL g18 y17.1,vL g31 y30.1,vI v45,vL g80 y74.1,vI y74.2,vP b83])) (L:=[eB b83 [vS (gi y17.1 v45).Name,.slice (g18.s (v45).toNat 0).a (((gi y17.1 v45).Value).length) (g18.s (v45).toNat 0).c,vN],eO 44 tyLong y74.1 g80,eO 9 tS y30.1 g31,eO 44 tyLong y17.1 g18,eB b1 [vS d_.Name,vL g_d__0 d_.Value,vB d_.Important],eI tyValue d_.Value g_d__0,gE0]) 33 7 (fun yg111 => [vI y74.2,vB (y74.2 != 0),vB (y74.2 != 0),vL g80 y74.1,vG [vS (gi y17.1 v45).Name,.slice (g18.s (v45).toNat 0).a (((gi y17.1 v45).Value).length) (g18.s (v45).toNat 0).c,vN],vK (yg111 5 0) 1,vB y116,vB (!y116),vB (cond (y74.2 != 0) true (!y116)),vB (cond (y74.2 != 0) true (!y116)),vL g18 y17.1,vI v45,.pointer (some ⟨ab g18.a,ao g18.a + (v45).toNat * 3,none⟩),.pointer (some ⟨ab g18.a,ao g18.a + (v45).toNat * 3 + 2,none⟩),vS (gi y17.1 v45).Whole,vB (!(((gi y17.1 v45).Whole) == [])),vF,undef,undef,undef,undef,undef,undef,undef,undef,undef,undef,undef,undef,undef,undef,vF,vB x118]) (fun yg111 => [[],[],[],[],[],[eO 44 tyLong ([(TLong.mk ((gi y17.1 v45).Name) ((gi y17.1 v45).Value) [])] : List TLong) (yg111 5 0),eI tyValue ((gi y17.1 v45).Value) (g18.s (v45).toNat 0)],[],[],[],[],[],[],[],[],[],[],[],[],[],[],[],[],[],[],[],[],[],[],[],[],[],[],[]]) [[],[],[],[],[33,36],[36],[5,34],[],[],[],[],[],[36],[36],[36],[],[],[],[],[],[],[],[],[],[],[],[],[],[],[],[],[],[]] [[],[],[],[],[],[],[],[],[],[],[],[],[],[],[],[],[],[],[],[],[],[],[],[],[],[],[],[],[],[],[],[],[]] [[0],[0,1],[0,1,2],[0,1,2,3],[0,1,2,4],[0,1,2,4,5],[0,1,2,3,4,5,6],[0,1,2,3,4,5,6,7],[0,1,2,3,4,5,6,7,8],[0,1,2,3,4,5,6,7,8,9],[0,1,2,3,4,5,6,7,8,9,10],[0,1,2,3,4,5,6,7,8,9,11],[0,1,2,3,4,5,6,7,8,9,10,11,12],[0,1,2,3,4,5,6,7,8,9,10,11,12,13],[0,1,2,3,4,5,6,7,8,9,10,11,12,13,14],[0,1,2,3,4,5,6,7,8,9,10,11,12,13,14,15],[0,1,2,3,4,5,6,7,8,9,10,11,12,13,14,15,16],[0,1,2,3,4,5,6,7,8,9,10,11,12,13,14,15,16,17],[0,1,2,3,4,5,6,7,8,9,10,11,12,13,14,15,16,18],[0,1,2,3,4,5,6,7,8,9,10,11,12,13,14,15,16,19],[0,1,2,3,4,5,6,7,8,9,10,11,12,13,14,15,16,20],[0,1,2,3,4,5,6,7,8,9,10,11,12,13,14,15,16,21],[0,1,2,3,4,5,6,7,8,9,10,11,12,13,14,15,16,22],[0,1,2,3,4,5,6,7,8,9,10,11,12,13,14,15,16,23],[0,1,2,3,4,5,6,7,8,9,10,11,12,13,14,15,16,24],[0,1,2,3,4,5,6,7,8,9,10,11,12,13,14,15,16,25],[0,1,2,3,4,5,6,7,8,9,10,11,12,13,14,15,16,25,26],[0,1,2,3,4,5,6,7,8,9,10,11,12,13,14,15,16,25,27],[0,1,2,3,4,5,6,7,8,9,10,11,12,13,14,15,16,25,28],[0,1,2,3,4,5,6,7,8,9,10,11,12,13,14,15,16,25,29],[0,1,2,3,4,5,6,7,8,9,10,11,12,13,14,15,16,30],[0,1,2,3,4,5,6,7,8,9,10,11,12,13,14,15,16,30,31],[0,1,2,3,4,5,6,7,8,9,10,11,12,13,14,15,16,30,31,32]] [] (FrG.keep (ks:=[1,3,4,6,8,10,11,12]) H91 (by kernel_rfl)) (fun _ _ h => by cases h) (by kernel_rfl) hS (by kernel_rfl) rfl rfl (by kernel_rfl) (by kernel_rfl) (by kernel_rfl) ?hloc_yg111 ?hstep_yg111 fun _ _ yg111 H120 hv hS => ?hK_yg111
      case hloc_yg111 => exact ⟨(fun _ _ _ _ => ⟨rfl,rfl⟩),(fun _ _ _ _ => ⟨rfl,rfl⟩),(fun _ _ _ _ => ⟨rfl,rfl⟩),(fun _ _ _ _ => ⟨rfl,rfl⟩),(fun _ _ _ _ => ⟨rfl,rfl⟩),(fun _ i g hi => lcG [5] (fun yg111 => (vK (yg111 5 0) 1,[eO 44 tyLong ([(TLong.mk ((gi y17.1 v45).Name) ((gi y17.1 v45).Value) [])] : List TLong) (yg111 5 0),eI tyValue ((gi y17.1 v45).Value) (g18.s (v45).toNat 0)])) hi rfl),(fun _ _ _ _ => ⟨rfl,rfl⟩),(fun _ _ _ _ => ⟨rfl,rfl⟩),(fun _ _ _ _ => ⟨rfl,rfl⟩),(fun _ _ _ _ => ⟨rfl,rfl⟩),(fun _ _ _ _ => ⟨rfl,rfl⟩),(fun _ _ _ _ => ⟨rfl,rfl⟩),(fun _ _ _ _ => ⟨rfl,rfl⟩),(fun _ _ _ _ => ⟨rfl,rfl⟩),(fun _ _ _ _ => ⟨rfl,rfl⟩),(fun _ _ _ _ => ⟨rfl,rfl⟩),(fun _ _ _ _ => ⟨rfl,rfl⟩),(fun _ _ _ _ => ⟨rfl,rfl⟩),(fun _ _ _ _ => ⟨rfl,rfl⟩),(fun _ _ _ _ => ⟨rfl,rfl⟩),(fun _ _ _ _ => ⟨rfl,rfl⟩),(fun _ _ _ _ => ⟨rfl,rfl⟩),(fun _ _ _ _ => ⟨rfl,rfl⟩),(fun _ _ _ _ => ⟨rfl,rfl⟩),(fun _ _ _ _ => ⟨rfl,rfl⟩),(fun _ _ _ _ => ⟨rfl,rfl⟩),(fun _ _ _ _ => ⟨rfl,rfl⟩),(fun _ _ _ _ => ⟨rfl,rfl⟩),(fun _ _ _ _ => ⟨rfl,rfl⟩),(fun _ _ _ _ => ⟨rfl,rfl⟩),(fun _ _ _ _ => ⟨rfl,rfl⟩),(fun _ _ _ _ => ⟨rfl,rfl⟩),(fun _ _ _ _ => ⟨rfl,rfl⟩),trivial⟩
      case hstep_yg111 =>
       refine ⟨Or.inr ⟨trivial,?_⟩,Or.inr ⟨trivial,?_⟩,Or.inr ⟨trivial,?_⟩,Or.inr ⟨⟨by kernel_rfl,fun _ => congrArg Value.bool ho112⟩,?_⟩,Or.inr ⟨⟨by kernel_rfl,fun _ => congrArg Value.bool ho112⟩,?_⟩,Or.inr ⟨⟨by kernel_rfl,fun _ => congrArg Value.bool ho112⟩,?_⟩,Or.inr ⟨⟨by kernel_rfl,fun _ => congrArg Value.bool ho112⟩,?_⟩,Or.inr ⟨⟨by kernel_rfl,fun _ => congrArg Value.bool ho112⟩,?_⟩,Or.inr ⟨trivial,?_⟩,Or.inr ⟨trivial,?_⟩,Or.inr ⟨⟨by kernel_rfl,fun _ => congrArg Value.bool ho117⟩,?_⟩,Or.inr ⟨⟨by kernel_rfl,fun _ => congrArg Value.bool ho117⟩,?_⟩,Or.inr ⟨⟨by kernel_rfl,fun _ => congrArg Value.bool ho117⟩,?_⟩,Or.inr ⟨⟨by kernel_rfl,fun _ => congrArg Value.bool ho117⟩,?_⟩,Or.inr ⟨⟨by kernel_rfl,fun _ => congrArg Value.bool ho117⟩,?_⟩,Or.inr ⟨⟨by kernel_rfl,fun _ => congrArg Value.bool ho117⟩,?_⟩,Or.inr ⟨⟨by kernel_rfl,fun _ => congrArg Value.bool ho117⟩,?_⟩,Or.inl ⟨by kernel_rfl,Or.inl fun _ => rfl,fun _ => ⟨rfl,rfl⟩,rfl⟩,Or.inl ⟨by kernel_rfl,Or.inl fun _ => rfl,fun _ => ⟨rfl,rfl⟩,rfl⟩,Or.inl ⟨by kernel_rfl,Or.inl fun _ => rfl,fun _ => ⟨rfl,rfl⟩,rfl⟩,Or.inl ⟨by kernel_rfl,Or.inl fun _ => rfl,fun _ => ⟨rfl,rfl⟩,rfl⟩,Or.inl ⟨by kernel_rfl,Or.inl fun _ => rfl,fun _ => ⟨rfl,rfl⟩,rfl⟩,Or.inl ⟨by kernel_rfl,Or.inl fun _ => rfl,fun _ => ⟨rfl,rfl⟩,rfl⟩,Or.inl ⟨by kernel_rfl,Or.inl fun _ => rfl,fun _ => ⟨rfl,rfl⟩,rfl⟩,Or.inl ⟨by kernel_rfl,Or.inl fun _ => rfl,fun _ => ⟨rfl,rfl⟩,rfl⟩,Or.inl ⟨by kernel_rfl,Or.inl fun _ => rfl,fun _ => ⟨rfl,rfl⟩,rfl⟩,Or.inl ⟨by kernel_rfl,Or.inr fun _ => rfl,fun _ => ⟨rfl,rfl⟩,rfl⟩,Or.inl ⟨by kernel_rfl,Or.inr fun _ => rfl,fun _ => ⟨rfl,rfl⟩,rfl⟩,Or.inl ⟨by kernel_rfl,Or.inr fun _ => rfl,fun _ => ⟨rfl,rfl⟩,rfl⟩,Or.inl ⟨by kernel_rfl,Or.inr fun _ => rfl,fun _ => ⟨rfl,rfl⟩,rfl⟩,Or.inl ⟨by kernel_rfl,Or.inl fun _ => rfl,fun _ => ⟨rfl,rfl⟩,rfl⟩,Or.inr ⟨⟨by kernel_rfl,fun _ => congrArg Value.bool ho117⟩,?_⟩,Or.inr ⟨trivial,?_⟩,trivial⟩
       ·intro o ho a w yg111 M Hb hv hO hS
        obtain rfl:=someE ho
        exact Stp.mono (o_evs [] (vI y74.2) none [] Hb rfl (by kernel_rfl) (fun q e => by cases e)) fun _ _ hq => ⟨gL [],fun _ _ => hq.1,(hS.below hq.2.below).sel [] rfl⟩
       ·intro o ho a w yg111 M Hb hv hO hS
        obtain rfl:=someE ho
        exact Stp.mono (o_evs [] (vB (y74.2 != 0)) none [] ((Hb).add (hv 0 (by decide) (by decide) 111 rfl)) rfl (by kernel_rfl) (fun q e => by cases e)) fun _ _ hq => ⟨gL [],fun _ _ => hq.1,(hS.below hq.2.below).sel [] rfl⟩
       ·intro o ho a w yg111 M Hb hv hO hS
        obtain rfl:=someE ho
        exact Stp.mono (o_evs [] (vB (y74.2 != 0)) none [] ((Hb).add (hv 1 (by decide) (by decide) 112 rfl)) rfl (by kernel_rfl) (fun q e => by cases e)) fun _ _ hq => ⟨gL [],fun _ _ => hq.1,(hS.below hq.2.below).sel [] rfl⟩
       ·intro o ho a w yg111 M Hb hv hO hS
        obtain rfl:=someE ho
        exact Stp.mono (o_evs [] (vL g80 y74.1) none [] Hb rfl (by kernel_rfl) (fun q e => by cases e)) fun _ _ hq => ⟨gL [],fun _ _ => hq.1,(hS.below hq.2.below).sel [] rfl⟩
       ·intro o ho a w yg111 M Hb hv hO hS
        obtain rfl:=someE ho
        exact Stp.mono (o_evs [(vG [vS (gi y17.1 v45).Name,.slice (g18.s (v45).toNat 0).a (((gi y17.1 v45).Value).length) (g18.s (v45).toNat 0).c,vN])] (vG [vS (gi y17.1 v45).Name,.slice (g18.s (v45).toNat 0).a (((gi y17.1 v45).Value).length) (g18.s (v45).toNat 0).c,vN]) (some (rN b83 0 [vS (gi y17.1 v45).Name,.slice (g18.s (v45).toNat 0).a (((gi y17.1 v45).Value).length) (g18.s (v45).toNat 0).c,vN])) [] Hb rfl (by kernel_rfl) (fun q e => by cases e; exact ((hS.bk 0 rfl).atD rfl))) fun _ _ hq => ⟨gL [],fun _ _ => hq.1,(hS.below hq.2.below).sel [0,1] rfl⟩
       ·intro o ho a w yg111 M Hb hv hO hS0
        obtain rfl:=someE ho
        have H : Fr 145 ([(115,[],vG [vS (gi y17.1 v45).Name,.slice (g18.s (v45).toNat 0).a (((gi y17.1 v45).Value).length) (g18.s (v45).toNat 0).c,vN])] ++ (fS [1,3,4,6,8,10,11,12] [vP b1,vB y6,vL g18 y17.1,vL g31 y30.1,vI v45,vL g80 y74.1,vI y74.2,vP b83])) _:=(Hb).add (hv 4 (by decide) (by decide) 115 rfl)
        obtain ⟨X,hX⟩ : ∃ X,X = fpl [eO 44 tyLong y17.1 g18]:=⟨_,rfl⟩
        have hS : SH M X w [eO 44 tyLong y17.1 g18] w:=by rw [hX]; exact hS0
        replace hS : SH M X w [eI tyValue ((gi y17.1 v45).Value) (g18.s (v45).toNat 0),eO 44 tyLong y17.1 g18] _:=hS.addIm (tyLong_i0 ((hS.ow 0 rfl).el ho49))
        have hd:=hS.hand [0] [0,1] rfl rfl
        refine Stp.mono (o_lit (T:=tyLong) (E:=44) (zv:=vG [vN,vO,vN]) [vS (gi y17.1 v45).Name,.slice (g18.s (v45).toNat 0).a (((gi y17.1 v45).Value).length) (g18.s (v45).toNat 0).c,vN] ([(TLong.mk ((gi y17.1 v45).Name) ((gi y17.1 v45).Value) [])] : List TLong) [gL [(g18.s (v45).toNat 0)]] _ H hd rfl (by kernel_rfl) (by kernel_rfl) (by kernel_rfl) (by kernel_rfl) (by kernel_rfl) (by kernel_rfl) (by kernel_rfl) rfl (InnL.cons (tyLong_mk (hd.im 0 rfl)) InnL.nil)) ?_
        rintro v w2 hq
        obtain ⟨g113,rfl,hq⟩:=hq
        replace hS : SH M X w [eO 44 tyLong ([(TLong.mk ((gi y17.1 v45).Name) ((gi y17.1 v45).Value) [])] : List TLong) g113,eI tyValue ((gi y17.1 v45).Value) (g18.s (v45).toNat 0),eO 44 tyLong y17.1 g18] _:=hS.join [0] [0,1] rfl rfl hq
        clear hq
        rw [hX] at hS
        exact ⟨gL [g113],fun _ _ => rfl,hS.sel [0,1,2] rfl⟩
       ·intro o ho a w yg111 M Hb hv hO hS
        obtain rfl:=someE ho
        exact Stp.mono (o_evs [(vB y116)] (vB y116) (some (rB 17 [vL g80 y74.1,vK (yg111 5 0) 1] (vB y116))) [] (((Hb).add (hv 3 (by decide) (by decide) 114 rfl)).add (hv 5 (by decide) (by decide) 116 rfl)) rfl (by kernel_rfl) (fun q e => by cases e; exact (r27_SameLongs_ok (g_a_:=g80) (g_b_:=(yg111 5 0)) m _ _ _ hy116 _ (s0im (s0im s0nil (hS.osl 0 rfl)) (hS.osl 2 rfl))))) fun _ _ hq => ⟨gL [],fun _ _ => hq.1,(hS.below hq.2.below).sel [0,1,2] rfl⟩
       ·intro o ho a w yg111 M Hb hv hO hS
        obtain rfl:=someE ho
        exact Stp.mono (o_evs [] (vB (!y116)) none [] ((Hb).add (hv 6 (by decide) (by decide) 117 rfl)) rfl (by kernel_rfl) (fun q e => by cases e)) fun _ _ hq => ⟨gL [],fun _ _ => hq.1,(hS.below hq.2.below).sel [] rfl⟩
       ·intro o ho a w yg111 M Hb hv hO hS
        obtain rfl:=someE ho
        exact Stp.mono (o_evs [] (vB (cond (y74.2 != 0) true (!y116))) none [] (((Hb).add (hv 2 (by decide) (by decide) 113 rfl)).add (hv 7 (by decide) (by decide) 118 rfl)) rfl (by kernel_rfl) (fun q e => by cases e)) fun _ _ hq => ⟨gL [],fun _ _ => hq.1,(hS.below hq.2.below).sel [] rfl⟩
       ·intro o ho a w yg111 M Hb hv hO hS
        obtain rfl:=someE ho
        exact Stp.mono (o_evs [] (vB (cond (y74.2 != 0) true (!y116))) none [] ((Hb).add (hv 8 (by decide) (by decide) 119 rfl)) rfl (by kernel_rfl) (fun q e => by cases e)) fun _ _ hq => ⟨gL [],fun _ _ => hq.1,(hS.below hq.2.below).sel [] rfl⟩
       ·intro o ho a w yg111 M Hb hv hO hS
        obtain rfl:=someE ho
        exact Stp.mono (o_evs [] (vL g18 y17.1) none [] Hb rfl (by kernel_rfl) (fun q e => by cases e)) fun _ _ hq => ⟨gL [],fun _ _ => hq.1,(hS.below hq.2.below).sel [] rfl⟩
       ·intro o ho a w yg111 M Hb hv hO hS
        obtain rfl:=someE ho
        exact Stp.mono (o_evs [] (vI v45) none [] Hb rfl (by kernel_rfl) (fun q e => by cases e)) fun _ _ hq => ⟨gL [],fun _ _ => hq.1,(hS.below hq.2.below).sel [] rfl⟩
       ·intro o ho a w yg111 M Hb hv hO hS
        obtain rfl:=someE ho
        exact Stp.mono (o_evs [] (.pointer (some ⟨ab g18.a,ao g18.a + (v45).toNat * 3,none⟩)) (some (fun _ => oka g18.a ∧ 0 ≤ v45 ∧ v45 < ln y17.1)) [] (((Hb).add (hv 10 (by decide) (by decide) 121 rfl)).add (hv 11 (by decide) (by decide) 122 rfl)) rfl (by kernel_rfl) (fun q e => by cases e; exact ((hS.osl 0 rfl).oki ho49))) fun _ _ hq => ⟨gL [],fun _ _ => hq.1,(hS.below hq.2.below).sel [0] rfl⟩
       ·intro o ho a w yg111 M Hb hv hO hS
        obtain rfl:=someE ho
        exact Stp.mono (o_evs [] (.pointer (some ⟨ab g18.a,ao g18.a + (v45).toNat * 3 + 2,none⟩)) none [] ((Hb).add (hv 12 (by decide) (by decide) 123 rfl)) rfl (by kernel_rfl) (fun q e => by cases e)) fun _ _ hq => ⟨gL [],fun _ _ => hq.1,(hS.below hq.2.below).sel [0] rfl⟩
       ·intro o ho a w yg111 M Hb hv hO hS
        obtain rfl:=someE ho
        exact Stp.mono (o_evs [(vS (gi y17.1 v45).Whole)] (vS (gi y17.1 v45).Whole) (some (fun wz => V.at1 ⟨ab g18.a,ao g18.a + (v45).toNat * 3 + 2,none⟩ (vS (gi y17.1 v45).Whole) wz)) [] ((Hb).add (hv 13 (by decide) (by decide) 124 rfl)) rfl (by kernel_rfl) (fun q e => by cases e; exact ((hS.osl 0 rfl).at1 ho49 2 rfl))) fun _ _ hq => ⟨gL [],fun _ _ => hq.1,(hS.below hq.2.below).sel [0] rfl⟩
       ·intro o ho a w yg111 M Hb hv hO hS
        obtain rfl:=someE ho
        exact Stp.mono (o_evs [] (vB (!(((gi y17.1 v45).Whole) == []))) none [] ((Hb).add (hv 14 (by decide) (by decide) 125 rfl)) rfl (by kernel_rfl) (fun q e => by cases e)) fun _ _ hq => ⟨gL [],fun _ _ => hq.1,(hS.below hq.2.below).sel [] rfl⟩
       ·intro o ho a w yg111 M Hb hv hO hS
        obtain rfl:=someE ho
        exact Stp.mono (o_evs [] (vB (!(((gi y17.1 v45).Whole) == []))) none [] ((Hb).add (hv 15 (by decide) (by decide) 126 rfl)) rfl (by kernel_rfl) (fun q e => by cases e)) fun _ _ hq => ⟨gL [],fun _ _ => hq.1.trans (congrArg Value.bool hz_z92),(hS.below hq.2.below).sel [] rfl⟩
       ·intro o ho a w yg111 M Hb hv hO hS
        obtain rfl:=someE ho
        exact Stp.mono (o_evs [] (vF) none [] (((Hb).add (hv 16 (by decide) (by decide) 127 rfl)).add (hv 30 (by decide) (by decide) 141 rfl)) rfl (by kernel_rfl) (fun q e => by cases e)) fun _ _ hq => ⟨gL [],fun _ _ => hq.1,(hS.below hq.2.below).sel [] rfl⟩
       ·intro o ho a w yg111 M Hb hv hO hS
        obtain rfl:=someE ho
        exact Stp.mono (o_evs [] (vB x118) none [] (((Hb).add (hv 9 (by decide) (by decide) 120 rfl)).add (hv 31 (by decide) (by decide) 142 rfl)) rfl (by subst hx118; kernel_rfl) (fun q e => by cases e)) fun _ _ hq => ⟨gL [],fun _ _ => hq.1,(hS.below hq.2.below).sel [] rfl⟩
      have H121 : Fr 145 (fS [143,1,3,4,6,8] [vB x118,vP b1,vB y6,vL g18 y17.1,vL g31 y30.1,vI v45]) _:=(FrG.add (FrG.keep (ks:=[1,3,4,6,8]) H120 (by kernel_rfl)) (hv 32 143 rfl))
      replace hS : SH M X w [eO 44 tyLong ([(TLong.mk ((gi y17.1 v45).Name) ((gi y17.1 v45).Value) [])] : List TLong) (yg111 5 0),eI tyValue ((gi y17.1 v45).Value) (g18.s (v45).toNat 0),eB b83 [vS (gi y17.1 v45).Name,.slice (g18.s (v45).toNat 0).a (((gi y17.1 v45).Value).length) (g18.s (v45).toNat 0).c,vN],eO 44 tyLong y74.1 g80,eO 9 tS y30.1 g31,eO 44 tyLong y17.1 g18,eB b1 [vS d_.Name,vL g_d__0 d_.Value,vB d_.Important],eI tyValue d_.Value g_d__0,gE0] _:=hS
      clear hv H120
      generalize yg111 5 0 = g122 at H121 hS
      replace hS : SH M X w [eO 9 tS y30.1 g31,eO 44 tyLong y17.1 g18,eB b1 [vS d_.Name,vL g_d__0 d_.Value,vB d_.Important],eI tyValue d_.Value g_d__0,gE0] _:=hS.sel [4,5,6,7,8] rfl
      refine w_if H121 rfl (fun hc => ?_) (fun hc => ?c125)
      case c125 =>
       replace hm:=bF hc hm
       apply w_skip
       obtain rfl:=someE hm
       exact ⟨_,rfl,FrG.keep (ks:=[1,3,4,6,8]) H121 (by kernel_rfl),hS⟩
      replace hm:=bT hc hm
      refine s_reg [] [2] [(2,[],vF)] [] H121 (by kernel_rfl) trivial fun _ _ H124 hb => ?_
      replace hS:=hS.below hb
      clear H121 hb
      apply w_ret
      obtain rfl:=someE hm
      have hm:=hm_z48
      obtain rfl:=someE hm
      have hm:=hm_z42
      obtain rfl:=someE hm
      exact retR1 H124 rfl rfl ⟨_,rfl,rfl,(hS.sel [] rfl)⟩
     replace hm:=bT rfl hm
     obtain ⟨ho94,hm⟩:=chkE hm
     obtain ⟨y98,hy98,hm⟩:=bindE hm
     obtain ⟨ho99,hm⟩:=chkE hm
     obtain ⟨ho100,hm⟩:=chkE hm
     obtain ⟨y101,hy101,hm⟩:=bindE hm
     obtain ⟨x102,hx102,hm⟩:=letE hm
     obtain ⟨x103,hx103,hm⟩:=letE hm
     refine s_drawS (base:=(fS [1,3,4,6,8,10,11,12] [vP b1,vB y6,vL g18 y17.1,vL g31 y30.1,vI v45,vL g80 y74.1,vI y74.2,vP b83])) (L:=[eB b83 [vS (gi y17.1 v45).Name,.slice (g18.s (v45).toNat 0).a (((gi y17.1 v45).Value).length) (g18.s (v45).toNat 0).c,vN],eO 44 tyLong y74.1 g80,eO 9 tS y30.1 g31,eO 44 tyLong y17.1 g18,eB b1 [vS d_.Name,vL g_d__0 d_.Value,vB d_.Important],eI tyValue d_.Value g_d__0,gE0]) 33 7 (fun yg93 => [vI y74.2,vB (y74.2 != 0),vB (y74.2 != 0),vL g80 y74.1,vG [vS (gi y17.1 v45).Name,.slice (g18.s (v45).toNat 0).a (((gi y17.1 v45).Value).length) (g18.s (v45).toNat 0).c,vN],vK (yg93 5 0) 1,vB y98,vB (!y98),vB (cond (y74.2 != 0) true (!y98)),vB (cond (y74.2 != 0) true (!y98)),vL g18 y17.1,vI v45,.pointer (some ⟨ab g18.a,ao g18.a + (v45).toNat * 3,none⟩),.pointer (some ⟨ab g18.a,ao g18.a + (v45).toNat * 3 + 2,none⟩),vS (gi y17.1 v45).Whole,vB (!(((gi y17.1 v45).Whole) == [])),vT,vL g18 y17.1,vI v45,.pointer (some ⟨ab g18.a,ao g18.a + (v45).toNat * 3,none⟩),.pointer (some ⟨ab g18.a,ao g18.a + (v45).toNat * 3 + 2,none⟩),vS (gi y17.1 v45).Whole,vP b1,vS d_.Name,vB (!(((gi y17.1 v45).Whole) == d_.Name)),vB (!(((gi y17.1 v45).Whole) == d_.Name)),vA b1 1,vL g_d__0 d_.Value,vB y101,vB (!y101),vB x102,vB x102,vB x103]) (fun yg93 => [[],[],[],[],[],[eO 44 tyLong ([(TLong.mk ((gi y17.1 v45).Name) ((gi y17.1 v45).Value) [])] : List TLong) (yg93 5 0),eI tyValue ((gi y17.1 v45).Value) (g18.s (v45).toNat 0)],[],[],[],[],[],[],[],[],[],[],[],[],[],[],[],[],[],[],[],[],[],[],[],[],[],[],[]]) [[],[],[],[],[33,36],[36],[5,34],[],[],[],[],[],[36],[36],[36],[],[],[],[],[36],[36],[36],[37,38],[37,38],[],[],[37,38],[37,38],[38],[],[],[],[]] [[],[],[],[],[],[],[],[],[],[],[],[],[],[],[],[],[],[],[],[],[],[],[],[],[],[],[],[],[],[],[],[],[]] [[0],[0,1],[0,1,2],[0,1,2,3],[0,1,2,4],[0,1,2,4,5],[0,1,2,3,4,5,6],[0,1,2,3,4,5,6,7],[0,1,2,3,4,5,6,7,8],[0,1,2,3,4,5,6,7,8,9],[0,1,2,3,4,5,6,7,8,9,10],[0,1,2,3,4,5,6,7,8,9,11],[0,1,2,3,4,5,6,7,8,9,10,11,12],[0,1,2,3,4,5,6,7,8,9,10,11,12,13],[0,1,2,3,4,5,6,7,8,9,10,11,12,13,14],[0,1,2,3,4,5,6,7,8,9,10,11,12,13,14,15],[0,1,2,3,4,5,6,7,8,9,10,11,12,13,14,15,16],[0,1,2,3,4,5,6,7,8,9,10,11,12,13,14,15,16,17],[0,1,2,3,4,5,6,7,8,9,10,11,12,13,14,15,16,18],[0,1,2,3,4,5,6,7,8,9,10,11,12,13,14,15,16,17,18,19],[0,1,2,3,4,5,6,7,8,9,10,11,12,13,14,15,16,17,18,19,20],[0,1,2,3,4,5,6,7,8,9,10,11,12,13,14,15,16,17,18,19,20,21],[0,1,2,3,4,5,6,7,8,9,10,11,12,13,14,15,16,22],[0,1,2,3,4,5,6,7,8,9,10,11,12,13,14,15,16,22,23],[0,1,2,3,4,5,6,7,8,9,10,11,12,13,14,15,16,17,18,19,20,21,22,23,24],[0,1,2,3,4,5,6,7,8,9,10,11,12,13,14,15,16,17,18,19,20,21,22,23,24,25],[0,1,2,3,4,5,6,7,8,9,10,11,12,13,14,15,16,17,18,19,20,21,22,23,24,25,26],[0,1,2,3,4,5,6,7,8,9,10,11,12,13,14,15,16,17,18,19,20,21,22,23,24,25,26,27],[0,1,2,3,4,5,6,7,8,9,10,11,12,13,14,15,16,17,18,19,20,21,22,23,24,25,26,27,28],[0,1,2,3,4,5,6,7,8,9,10,11,12,13,14,15,16,17,18,19,20,21,22,23,24,25,26,27,28,29],[0,1,2,3,4,5,6,7,8,9,10,11,12,13,14,15,16,17,18,19,20,21,22,23,24,25,26,27,28,29,30],[0,1,2,3,4,5,6,7,8,9,10,11,12,13,14,15,16,17,18,19,20,21,22,23,24,25,26,27,28,29,30,31],[0,1,2,3,4,5,6,7,8,9,10,11,12,13,14,15,16,17,18,19,20,21,22,23,24,25,26,27,28,29,30,31,32]] [] (FrG.keep (ks:=[1,3,4,6,8,10,11,12]) H91 (by kernel_rfl)) (fun _ _ h => by cases h) (by kernel_rfl) hS (by kernel_rfl) rfl rfl (by kernel_rfl) (by kernel_rfl) (by kernel_rfl) ⟨trivial,trivial,trivial,⟨by kernel_rfl,fun _ => congrArg Value.bool ho94⟩,⟨by kernel_rfl,fun _ => congrArg Value.bool ho94⟩,⟨by kernel_rfl,fun _ => congrArg Value.bool ho94⟩,⟨by kernel_rfl,fun _ => congrArg Value.bool ho94⟩,⟨by kernel_rfl,fun _ => congrArg Value.bool ho94⟩,trivial,trivial,⟨by kernel_rfl,fun _ => congrArg Value.bool ho99⟩,⟨by kernel_rfl,fun _ => congrArg Value.bool ho99⟩,⟨by kernel_rfl,fun _ => congrArg Value.bool ho99⟩,⟨by kernel_rfl,fun _ => congrArg Value.bool ho99⟩,⟨by kernel_rfl,fun _ => congrArg Value.bool ho99⟩,⟨by kernel_rfl,fun _ => congrArg Value.bool ho99⟩,⟨by kernel_rfl,fun _ => congrArg Value.bool ho99⟩,⟨by kernel_rfl,fun _ => rfl⟩,⟨by kernel_rfl,fun _ => rfl⟩,⟨by kernel_rfl,fun _ => rfl⟩,⟨by kernel_rfl,fun _ => rfl⟩,⟨by kernel_rfl,fun _ => rfl⟩,⟨by kernel_rfl,fun _ => rfl⟩,⟨by kernel_rfl,fun _ => rfl⟩,⟨by kernel_rfl,fun _ => rfl⟩,⟨by kernel_rfl,fun _ => rfl⟩,⟨by kernel_rfl,fun _ => congrArg Value.bool ho100⟩,⟨by kernel_rfl,fun _ => congrArg Value.bool ho100⟩,⟨by kernel_rfl,fun _ => congrArg Value.bool ho100⟩,⟨by kernel_rfl,fun _ => congrArg Value.bool ho100⟩,⟨by kernel_rfl,fun _ => rfl⟩,⟨by kernel_rfl,fun _ => congrArg Value.bool ho99⟩,trivial,trivial⟩ ?hloc_yg93 ?hstep_yg93 fun _ _ yg93 H105 hv hS => ?hK_yg93
     case hloc_yg93 => exact ⟨(fun _ _ _ _ => ⟨rfl,rfl⟩),(fun _ _ _ _ => ⟨rfl,rfl⟩),(fun _ _ _ _ => ⟨rfl,rfl⟩),(fun _ _ _ _ => ⟨rfl,rfl⟩),(fun _ _ _ _ => ⟨rfl,rfl⟩),(fun _ i g hi => lcG [5] (fun yg93 => (vK (yg93 5 0) 1,[eO 44 tyLong ([(TLong.mk ((gi y17.1 v45).Name) ((gi y17.1 v45).Value) [])] : List TLong) (yg93 5 0),eI tyValue ((gi y17.1 v45).Value) (g18.s (v45).toNat 0)])) hi rfl),(fun _ _ _ _ => ⟨rfl,rfl⟩),(fun _ _ _ _ => ⟨rfl,rfl⟩),(fun _ _ _ _ => ⟨rfl,rfl⟩),(fun _ _ _ _ => ⟨rfl,rfl⟩),(fun _ _ _ _ => ⟨rfl,rfl⟩),(fun _ _ _ _ => ⟨rfl,rfl⟩),(fun _ _ _ _ => ⟨rfl,rfl⟩),(fun _ _ _ _ => ⟨rfl,rfl⟩),(fun _ _ _ _ => ⟨rfl,rfl⟩),(fun _ _ _ _ => ⟨rfl,rfl⟩),(fun _ _ _ _ => ⟨rfl,rfl⟩),(fun _ _ _ _ => ⟨rfl,rfl⟩),(fun _ _ _ _ => ⟨rfl,rfl⟩),(fun _ _ _ _ => ⟨rfl,rfl⟩),(fun _ _ _ _ => ⟨rfl,rfl⟩),(fun _ _ _ _ => ⟨rfl,rfl⟩),(fun _ _ _ _ => ⟨rfl,rfl⟩),(fun _ _ _ _ => ⟨rfl,rfl⟩),(fun _ _ _ _ => ⟨rfl,rfl⟩),(fun _ _ _ _ => ⟨rfl,rfl⟩),(fun _ _ _ _ => ⟨rfl,rfl⟩),(fun _ _ _ _ => ⟨rfl,rfl⟩),(fun _ _ _ _ => ⟨rfl,rfl⟩),(fun _ _ _ _ => ⟨rfl,rfl⟩),(fun _ _ _ _ => ⟨rfl,rfl⟩),(fun _ _ _ _ => ⟨rfl,rfl⟩),(fun _ _ _ _ => ⟨rfl,rfl⟩),trivial⟩
     case hstep_yg93 =>
      refine ⟨?_,?_,?_,?_,?_,?_,?_,?_,?_,?_,?_,?_,?_,?_,?_,?_,?_,?_,?_,?_,?_,?_,?_,?_,?_,?_,?_,?_,?_,?_,?_,?_,?_,trivial⟩
      ·intro o ho a w yg93 M Hb hv hO hS
       obtain rfl:=someE ho
       exact Stp.mono (o_evs [] (vI y74.2) none [] Hb rfl (by kernel_rfl) (fun q e => by cases e)) fun _ _ hq => ⟨gL [],fun _ _ => hq.1,(hS.below hq.2.below).sel [] rfl⟩
      ·intro o ho a w yg93 M Hb hv hO hS
       obtain rfl:=someE ho
       exact Stp.mono (o_evs [] (vB (y74.2 != 0)) none [] ((Hb).add (hv 0 (by decide) (by decide) 111 rfl)) rfl (by kernel_rfl) (fun q e => by cases e)) fun _ _ hq => ⟨gL [],fun _ _ => hq.1,(hS.below hq.2.below).sel [] rfl⟩
      ·intro o ho a w yg93 M Hb hv hO hS
       obtain rfl:=someE ho
       exact Stp.mono (o_evs [] (vB (y74.2 != 0)) none [] ((Hb).add (hv 1 (by decide) (by decide) 112 rfl)) rfl (by kernel_rfl) (fun q e => by cases e)) fun _ _ hq => ⟨gL [],fun _ _ => hq.1,(hS.below hq.2.below).sel [] rfl⟩
      ·intro o ho a w yg93 M Hb hv hO hS
       obtain rfl:=someE ho
       exact Stp.mono (o_evs [] (vL g80 y74.1) none [] Hb rfl (by kernel_rfl) (fun q e => by cases e)) fun _ _ hq => ⟨gL [],fun _ _ => hq.1,(hS.below hq.2.below).sel [] rfl⟩
      ·intro o ho a w yg93 M Hb hv hO hS
       obtain rfl:=someE ho
       exact Stp.mono (o_evs [(vG [vS (gi y17.1 v45).Name,.slice (g18.s (v45).toNat 0).a (((gi y17.1 v45).Value).length) (g18.s (v45).toNat 0).c,vN])] (vG [vS (gi y17.1 v45).Name,.slice (g18.s (v45).toNat 0).a (((gi y17.1 v45).Value).length) (g18.s (v45).toNat 0).c,vN]) (some (rN b83 0 [vS (gi y17.1 v45).Name,.slice (g18.s (v45).toNat 0).a (((gi y17.1 v45).Value).length) (g18.s (v45).toNat 0).c,vN])) [] Hb rfl (by kernel_rfl) (fun q e => by cases e; exact ((hS.bk 0 rfl).atD rfl))) fun _ _ hq => ⟨gL [],fun _ _ => hq.1,(hS.below hq.2.below).sel [0,1] rfl⟩
      ·intro o ho a w yg93 M Hb hv hO hS0
       obtain rfl:=someE ho
       have H : Fr 145 ([(115,[],vG [vS (gi y17.1 v45).Name,.slice (g18.s (v45).toNat 0).a (((gi y17.1 v45).Value).length) (g18.s (v45).toNat 0).c,vN])] ++ (fS [1,3,4,6,8,10,11,12] [vP b1,vB y6,vL g18 y17.1,vL g31 y30.1,vI v45,vL g80 y74.1,vI y74.2,vP b83])) _:=(Hb).add (hv 4 (by decide) (by decide) 115 rfl)
       obtain ⟨X,hX⟩ : ∃ X,X = fpl [eO 44 tyLong y17.1 g18]:=⟨_,rfl⟩
       have hS : SH M X w [eO 44 tyLong y17.1 g18] w:=by rw [hX]; exact hS0
       replace hS : SH M X w [eI tyValue ((gi y17.1 v45).Value) (g18.s (v45).toNat 0),eO 44 tyLong y17.1 g18] _:=hS.addIm (tyLong_i0 ((hS.ow 0 rfl).el ho49))
       have hd:=hS.hand [0] [0,1] rfl rfl
       refine Stp.mono (o_lit (T:=tyLong) (E:=44) (zv:=vG [vN,vO,vN]) [vS (gi y17.1 v45).Name,.slice (g18.s (v45).toNat 0).a (((gi y17.1 v45).Value).length) (g18.s (v45).toNat 0).c,vN] ([(TLong.mk ((gi y17.1 v45).Name) ((gi y17.1 v45).Value) [])] : List TLong) [gL [(g18.s (v45).toNat 0)]] _ H hd rfl (by kernel_rfl) (by kernel_rfl) (by kernel_rfl) (by kernel_rfl) (by kernel_rfl) (by kernel_rfl) (by kernel_rfl) rfl (InnL.cons (tyLong_mk (hd.im 0 rfl)) InnL.nil)) ?_
       rintro v w2 hq
       obtain ⟨g95,rfl,hq⟩:=hq
       replace hS : SH M X w [eO 44 tyLong ([(TLong.mk ((gi y17.1 v45).Name) ((gi y17.1 v45).Value) [])] : List TLong) g95,eI tyValue ((gi y17.1 v45).Value) (g18.s (v45).toNat 0),eO 44 tyLong y17.1 g18] _:=hS.join [0] [0,1] rfl rfl hq
       clear hq
       rw [hX] at hS
       exact ⟨gL [g95],fun _ _ => rfl,hS.sel [0,1,2] rfl⟩
      ·intro o ho a w yg93 M Hb hv hO hS
       obtain rfl:=someE ho
       exact Stp.mono (o_evs [(vB y98)] (vB y98) (some (rB 17 [vL g80 y74.1,vK (yg93 5 0) 1] (vB y98))) [] (((Hb).add (hv 3 (by decide) (by decide) 114 rfl)).add (hv 5 (by decide) (by decide) 116 rfl)) rfl (by kernel_rfl) (fun q e => by cases e; exact (r27_SameLongs_ok (g_a_:=g80) (g_b_:=(yg93 5 0)) m _ _ _ hy98 _ (s0im (s0im s0nil (hS.osl 0 rfl)) (hS.osl 2 rfl))))) fun _ _ hq => ⟨gL [],fun _ _ => hq.1,(hS.below hq.2.below).sel [0,1,2] rfl⟩
      ·intro o ho a w yg93 M Hb hv hO hS
       obtain rfl:=someE ho
       exact Stp.mono (o_evs [] (vB (!y98)) none [] ((Hb).add (hv 6 (by decide) (by decide) 117 rfl)) rfl (by kernel_rfl) (fun q e => by cases e)) fun _ _ hq => ⟨gL [],fun _ _ => hq.1,(hS.below hq.2.below).sel [] rfl⟩
      ·intro o ho a w yg93 M Hb hv hO hS
       obtain rfl:=someE ho
       exact Stp.mono (o_evs [] (vB (cond (y74.2 != 0) true (!y98))) none [] (((Hb).add (hv 2 (by decide) (by decide) 113 rfl)).add (hv 7 (by decide) (by decide) 118 rfl)) rfl (by kernel_rfl) (fun q e => by cases e)) fun _ _ hq => ⟨gL [],fun _ _ => hq.1,(hS.below hq.2.below).sel [] rfl⟩
      ·intro o ho a w yg93 M Hb hv hO hS
       obtain rfl:=someE ho
       exact Stp.mono (o_evs [] (vB (cond (y74.2 != 0) true (!y98))) none [] ((Hb).add (hv 8 (by decide) (by decide) 119 rfl)) rfl (by kernel_rfl) (fun q e => by cases e)) fun _ _ hq => ⟨gL [],fun _ _ => hq.1,(hS.below hq.2.below).sel [] rfl⟩
      ·intro o ho a w yg93 M Hb hv hO hS
       obtain rfl:=someE ho
       exact Stp.mono (o_evs [] (vL g18 y17.1) none [] Hb rfl (by kernel_rfl) (fun q e => by cases e)) fun _ _ hq => ⟨gL [],fun _ _ => hq.1,(hS.below hq.2.below).sel [] rfl⟩
      ·intro o ho a w yg93 M Hb hv hO hS
       obtain rfl:=someE ho
       exact Stp.mono (o_evs [] (vI v45) none [] Hb rfl (by kernel_rfl) (fun q e => by cases e)) fun _ _ hq => ⟨gL [],fun _ _ => hq.1,(hS.below hq.2.below).sel [] rfl⟩
      ·intro o ho a w yg93 M Hb hv hO hS
       obtain rfl:=someE ho
       exact Stp.mono (o_evs [] (.pointer (some ⟨ab g18.a,ao g18.a + (v45).toNat * 3,none⟩)) (some (fun _ => oka g18.a ∧ 0 ≤ v45 ∧ v45 < ln y17.1)) [] (((Hb).add (hv 10 (by decide) (by decide) 121 rfl)).add (hv 11 (by decide) (by decide) 122 rfl)) rfl (by kernel_rfl) (fun q e => by cases e; exact ((hS.osl 0 rfl).oki ho49))) fun _ _ hq => ⟨gL [],fun _ _ => hq.1,(hS.below hq.2.below).sel [0] rfl⟩
      ·intro o ho a w yg93 M Hb hv hO hS
       obtain rfl:=someE ho
       exact Stp.mono (o_evs [] (.pointer (some ⟨ab g18.a,ao g18.a + (v45).toNat * 3 + 2,none⟩)) none [] ((Hb).add (hv 12 (by decide) (by decide) 123 rfl)) rfl (by kernel_rfl) (fun q e => by cases e)) fun _ _ hq => ⟨gL [],fun _ _ => hq.1,(hS.below hq.2.below).sel [0] rfl⟩
      ·intro o ho a w yg93 M Hb hv hO hS
       obtain rfl:=someE ho
       exact Stp.mono (o_evs [(vS (gi y17.1 v45).Whole)] (vS (gi y17.1 v45).Whole) (some (fun wz => V.at1 ⟨ab g18.a,ao g18.a + (v45).toNat * 3 + 2,none⟩ (vS (gi y17.1 v45).Whole) wz)) [] ((Hb).add (hv 13 (by decide) (by decide) 124 rfl)) rfl (by kernel_rfl) (fun q e => by cases e; exact ((hS.osl 0 rfl).at1 ho49 2 rfl))) fun _ _ hq => ⟨gL [],fun _ _ => hq.1,(hS.below hq.2.below).sel [0] rfl⟩
      ·intro o ho a w yg93 M Hb hv hO hS
       obtain rfl:=someE ho
       exact Stp.mono (o_evs [] (vB (!(((gi y17.1 v45).Whole) == []))) none [] ((Hb).add (hv 14 (by decide) (by decide) 125 rfl)) rfl (by kernel_rfl) (fun q e => by cases e)) fun _ _ hq => ⟨gL [],fun _ _ => hq.1,(hS.below hq.2.below).sel [] rfl⟩
      ·intro o ho a w yg93 M Hb hv hO hS
       obtain rfl:=someE ho
       exact Stp.mono (o_evs [] (vB (!(((gi y17.1 v45).Whole) == []))) none [] ((Hb).add (hv 15 (by decide) (by decide) 126 rfl)) rfl (by kernel_rfl) (fun q e => by cases e)) fun _ _ hq => ⟨gL [],fun _ _ => hq.1.trans (congrArg Value.bool hz_z92),(hS.below hq.2.below).sel [] rfl⟩
      ·intro o ho a w yg93 M Hb hv hO hS
       obtain rfl:=someE ho
       exact Stp.mono (o_evs [] (vL g18 y17.1) none [] Hb rfl (by kernel_rfl) (fun q e => by cases e)) fun _ _ hq => ⟨gL [],fun _ _ => hq.1,(hS.below hq.2.below).sel [] rfl⟩
      ·intro o ho a w yg93 M Hb hv hO hS
       obtain rfl:=someE ho
       exact Stp.mono (o_evs [] (vI v45) none [] Hb rfl (by kernel_rfl) (fun q e => by cases e)) fun _ _ hq => ⟨gL [],fun _ _ => hq.1,(hS.below hq.2.below).sel [] rfl⟩
      ·intro o ho a w yg93 M Hb hv hO hS
       obtain rfl:=someE ho
       exact Stp.mono (o_evs [] (.pointer (some ⟨ab g18.a,ao g18.a + (v45).toNat * 3,none⟩)) (some (fun _ => oka g18.a ∧ 0 ≤ v45 ∧ v45 < ln y17.1)) [] (((Hb).add (hv 17 (by decide) (by decide) 128 rfl)).add (hv 18 (by decide) (by decide) 129 rfl)) rfl (by kernel_rfl) (fun q e => by cases e; exact ((hS.osl 0 rfl).oki ho49))) fun _ _ hq => ⟨gL [],fun _ _ => hq.1,(hS.below hq.2.below).sel [0] rfl⟩
      ·intro o ho a w yg93 M Hb hv hO hS
       obtain rfl:=someE ho
       exact Stp.mono (o_evs [] (.pointer (some ⟨ab g18.a,ao g18.a + (v45).toNat * 3 + 2,none⟩)) none [] ((Hb).add (hv 19 (by decide) (by decide) 130 rfl)) rfl (by kernel_rfl) (fun q e => by cases e)) fun _ _ hq => ⟨gL [],fun _ _ => hq.1,(hS.below hq.2.below).sel [0] rfl⟩
      ·intro o ho a w yg93 M Hb hv hO hS
       obtain rfl:=someE ho
       exact Stp.mono (o_evs [(vS (gi y17.1 v45).Whole)] (vS (gi y17.1 v45).Whole) (some (fun wz => V.at1 ⟨ab g18.a,ao g18.a + (v45).toNat * 3 + 2,none⟩ (vS (gi y17.1 v45).Whole) wz)) [] ((Hb).add (hv 20 (by decide) (by decide) 131 rfl)) rfl (by kernel_rfl) (fun q e => by cases e; exact ((hS.osl 0 rfl).at1 ho49 2 rfl))) fun _ _ hq => ⟨gL [],fun _ _ => hq.1,(hS.below hq.2.below).sel [0] rfl⟩
      ·intro o ho a w yg93 M Hb hv hO hS
       obtain rfl:=someE ho
       exact Stp.mono (o_evs [] (vP b1) none [] Hb rfl (by kernel_rfl) (fun q e => by cases e)) fun _ _ hq => ⟨gL [],fun _ _ => hq.1,(hS.below hq.2.below).sel [0,1] rfl⟩
      ·intro o ho a w yg93 M Hb hv hO hS
       obtain rfl:=someE ho
       exact Stp.mono (o_evs [(vS d_.Name)] (vS d_.Name) (some (rA b1 0 (vS d_.Name))) [] ((Hb).add (hv 22 (by decide) (by decide) 133 rfl)) rfl (by kernel_rfl) (fun q e => by cases e; exact ((hS.bk 0 rfl).at1 rfl))) fun _ _ hq => ⟨gL [],fun _ _ => hq.1,(hS.below hq.2.below).sel [0,1] rfl⟩
      ·intro o ho a w yg93 M Hb hv hO hS
       obtain rfl:=someE ho
       exact Stp.mono (o_evs [] (vB (!(((gi y17.1 v45).Whole) == d_.Name))) none [] (((Hb).add (hv 21 (by decide) (by decide) 132 rfl)).add (hv 23 (by decide) (by decide) 134 rfl)) rfl (by kernel_rfl) (fun q e => by cases e)) fun _ _ hq => ⟨gL [],fun _ _ => hq.1,(hS.below hq.2.below).sel [] rfl⟩
      ·intro o ho a w yg93 M Hb hv hO hS
       obtain rfl:=someE ho
       exact Stp.mono (o_evs [] (vB (!(((gi y17.1 v45).Whole) == d_.Name))) none [] ((Hb).add (hv 24 (by decide) (by decide) 135 rfl)) rfl (by kernel_rfl) (fun q e => by cases e)) fun _ _ hq => ⟨gL [],fun _ _ => hq.1,(hS.below hq.2.below).sel [] rfl⟩
      ·intro o ho a w yg93 M Hb hv hO hS
       obtain rfl:=someE ho
       exact Stp.mono (o_evs [] (vA b1 1) none [] Hb rfl (by kernel_rfl) (fun q e => by cases e)) fun _ _ hq => ⟨gL [],fun _ _ => hq.1,(hS.below hq.2.below).sel [0,1] rfl⟩
      ·intro o ho a w yg93 M Hb hv hO hS
       obtain rfl:=someE ho
       exact Stp.mono (o_evs [(vL g_d__0 d_.Value)] (vL g_d__0 d_.Value) (some (rA b1 1 (vL g_d__0 d_.Value))) [] ((Hb).add (hv 26 (by decide) (by decide) 137 rfl)) rfl (by kernel_rfl) (fun q e => by cases e; exact ((hS.bk 0 rfl).at1 rfl))) fun _ _ hq => ⟨gL [],fun _ _ => hq.1,(hS.below hq.2.below).sel [0,1] rfl⟩
      ·intro o ho a w yg93 M Hb hv hO hS
       obtain rfl:=someE ho
       exact Stp.mono (o_evs [(vB y101)] (vB y101) (some (rB 18 [vL g_d__0 d_.Value] (vB y101))) [] ((Hb).add (hv 27 (by decide) (by decide) 138 rfl)) rfl (by kernel_rfl) (fun q e => by cases e; exact (short_Var_ok (g_l_:=g_d__0) m _ _ hy101 _ (s0im s0nil (hS.im 0 rfl))))) fun _ _ hq => ⟨gL [],fun _ _ => hq.1,(hS.below hq.2.below).sel [0] rfl⟩
      ·intro o ho a w yg93 M Hb hv hO hS
       obtain rfl:=someE ho
       exact Stp.mono (o_evs [] (vB (!y101)) none [] ((Hb).add (hv 28 (by decide) (by decide) 139 rfl)) rfl (by kernel_rfl) (fun q e => by cases e)) fun _ _ hq => ⟨gL [],fun _ _ => hq.1,(hS.below hq.2.below).sel [] rfl⟩
      ·intro o ho a w yg93 M Hb hv hO hS
       obtain rfl:=someE ho
       exact Stp.mono (o_evs [] (vB x102) none [] (((Hb).add (hv 25 (by decide) (by decide) 136 rfl)).add (hv 29 (by decide) (by decide) 140 rfl)) rfl (by subst hx102; kernel_rfl) (fun q e => by cases e)) fun _ _ hq => ⟨gL [],fun _ _ => hq.1,(hS.below hq.2.below).sel [] rfl⟩
      ·intro o ho a w yg93 M Hb hv hO hS
       obtain rfl:=someE ho
       exact Stp.mono (o_evs [] (vB x102) none [] (((Hb).add (hv 16 (by decide) (by decide) 127 rfl)).add (hv 30 (by decide) (by decide) 141 rfl)) rfl (by kernel_rfl) (fun q e => by cases e)) fun _ _ hq => ⟨gL [],fun _ _ => hq.1,(hS.below hq.2.below).sel [] rfl⟩
      ·intro o ho a w yg93 M Hb hv hO hS
       obtain rfl:=someE ho
       exact Stp.mono (o_evs [] (vB x103) none [] (((Hb).add (hv 9 (by decide) (by decide) 120 rfl)).add (hv 31 (by decide) (by decide) 142 rfl)) rfl (by subst hx103; kernel_rfl) (fun q e => by cases e)) fun _ _ hq => ⟨gL [],fun _ _ => hq.1,(hS.below hq.2.below).sel [] rfl⟩
     have H106 : Fr 145 (fS [143,1,3,4,6,8] [vB x103,vP b1,vB y6,vL g18 y17.1,vL g31 y30.1,vI v45]) _:=(FrG.add (FrG.keep (ks:=[1,3,4,6,8]) H105 (by kernel_rfl)) (hv 32 143 rfl))
     replace hS : SH M X w [eO 44 tyLong ([(TLong.mk ((gi y17.1 v45).Name) ((gi y17.1 v45).Value) [])] : List TLong) (yg93 5 0),eI tyValue ((gi y17.1 v45).Value) (g18.s (v45).toNat 0),eB b83 [vS (gi y17.1 v45).Name,.slice (g18.s (v45).toNat 0).a (((gi y17.1 v45).Value).length) (g18.s (v45).toNat 0).c,vN],eO 44 tyLong y74.1 g80,eO 9 tS y30.1 g31,eO 44 tyLong y17.1 g18,eB b1 [vS d_.Name,vL g_d__0 d_.Value,vB d_.Important],eI tyValue d_.Value g_d__0,gE0] _:=hS
     clear hv H105
     generalize yg93 5 0 = g107 at H106 hS
     replace hS : SH M X w [eO 9 tS y30.1 g31,eO 44 tyLong y17.1 g18,eB b1 [vS d_.Name,vL g_d__0 d_.Value,vB d_.Important],eI tyValue d_.Value g_d__0,gE0] _:=hS.sel [4,5,6,7,8] rfl
     refine w_if H106 rfl (fun hc => ?_) (fun hc => ?c110)
     case c110 =>
      replace hm:=bF hc hm
      apply w_skip
      obtain rfl:=someE hm
      exact ⟨_,rfl,FrG.keep (ks:=[1,3,4,6,8]) H106 (by kernel_rfl),hS⟩
     replace hm:=bT hc hm
     refine s_reg [] [2] [(2,[],vF)] [] H106 (by kernel_rfl) trivial fun _ _ H109 hb => ?_
     replace hS:=hS.below hb
     clear H106 hb
     apply w_ret
     obtain rfl:=someE hm
     have hm:=hm_z48
     obtain rfl:=someE hm
     have hm:=hm_z42
     obtain rfl:=someE hm
     exact retR1 H109 rfl rfl ⟨_,rfl,rfl,(hS.sel [] rfl)⟩
   ·rintro _ _ ⟨s_z48,hz,H,hS⟩
    subst hz
    replace hm:=sumR hm_z48
    refine w_reg [] [1,3,4,6,8] (fS [1,3,4,6,8] [vP b1,vB y6,vL g18 y17.1,vL g31 y30.1,vI (w64 (v45 + 1))]) [] H (by kernel_rfl) trivial fun _ _ H129 hb => ?_
    replace hS:=hS.below hb
    clear H hb
    exact ⟨_,Nat.lt_succ_self _,w64 (v45 + 1),hm,FrG.keep (ks:=[1,3,4,6,8]) H129 (by kernel_rfl),hS⟩
 ·rintro _ _ ⟨s_z42,hz,H,hS⟩
  subst hz
  replace hm:=sumR hm_z42
  replace hS : SH M X w [gE0] _:=hS.sel [4] rfl
  refine s_reg [] [2] [(2,[],vB y6)] [] H (by kernel_rfl) trivial fun _ _ H134 hb => ?_
  replace hS:=hS.below hb
  clear H hb
  apply w_ret
  obtain rfl:=someE hm
  exact retR1 H134 rfl rfl ⟨_,rfl,rfl,(hS.sel [] rfl)⟩
theorem law27_ShortWritten_ok {g_d__0 : Gh} (m : Nat) (d_ : TDecl) (r : Bool) (hm : law27_ShortWritten m d_ = some r) (w : World) (hL : S0 F0 [eI tyValue d_.Value g_d__0,gE0] w ∧ fpl [eI tyValue d_.Value g_d__0,gE0] = []) : RetB Tryz.prog 4 ⟨[vG [vS d_.Name,vL g_d__0 d_.Value,vB d_.Important]]⟩ (vB r) w:=retB_of hL (Tryz.call4 _) (fun w' h => law27_ShortWritten_w F0 m   d_ r hm w' h)

end Go.Proofs.YtpgflfjmjppmeaaGreatDoor
