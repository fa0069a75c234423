/-
  What the Go functions compute, as Lean functions, and that a call returns just that. Printed by a program.
-/
import Derived.Test.YtpgflfjmjppmeaaGreatDoorRows
import Derived.Test.YtpgflfjmjppmeaaGreatDoorX
import Derived.Test.YtpgflfjmjppmeaaGreatDoorMP
import Derived.Test.YtpgflfjmjppmeaaGreatDoorCO
import Derived.Test.YtpgflfjmjppmeaaGreatDoorAF
import Derived.Test.YtpgflfjmjppmeaaGreatDoorM
import Derived.Test.YtpgflfjmjppmeaaGreatDoorW27na
set_option linter.unusedVariables false
set_option maxRecDepth 20000
set_option maxHeartbeats 4000000
namespace Go.Proofs.YtpgflfjmjppmeaaGreatDoor
open Go.V Go.RowKit

theorem strings_Fields_w  (M : Av) (m : Nat) (s : Str) (r : List Str) (hm : strings_Fields m s = some r) (w : World) (hS : S0 M [gE0] w) : Calls Tryz.prog 94 ⟨[vS s]⟩ w (fun e w' => ∃ v,e = .returned v ∧ ∃ (g901 : Gh),v = .slice g901.a r.length g901.c ∧ SH M (fpl [gE0]) w [eO 9 tS r g901] w'):=by
 rw [strings_Fields] at hm
 have hS0 : SH M (fpl [gE0]) w [gE0] w:=hS
 generalize hX : fpl [gE0] = X at hS0 ⊢
 clear hS hX
 have hS:=hS0
 clear hS0
 refine calls_entryP Tryz.func94 rfl Tryz.ntmps94 rfl fun _ H => ?_
 refine s_reg [] [0] [(0,[],vS s)] [] H (by kernel_rfl) trivial fun _ _ H2 hb => ?_
 replace hS:=hS.below hb
 refine s_reg [] [0,3] (fS [0,3] [vS s,vI 0]) [] H2 (by kernel_rfl) trivial fun _ _ H4 hb => ?_
 replace hS:=hS.below hb
 refine s_reg [] [0,3,4] (fS [0,3,4] [vS s,vI 0,vI 1]) [] H4 (by kernel_rfl) trivial fun _ _ H6 hb => ?_
 replace hS:=hS.below hb
 refine s_reg [] [0,3,4,5] (fS [0,3,4,5] [vS s,vI 0,vI 1,vU 0]) [] H6 (by kernel_rfl) trivial fun _ _ H8 hb => ?_
 replace hS:=hS.below hb
 obtain ⟨z9,hz,hm⟩:=bindE hm
 refine w_cut (fun a' w' => Fr 106 (fS [0,3,5] [vS s,vI z9.1,vU z9.2]) a' ∧ SH M X w [gE0] w') ?_ ?_
 ·replace hm:=hz
  refine s_reg [] [0,3,4,5,6] (fS [0,3,4,5,6] [vS s,vI 0,vI 1,vU 0,vI 0]) [] H8 (by kernel_rfl) trivial fun _ _ H11 hb => ?_
  replace hS:=hS.below hb
  apply w_block
  refine w_loop (fun kk a' w' => ∃ (v12 : Int) (v13 : Int) (v14 : Int) (v15 : Int),strings_Fields_L1 m s kk v12 v13 v14 v15 = some _ ∧ Fr 106 (fS [0,3,4,5,6] [vS s,vI v12,vI v13,vU v14,vI v15]) a' ∧ SH M X w [gE0] w') ⟨_,0,1,0,0,hm,FrG.keep (ks:=[0,3,4,5,6]) H11 (by kernel_rfl),hS⟩ ?_
  clear hm H11 hS
  rintro kk _ _ ⟨v12,v13,v14,v15,hm,H,hS⟩
  cases kk with
  | zero => exact noneE hm
  | succ kk =>
   rw [strings_Fields_L1] at hm
   apply w_seq
   refine s_reg [] [0,3,4,5,6,16] (fS [0,3,4,5,6,16] [vS s,vI v12,vI v13,vU v14,vI v15,vB (decide (v15 < (ln s)))]) [] H (by kernel_rfl) trivial fun _ _ H17 hb => ?_
   replace hS:=hS.below hb
   refine w_if H17 rfl (fun hc => ?_) (fun hc => ?c34)
   case c34 =>
    replace hm:=bF hc hm
    apply w_exit rfl
    obtain rfl:=someE hm
    exact ⟨FrG.keep (ks:=[0,3,5]) H17 (by kernel_rfl),hS⟩
   replace hm:=bT hc hm
   apply w_skip
   apply w_seq
   apply w_block
   obtain ⟨ho18,hm⟩:=chkE hm
   refine s_reg [] [0,3,4,5,6,7] (fS [0,3,4,5,6,7] [vS s,vI v12,vI v13,vU v14,vI v15,vU (bat s v15)]) [fun _ => 0 ≤ v15 ∧ v15 < ln s] H17 (by kernel_rfl) ⟨ho18,trivial⟩ fun _ _ H20 hb => ?_
   replace hS:=hS.below hb
   refine s_reg [] [0,3,4,5,6,7] (fS [0,3,4,5,6,7] [vS s,vI v12,vI v13,vU (ibit .or .u8 v14 (bat s v15)),vI v15,vU (bat s v15)]) [] H20 (by kernel_rfl) trivial fun _ _ H22 hb => ?_
   replace hS:=hS.below hb
   obtain ⟨ho23,hm⟩:=chkE hm
   obtain ⟨x24,hx24,hm⟩:=letE hm
   refine s_reg [(vU (gi gl_strings_asciiSpace (bat s v15)))] [0,3,4,5,6,8] (fS [0,3,4,5,6,8] [vS s,vI v12,vI v13,vU (ibit .or .u8 v14 (bat s v15)),vI v15,vI x24]) [fun _ => 0 ≤ (bat s v15) ∧ (bat s v15) < (256 : Int),fun wz => V.at1 ⟨0,0 + ((bat s v15)).toNat * 1,none⟩ (vU (gi gl_strings_asciiSpace (bat s v15))) wz] H22 (by subst hx24; kernel_rfl) ⟨ho23,((hS.im 0 rfl).at1 ho23 0 rfl),trivial⟩ fun _ _ H26 hb => ?_
   replace hS:=hS.below hb
   obtain ⟨x27,hx27,hm⟩:=letE hm
   refine s_reg [] [0,3,5,6,8] (fS [0,3,5,6,8] [vS s,vI (w64 (v12 + x27)),vU (ibit .or .u8 v14 (bat s v15)),vI v15,vI x24]) [] H26 (by subst hx27; kernel_rfl) trivial fun _ _ H29 hb => ?_
   replace hS:=hS.below hb
   refine w_reg [] [0,3,4,5,6] (fS [0,3,4,5,6] [vS s,vI (w64 (v12 + x27)),vI x24,vU (ibit .or .u8 v14 (bat s v15)),vI v15]) [] H29 (by kernel_rfl) trivial fun _ _ H31 hb => ?_
   replace hS:=hS.below hb
   refine w_reg [] [0,3,4,5,6] (fS [0,3,4,5,6] [vS s,vI (w64 (v12 + x27)),vI x24,vU (ibit .or .u8 v14 (bat s v15)),vI (w64 (v15 + 1))]) [] H31 (by kernel_rfl) trivial fun _ _ H33 hb => ?_
   replace hS:=hS.below hb
   exact ⟨_,Nat.lt_succ_self _,w64 (v12 + x27),x24,ibit .or .u8 v14 (bat s v15),w64 (v15 + 1),hm,FrG.keep (ks:=[0,3,4,5,6]) H33 (by kernel_rfl),hS⟩
 ·rintro _ _ ⟨H,hS⟩
  apply w_seq
  refine s_reg [] [0,3,37] (fS [0,3,37] [vS s,vI z9.1,vB (decide (128 ≤ z9.2))]) [] H (by kernel_rfl) trivial fun _ _ H37 hb => ?_
  replace hS:=hS.below hb
  refine w_if H37 rfl (fun hc => ?c130) (fun hc => ?_)
  case c130 =>
   replace hm:=bT hc hm
   exact noneE hm
  replace hm:=bF hc hm
  apply w_skip
  apply w_seq
  apply wl_start
  refine wl_batch 0 1 [] [0,40] (fS [0,40] [vS s,vI z9.1]) [] H37 (by decide) (by kernel_rfl) trivial fun _ _ H39 hb => ?_
  replace hS:=hS.below hb
  obtain ⟨ho40,hm⟩:=chkE hm
  obtain ⟨q41,hq41,hm⟩:=letE hm
  have hd:=hS.hand [] [0] rfl rfl
  refine m_stp [41,0] [(0,[],vS s)] H39 rfl rfl rfl rfl (o_make (T:=tS) (E:=9) (zv:=vN) ([] : Str) H39 hd rfl rfl (by kernel_rfl) (by kernel_rfl) rfl rfl (fun _ _ => trivial) ho40) (fun _ => rfl) fun _ _ v H43 hq => ?_
  obtain ⟨g44,rfl,hq⟩:=hq
  rw [← hq41] at hq
  rw [← hq41] at H43
  replace hS : SH M X w [eO 9 tS q41 g44,gE0] _:=hS.join [] [0] rfl rfl hq
  refine wl_batch 2 3 [] [0,9] (fS [0,9] [vS s,.slice g44.a q41.length g44.c]) [] H43 (by decide) (by kernel_rfl) trivial fun _ _ H47 hb => ?_
  replace hS:=hS.below hb
  apply wl_end rfl
  refine s_reg [] [0,9,10] (fS [0,9,10] [vS s,.slice g44.a q41.length g44.c,vI 0]) [] H47 (by kernel_rfl) trivial fun _ _ H49 hb => ?_
  replace hS:=hS.below hb
  refine s_reg [] [0,9,10] (fS [0,9,10] [vS s,.slice g44.a q41.length g44.c,vI 0]) [] H49 (by kernel_rfl) trivial fun _ _ H51 hb => ?_
  replace hS:=hS.below hb
  refine s_reg [] [0,9,10,12] (fS [0,9,10,12] [vS s,.slice g44.a q41.length g44.c,vI 0,vI 0]) [] H51 (by kernel_rfl) trivial fun _ _ H53 hb => ?_
  replace hS:=hS.below hb
  obtain ⟨z54,hz,hm⟩:=bindE hm
  refine w_cut (fun a' w' => Fr 106 (fS [0,9,10,12] [vS s,.slice g44.a q41.length g44.c,vI 0,vI z54]) a' ∧ SH M X w [eO 9 tS q41 g44,gE0] w') ?_ ?_
  ·replace hm:=hz
   apply w_block
   refine w_loop (fun kk a' w' => ∃ (v55 : Int),strings_Fields_L2 m s kk v55 = some _ ∧ Fr 106 (fS [0,9,10,12] [vS s,.slice g44.a q41.length g44.c,vI 0,vI v55]) a' ∧ SH M X w [eO 9 tS q41 g44,gE0] w') ⟨_,0,hm,FrG.keep (ks:=[0,9,10,12]) H53 (by kernel_rfl),hS⟩ ?_
   clear hm H53 hS
   rintro kk _ _ ⟨v55,hm,H,hS⟩
   cases kk with
   | zero => exact noneE hm
   | succ kk =>
    rw [strings_Fields_L2] at hm
    apply w_seq
    obtain ⟨ho56,hm⟩:=chkE hm
    obtain ⟨ho57,hm⟩:=chkE hm
    obtain ⟨x58,hx58,hm⟩:=letE hm
    refine s_reg [(vU (gi gl_strings_asciiSpace (bat s v55)))] [0,9,10,12,53] (fS [0,9,10,12,53] [vS s,.slice g44.a q41.length g44.c,vI 0,vI v55,vB x58]) [fun _ => ((decide (v55 < (ln s))) = true ∧ True → 0 ≤ v55 ∧ v55 < ln s),fun _ => ((decide (v55 < (ln s))) = true ∧ True → 0 ≤ (bat s v55) ∧ (bat s v55) < (256 : Int)),fun wz => ((decide (v55 < (ln s))) = true ∧ True → V.at1 ⟨0,0 + ((bat s v55)).toNat * 1,none⟩ (vU (gi gl_strings_asciiSpace (bat s v55))) wz)] H (by subst hx58; kernel_rfl) ⟨fun hg => (ho56 hg.1),fun hg => (ho57 hg.1),fun hg => (hS.im 1 rfl).at1 (ho57 hg.1) 0 rfl,trivial⟩ fun _ _ H60 hb => ?_
    replace hS:=hS.below hb
    refine w_if H60 rfl (fun hc => ?_) (fun hc => ?c63)
    case c63 =>
     replace hm:=bF hc hm
     apply w_exit rfl
     obtain rfl:=someE hm
     exact ⟨FrG.keep (ks:=[0,9,10,12]) H60 (by kernel_rfl),hS⟩
    replace hm:=bT hc hm
    apply w_skip
    apply w_block
    refine w_reg [] [0,9,10,12] (fS [0,9,10,12] [vS s,.slice g44.a q41.length g44.c,vI 0,vI (w64 (v55 + 1))]) [] H60 (by kernel_rfl) trivial fun _ _ H62 hb => ?_
    replace hS:=hS.below hb
    exact ⟨_,Nat.lt_succ_self _,w64 (v55 + 1),hm,FrG.keep (ks:=[0,9,10,12]) H62 (by kernel_rfl),hS⟩
  ·rintro _ _ ⟨H,hS⟩
   refine s_reg [] [0,9,10,11,12] (fS [0,9,10,11,12] [vS s,.slice g44.a q41.length g44.c,vI 0,vI z54,vI z54]) [] H (by kernel_rfl) trivial fun _ _ H66 hb => ?_
   replace hS:=hS.below hb
   obtain ⟨z67,hz,hm⟩:=bindE hm
   refine w_cut (fun a' w' => ∃ (g111 : Gh),Fr 106 (fS [0,9,10,11] [vS s,.slice g111.a z67.2.2.length g111.c,vI z67.1,vI z67.2.1]) a' ∧ SH M X w [eO 9 tS z67.2.2 g111,gE0] w') ?_ ?_
   ·replace hm:=hz
    apply w_block
    refine w_loop (fun kk a' w' => ∃ (v68 : List Str) (v70 : Int) (v71 : Int) (v72 : Int) (g69 : Gh),strings_Fields_L3 m s kk v68 v70 v71 v72 = some _ ∧ Fr 106 (fS [0,9,10,11,12] [vS s,.slice g69.a v68.length g69.c,vI v70,vI v71,vI v72]) a' ∧ SH M X w [eO 9 tS v68 g69,gE0] w') ⟨_,q41,0,z54,z54,g44,hm,FrG.keep (ks:=[0,9,10,11,12]) H66 (by kernel_rfl),hS⟩ ?_
    clear hm H66 hS
    rintro kk _ _ ⟨v68,v70,v71,v72,g69,hm,H,hS⟩
    cases kk with
    | zero => exact noneE hm
    | succ kk =>
     rw [strings_Fields_L3] at hm
     apply w_seq
     refine s_reg [] [0,9,10,11,12,60] (fS [0,9,10,11,12,60] [vS s,.slice g69.a v68.length g69.c,vI v70,vI v71,vI v72,vB (decide (v72 < (ln s)))]) [] H (by kernel_rfl) trivial fun _ _ H74 hb => ?_
     replace hS:=hS.below hb
     refine w_if H74 rfl (fun hc => ?_) (fun hc => ?c109)
     case c109 =>
      replace hm:=bF hc hm
      apply w_exit rfl
      obtain rfl:=someE hm
      exact ⟨g69,FrG.keep (ks:=[0,9,10,11]) H74 (by kernel_rfl),hS⟩
     replace hm:=bT hc hm
     apply w_skip
     apply w_block
     apply w_seq
     obtain ⟨ho75,hm⟩:=chkE hm
     obtain ⟨ho76,hm⟩:=chkE hm
     obtain ⟨x77,hx77,hm⟩:=letE hm
     refine s_reg [(vU (gi gl_strings_asciiSpace (bat s v72)))] [0,9,10,11,12,66] (fS [0,9,10,11,12,66] [vS s,.slice g69.a v68.length g69.c,vI v70,vI v71,vI v72,vB x77]) [fun _ => 0 ≤ v72 ∧ v72 < ln s,fun _ => 0 ≤ (bat s v72) ∧ (bat s v72) < (256 : Int),fun wz => V.at1 ⟨0,0 + ((bat s v72)).toNat * 1,none⟩ (vU (gi gl_strings_asciiSpace (bat s v72))) wz] H74 (by subst hx77; kernel_rfl) ⟨ho75,ho76,((hS.im 1 rfl).at1 ho76 0 rfl),trivial⟩ fun _ _ H79 hb => ?_
     replace hS:=hS.below hb
     refine w_if H79 rfl (fun hc => ?c108) (fun hc => ?_)
     case c108 =>
      replace hm:=bT hc hm
      refine s_reg [] [0,9,10,11,12] (fS [0,9,10,11,12] [vS s,.slice g69.a v68.length g69.c,vI v70,vI v71,vI (w64 (v72 + 1))]) [] H79 (by kernel_rfl) trivial fun _ _ H81 hb => ?_
      replace hS:=hS.below hb
      apply w_exit rfl
      exact ⟨_,Nat.lt_succ_self _,v68,v70,v71,w64 (v72 + 1),g69,hm,FrG.keep (ks:=[0,9,10,11,12]) H81 (by kernel_rfl),hS⟩
     replace hm:=bF hc hm
     apply w_skip
     apply w_seq
     apply wl_start
     obtain ⟨ho82,hm⟩:=chkE hm
     obtain ⟨ho83,hm⟩:=chkE hm
     refine wl_batch 0 7 [] [0,9,10,12,74,75] (fS [0,9,10,12,74,75] [vS s,.slice g69.a v68.length g69.c,vI v70,vI v72,vS (sub s v71 v72),.pointer (some ⟨ab g69.a,ao g69.a + (v70).toNat * 1,none⟩)]) [fun _ => 0 ≤ v71 ∧ v71 ≤ v72 ∧ v72 ≤ ln s,fun _ => oka g69.a ∧ 0 ≤ v70 ∧ v70 < ln v68] H79 (by decide) (by kernel_rfl) ⟨ho82,((hS.osl 0 rfl).oki ho83),trivial⟩ fun _ _ H85 hb => ?_
     replace hS:=hS.below hb
     have hd:=hS.hand [0] [1] rfl rfl
     refine m_stp0 [0,9,10,12] (fS [0,9,10,12] [vS s,.slice g69.a v68.length g69.c,vI v70,vI v72]) H85 rfl rfl rfl (o_estore (T:=tS) (g:=g69) (q:=v68) (ix:=v70) (off:=0) (sub s v71 v72) (gL []) H85 hd rfl rfl rfl rfl (by kernel_rfl) rfl rfl ho83 rfl trivial rfl) rfl fun _ _ H87 hq => ?_
     obtain ⟨_,hq⟩:=hq
     obtain ⟨s88,hq⟩:=hq
     obtain ⟨q89,hq89,hm⟩:=letE hm
     rw [← hq89] at hq
     have hn : v68.length = q89.length:=by rw [hq89,setl_len]
     first | rw [hn] at H87 | skip
     first | rw [hn] at hS | skip
     clear hn
     replace hS : SH M X w [eO 9 tS q89 (Gh.mk g69.a g69.c s88),gE0] _:=hS.join [0] [1] rfl rfl hq
     apply wl_end rfl
     refine s_reg [] [0,9,10,12] (fS [0,9,10,12] [vS s,.slice (Gh.mk g69.a g69.c s88).a q89.length (Gh.mk g69.a g69.c s88).c,vI (w64 (v70 + 1)),vI v72]) [] H87 (by kernel_rfl) trivial fun _ _ H91 hb => ?_
     replace hS:=hS.below hb
     refine s_reg [] [0,9,10,12] (fS [0,9,10,12] [vS s,.slice (Gh.mk g69.a g69.c s88).a q89.length (Gh.mk g69.a g69.c s88).c,vI (w64 (v70 + 1)),vI (w64 (v72 + 1))]) [] H91 (by kernel_rfl) trivial fun _ _ H93 hb => ?_
     replace hS:=hS.below hb
     obtain ⟨z94,hz,hm⟩:=bindE hm
     refine w_cut (fun a' w' => Fr 106 (fS [0,9,10,12] [vS s,.slice (Gh.mk g69.a g69.c s88).a q89.length (Gh.mk g69.a g69.c s88).c,vI (w64 (v70 + 1)),vI z94]) a' ∧ SH M X w [eO 9 tS q89 (Gh.mk g69.a g69.c s88),gE0] w') ?_ ?_
     ·replace hm:=hz
      apply w_block
      refine w_loop (fun kk a' w' => ∃ (v95 : Int),strings_Fields_L4 m s kk v95 = some _ ∧ Fr 106 (fS [0,9,10,12] [vS s,.slice (Gh.mk g69.a g69.c s88).a q89.length (Gh.mk g69.a g69.c s88).c,vI (w64 (v70 + 1)),vI v95]) a' ∧ SH M X w [eO 9 tS q89 (Gh.mk g69.a g69.c s88),gE0] w') ⟨_,w64 (v72 + 1),hm,FrG.keep (ks:=[0,9,10,12]) H93 (by kernel_rfl),hS⟩ ?_
      clear hm H93 hS
      rintro kk _ _ ⟨v95,hm,H,hS⟩
      cases kk with
      | zero => exact noneE hm
      | succ kk =>
       rw [strings_Fields_L4] at hm
       apply w_seq
       obtain ⟨ho96,hm⟩:=chkE hm
       obtain ⟨ho97,hm⟩:=chkE hm
       obtain ⟨x98,hx98,hm⟩:=letE hm
       refine s_reg [(vU (gi gl_strings_asciiSpace (bat s v95)))] [0,9,10,12,91] (fS [0,9,10,12,91] [vS s,.slice (Gh.mk g69.a g69.c s88).a q89.length (Gh.mk g69.a g69.c s88).c,vI (w64 (v70 + 1)),vI v95,vB x98]) [fun _ => ((decide (v95 < (ln s))) = true ∧ True → 0 ≤ v95 ∧ v95 < ln s),fun _ => ((decide (v95 < (ln s))) = true ∧ True → 0 ≤ (bat s v95) ∧ (bat s v95) < (256 : Int)),fun wz => ((decide (v95 < (ln s))) = true ∧ True → V.at1 ⟨0,0 + ((bat s v95)).toNat * 1,none⟩ (vU (gi gl_strings_asciiSpace (bat s v95))) wz)] H (by subst hx98; kernel_rfl) ⟨fun hg => (ho96 hg.1),fun hg => (ho97 hg.1),fun hg => (hS.im 1 rfl).at1 (ho97 hg.1) 0 rfl,trivial⟩ fun _ _ H100 hb => ?_
       replace hS:=hS.below hb
       refine w_if H100 rfl (fun hc => ?_) (fun hc => ?c103)
       case c103 =>
        replace hm:=bF hc hm
        apply w_exit rfl
        obtain rfl:=someE hm
        exact ⟨FrG.keep (ks:=[0,9,10,12]) H100 (by kernel_rfl),hS⟩
       replace hm:=bT hc hm
       apply w_skip
       apply w_block
       refine w_reg [] [0,9,10,12] (fS [0,9,10,12] [vS s,.slice (Gh.mk g69.a g69.c s88).a q89.length (Gh.mk g69.a g69.c s88).c,vI (w64 (v70 + 1)),vI (w64 (v95 + 1))]) [] H100 (by kernel_rfl) trivial fun _ _ H102 hb => ?_
       replace hS:=hS.below hb
       exact ⟨_,Nat.lt_succ_self _,w64 (v95 + 1),hm,FrG.keep (ks:=[0,9,10,12]) H102 (by kernel_rfl),hS⟩
     ·rintro _ _ ⟨H,hS⟩
      refine w_reg [] [0,9,10,11,12] (fS [0,9,10,11,12] [vS s,.slice (Gh.mk g69.a g69.c s88).a q89.length (Gh.mk g69.a g69.c s88).c,vI (w64 (v70 + 1)),vI z94,vI z94]) [] H (by kernel_rfl) trivial fun _ _ H106 hb => ?_
      replace hS:=hS.below hb
      exact ⟨_,Nat.lt_succ_self _,q89,w64 (v70 + 1),z94,z94,(Gh.mk g69.a g69.c s88),hm,FrG.keep (ks:=[0,9,10,11,12]) H106 (by kernel_rfl),hS⟩
   ·rintro _ _ ⟨g111,H,hS⟩
    obtain ⟨z112,hz,hm⟩:=bindE hm
    refine w_cut (fun a' w' => ∃ (g124 : Gh),Fr 106 [(9,[],.slice g124.a z112.length g124.c)] a' ∧ SH M X w [eO 9 tS z112 g124,gE0] w') ?_ ?_
    ·replace hm:=hz
     refine s_reg [] [0,9,10,11,98] (fS [0,9,10,11,98] [vS s,.slice g111.a z67.2.2.length g111.c,vI z67.1,vI z67.2.1,vB (decide (z67.2.1 < (ln s)))]) [] H (by kernel_rfl) trivial fun _ _ H114 hb => ?_
     replace hS:=hS.below hb
     refine w_if H114 rfl (fun hc => ?_) (fun hc => ?c123)
     case c123 =>
      replace hm:=bF hc hm
      apply w_skip
      obtain rfl:=someE hm
      exact ⟨g111,FrG.keep (ks:=[9]) H114 (by kernel_rfl),hS⟩
     replace hm:=bT hc hm
     apply wl_start
     obtain ⟨ho115,hm⟩:=chkE hm
     obtain ⟨ho116,hm⟩:=chkE hm
     refine wl_batch 0 6 [] [9,103,104] (fS [9,103,104] [.slice g111.a z67.2.2.length g111.c,vS (sub s z67.2.1 (ln s)),.pointer (some ⟨ab g111.a,ao g111.a + (z67.1).toNat * 1,none⟩)]) [fun _ => 0 ≤ z67.2.1 ∧ z67.2.1 ≤ ln s,fun _ => oka g111.a ∧ 0 ≤ z67.1 ∧ z67.1 < ln z67.2.2] H114 (by decide) (by kernel_rfl) ⟨ho115,((hS.osl 0 rfl).oki ho116),trivial⟩ fun _ _ H118 hb => ?_
     replace hS:=hS.below hb
     have hd:=hS.hand [0] [1] rfl rfl
     refine m_stp0 [9] [(9,[],.slice g111.a z67.2.2.length g111.c)] H118 rfl rfl rfl (o_estore (T:=tS) (g:=g111) (q:=z67.2.2) (ix:=z67.1) (off:=0) (sub s z67.2.1 (ln s)) (gL []) H118 hd rfl rfl rfl rfl (by kernel_rfl) rfl rfl ho116 rfl trivial rfl) rfl fun _ _ H120 hq => ?_
     obtain ⟨_,hq⟩:=hq
     obtain ⟨s121,hq⟩:=hq
     obtain ⟨q122,hq122,hm⟩:=letE hm
     rw [← hq122] at hq
     have hn : z67.2.2.length = q122.length:=by rw [hq122,setl_len]
     first | rw [hn] at H120 | skip
     first | rw [hn] at hS | skip
     clear hn
     replace hS : SH M X w [eO 9 tS q122 (Gh.mk g111.a g111.c s121),gE0] _:=hS.join [0] [1] rfl rfl hq
     apply wl_end rfl
     obtain rfl:=someE hm
     exact ⟨(Gh.mk g111.a g111.c s121),FrG.keep (ks:=[9]) H120 (by kernel_rfl),hS⟩
    ·rintro _ _ ⟨g124,H,hS⟩
     refine s_reg [] [2] [(2,[],.slice g124.a z112.length g124.c)] [] H (by kernel_rfl) trivial fun _ _ H126 hb => ?_
     replace hS:=hS.below hb
     apply w_ret
     obtain rfl:=someE hm
     exact retR1 H126 rfl rfl ⟨_,rfl,g124,rfl,(hS.sel [0] rfl)⟩
theorem strings_Fields_ok  (m : Nat) (s : Str) (r : List Str) (hm : strings_Fields m s = some r) (M : Av) (w : World) (hS : S0 M [gE0] w) : DoesX Tryz.prog 94 ⟨[vS s]⟩ w (fun v w' => ∃ (g901 : Gh),v = vL g901 r ∧ SH M (fpl [gE0]) w [eO 9 tS r g901] w'):=⟨Tryz.call94 _,strings_Fields_w M m   s r hm w hS⟩

theorem props_words_w  (M : Av) (m : Nat) (name_ : Str) (inherited : Bool) (first : Str) (all_ : Str) (r : TProp) (hm : props_words m name_ inherited first all_ = some r) (w : World) (hS : S0 M [gE0] w) : Calls Tryz.prog 78 ⟨[vS name_,vB inherited,vS first,vS all_]⟩ w (fun e w' => ∃ v,e = .returned v ∧ ∃ (g901 : Gh) (g903 : Gh),v = vG [vS r.Name,vB r.Inherited,vU r.Initial.Kind,vS r.Initial.Word,vI r.Initial.Num,vU r.Initial.Color.Red,vU r.Initial.Color.Green,vU r.Initial.Color.Blue,vU r.Initial.Color.Alpha,vL g901 r.Words,vL g903 r.Kinds,vB r.Least] ∧ SH M (fpl [gE0]) w [eO 9 tS r.Words g901,eO 5 (tI .u8) r.Kinds g903] w'):=by
 rw [props_words] at hm
 have hS0 : SH M (fpl [gE0]) w [gE0] w:=hS
 generalize hX : fpl [gE0] = X at hS0 ⊢
 clear hS hX
 have hS:=hS0
 clear hS0
 refine calls_entryP Tryz.func78 rfl Tryz.ntmps78 rfl fun _ H => ?_
 apply w_seq
 apply wl_start
 have hd:=hS.hand [] [0] rfl rfl
 refine m_stp [8,0,1,2,3] (fS [0,1,2,3] [vS name_,vB inherited,vS first,vS all_]) H rfl rfl rfl rfl (o_alloc [vN,vF,vU 0,vN,vI 0,vU 0,vU 0,vU 0,vU 0,vO,vO,vF] (z:=vG [vN,vF,vU 0,vN,vI 0,vU 0,vU 0,vU 0,vU 0,vO,vO,vF]) hd (by kernel_rfl) rfl) (fun _ => rfl) fun _ _ v H3 hq => ?_
 obtain ⟨b1,rfl,hq⟩:=hq
 replace hS : SH M X w [eB b1 [vN,vF,vU 0,vN,vI 0,vU 0,vU 0,vU 0,vU 0,vO,vO,vF],gE0] _:=hS.join [] [0] rfl rfl hq
 apply wl_end rfl
 apply w_seq
 apply wl_start
 obtain ⟨y4,hy4,hm⟩:=letE hm
 refine wl_batch 0 5 [(vG (cV y4))] [8,9,10,12,13] (fS [8,9,10,12,13] [vP b1,vS name_,vB inherited,vG (cV y4),vS all_]) [rB 76 [vS first] (vG (cV y4))] H3 (by decide) (by subst hy4; kernel_rfl) ⟨((by rw [hy4]; exact (props_word_ok _).b)),trivial⟩ fun _ _ H6 hb => ?_
 replace hS:=hS.below hb
 obtain ⟨y7,hy7,hm⟩:=bindE hm
 have hd:=hS.hand [1] [0,1] rfl rfl
 refine m_stp [14,8,9,10,12] (fS [8,9,10,12] [vP b1,vS name_,vB inherited,vG (cV y4)]) H6 rfl rfl rfl rfl (o_callx H6 rfl rfl (strings_Fields_ok m _ _ hy7 _ _ hd)) (fun _ => rfl) fun _ _ v H11 hq => ?_
 obtain ⟨g8,rfl,hq⟩:=hq
 replace hS : SH M X w [eO 9 tS y7 g8,eB b1 [vN,vF,vU 0,vN,vI 0,vU 0,vU 0,vU 0,vU 0,vO,vO,vF],gE0] _:=hS.join [1] [0,1] rfl rfl hq
 refine wl_batch 6 7 [] [8,15] (fS [8,15] [vP b1,vG [vS name_,vB inherited,vU y4.Kind,vS y4.Word,vI y4.Num,vU y4.Color.Red,vU y4.Color.Green,vU y4.Color.Blue,vU y4.Color.Alpha,vL g8 y7,vO,vF]]) [] H11 (by decide) (by kernel_rfl) trivial fun _ _ H13 hb => ?_
 replace hS:=hS.below hb
 have hd:=hS.hand [1] [0,2] rfl rfl
 refine m_stp0 [8] [(8,[],vP b1)] H13 rfl rfl rfl (o_store [vS name_,vB inherited,vU y4.Kind,vS y4.Word,vI y4.Num,vU y4.Color.Red,vU y4.Color.Green,vU y4.Color.Blue,vU y4.Color.Alpha,vL g8 y7,vO,vF] H13 hd rfl rfl (by kernel_rfl) rfl rfl rfl) rfl fun _ _ H15 hq => ?_
 obtain ⟨_,hq⟩:=hq
 replace hS : SH M X w [eB b1 [vS name_,vB inherited,vU y4.Kind,vS y4.Word,vI y4.Num,vU y4.Color.Red,vU y4.Color.Green,vU y4.Color.Blue,vU y4.Color.Alpha,vL g8 y7,vO,vF],eO 9 tS y7 g8,gE0] _:=hS.join [1] [0,2] rfl rfl hq
 apply wl_end rfl
 apply w_ret
 obtain rfl:=someE hm
 replace hS : SH M X w [eO 5 (tI .u8) ([] : List Int) (.nil),eB b1 [vS name_,vB inherited,vU y4.Kind,vS y4.Word,vI y4.Num,vU y4.Color.Red,vU y4.Color.Green,vU y4.Color.Blue,vU y4.Color.Alpha,vL g8 y7,vO,vF],eO 9 tS y7 g8,gE0] _:=hS.addNil 5 (tI .u8)
 exact retR1 H15 rfl (oneRes_agg rfl (hS.bk 1 rfl) Tryz.underlying100 rfl (by kernel_rfl)) ⟨_,rfl,g8,Gh.nil,rfl,(hS.sel [2,0] rfl)⟩
theorem props_words_ok  (m : Nat) (name_ : Str) (inherited : Bool) (first : Str) (all_ : Str) (r : TProp) (hm : props_words m name_ inherited first all_ = some r) (M : Av) (w : World) (hS : S0 M [gE0] w) : DoesX Tryz.prog 78 ⟨[vS name_,vB inherited,vS first,vS all_]⟩ w (fun v w' => ∃ (g901 : Gh) (g903 : Gh),v = vG [vS r.Name,vB r.Inherited,vU r.Initial.Kind,vS r.Initial.Word,vI r.Initial.Num,vU r.Initial.Color.Red,vU r.Initial.Color.Green,vU r.Initial.Color.Blue,vU r.Initial.Color.Alpha,vL g901 r.Words,vL g903 r.Kinds,vB r.Least] ∧ SH M (fpl [gE0]) w [eO 9 tS r.Words g901,eO 5 (tI .u8) r.Kinds g903] w'):=⟨Tryz.call78 _,props_words_w M m   name_ inherited first all_ r hm w hS⟩

theorem props_length_w {g_more : Gh} (M : Av) (m : Nat) (name_ : Str) (inherited : Bool) (first : TVal) (all_ : Str) (least : Bool) (more : List Int) (r : TProp) (hm : props_length m name_ inherited first all_ least more = some r) (w : World) (hS : S0 M [eI (tI .u8) more g_more,gE0] w) : Calls Tryz.prog 79 ⟨[vS name_,vB inherited,vG (cV first),vS all_,vB least,vL g_more more]⟩ w (fun e w' => ∃ v,e = .returned v ∧ ∃ (g901 : Gh) (g903 : Gh),v = vG [vS r.Name,vB r.Inherited,vU r.Initial.Kind,vS r.Initial.Word,vI r.Initial.Num,vU r.Initial.Color.Red,vU r.Initial.Color.Green,vU r.Initial.Color.Blue,vU r.Initial.Color.Alpha,vL g901 r.Words,vL g903 r.Kinds,vB r.Least] ∧ SH M (fpl [eI (tI .u8) more g_more,gE0]) w [eO 9 tS r.Words g901,eO 5 (tI .u8) r.Kinds g903] w'):=by
 rw [props_length] at hm
 have hS0 : SH M (fpl [eI (tI .u8) more g_more,gE0]) w [eI (tI .u8) more g_more,gE0] w:=hS
 generalize hX : fpl [eI (tI .u8) more g_more,gE0] = X at hS0 ⊢
 clear hS hX
 have hS:=hS0
 clear hS0
 refine calls_entryP Tryz.func79 rfl Tryz.ntmps79 rfl fun _ H => ?_
 apply w_seq
 apply wl_start
 have hd:=hS.hand [] [0,1] rfl rfl
 refine m_stp [8,0,1,3,4,5] (fS [0,1,3,4,5] [vS name_,vB inherited,vS all_,vB least,vL g_more more]) H rfl rfl rfl rfl (o_box (cV first) H hd rfl rfl) (fun _ => rfl) fun _ _ v H3 hq => ?_
 obtain ⟨b1,rfl,hq⟩:=hq
 replace hS : SH M X w [eB b1 (cV first),eI (tI .u8) more g_more,gE0] _:=hS.join [] [0,1] rfl rfl hq
 have hd:=hS.hand [] [0,1,2] rfl rfl
 refine m_stp [12,0,1,3,4,5,8] (fS [0,1,3,4,5,8] [vS name_,vB inherited,vS all_,vB least,vL g_more more,vP b1]) H3 rfl rfl rfl rfl (o_alloc [vN,vF,vU 0,vN,vI 0,vU 0,vU 0,vU 0,vU 0,vO,vO,vF] (z:=vG [vN,vF,vU 0,vN,vI 0,vU 0,vU 0,vU 0,vU 0,vO,vO,vF]) hd (by kernel_rfl) rfl) (fun _ => rfl) fun _ _ v H6 hq => ?_
 obtain ⟨b4,rfl,hq⟩:=hq
 replace hS : SH M X w [eB b4 [vN,vF,vU 0,vN,vI 0,vU 0,vU 0,vU 0,vU 0,vO,vO,vF],eB b1 (cV first),eI (tI .u8) more g_more,gE0] _:=hS.join [] [0,1,2] rfl rfl hq
 apply wl_end rfl
 obtain ⟨y8,hy8,hm⟩:=bindE hm
 obtain ⟨ho13,hm⟩:=chkE hm
 obtain ⟨q14,hq14,hm⟩:=letE hm
 refine s_drawS (base:=(fS [0,1,3,4,5,8,12] [vS name_,vB inherited,vS all_,vB least,vL g_more more,vP b1,vP b4])) (L:=[eB b4 [vN,vF,vU 0,vN,vI 0,vU 0,vU 0,vU 0,vU 0,vO,vO,vF],eB b1 (cV first),eI (tI .u8) more g_more,gE0]) 11 4 (fun yg7 => [vS name_,vB inherited,vG (cV first),vS all_,.slice (yg7 4 0).a y8.length (yg7 4 0).c,vK (yg7 5 0) 3,vL g_more more,.slice (yg7 7 0).a q14.length (yg7 7 0).c,vB least,vG [vS name_,vB inherited,vU first.Kind,vS first.Word,vI first.Num,vU first.Color.Red,vU first.Color.Green,vU first.Color.Blue,vU first.Color.Alpha,.slice (yg7 4 0).a y8.length (yg7 4 0).c,.slice (yg7 7 0).a q14.length (yg7 7 0).c,vB least],undef]) (fun yg7 => [[],[],[],[],[eO 9 tS y8 (yg7 4 0)],[eO 5 (tI .u8) kL10 (yg7 5 0)],[],[eO 5 (tI .u8) q14 (yg7 7 0)],[],[],[eB b4 [vS name_,vB inherited,vU first.Kind,vS first.Word,vI first.Num,vU first.Color.Red,vU first.Color.Green,vU first.Color.Blue,vU first.Color.Alpha,.slice (yg7 4 0).a y8.length (yg7 4 0).c,.slice (yg7 7 0).a q14.length (yg7 7 0).c,vB least]]]) [[],[],[12],[],[14],[],[],[5,13],[],[4,7],[4,7,11]] [[],[],[],[],[],[],[],[5],[],[],[11]] [[0],[1],[2],[3],[3,4],[5],[6],[5,6,7],[8],[0,1,2,3,4,5,6,7,8,9],[0,1,2,3,4,5,6,7,8,9,10]] [] (FrG.keep (ks:=[0,1,3,4,5,8,12]) H6 (by kernel_rfl)) (fun _ _ h => by cases h) (by kernel_rfl) hS (by kernel_rfl) rfl rfl (by kernel_rfl) (by kernel_rfl) (by kernel_rfl) (gd_none (by kernel_rfl) _ _) ?hloc_yg7 ?hstep_yg7 fun _ _ yg7 H17 hv hS => ?hK_yg7
 case hloc_yg7 => exact ⟨(fun _ _ _ _ => ⟨rfl,rfl⟩),(fun _ _ _ _ => ⟨rfl,rfl⟩),(fun _ _ _ _ => ⟨rfl,rfl⟩),(fun _ _ _ _ => ⟨rfl,rfl⟩),(fun _ i g hi => lcG [4] (fun yg7 => (.slice (yg7 4 0).a y8.length (yg7 4 0).c,[eO 9 tS y8 (yg7 4 0)])) hi rfl),(fun _ i g hi => lcG [5] (fun yg7 => (vK (yg7 5 0) 3,[eO 5 (tI .u8) kL10 (yg7 5 0)])) hi rfl),(fun _ _ _ _ => ⟨rfl,rfl⟩),(fun _ i g hi => lcG [7] (fun yg7 => (.slice (yg7 7 0).a q14.length (yg7 7 0).c,[eO 5 (tI .u8) q14 (yg7 7 0)])) hi rfl),(fun _ _ _ _ => ⟨rfl,rfl⟩),(fun _ i g hi => lcG [4,7] (fun yg7 => (vG [vS name_,vB inherited,vU first.Kind,vS first.Word,vI first.Num,vU first.Color.Red,vU first.Color.Green,vU first.Color.Blue,vU first.Color.Alpha,.slice (yg7 4 0).a y8.length (yg7 4 0).c,.slice (yg7 7 0).a q14.length (yg7 7 0).c,vB least],[])) hi rfl),(fun _ i g hi => lcG [4,7] (fun yg7 => (undef,[eB b4 [vS name_,vB inherited,vU first.Kind,vS first.Word,vI first.Num,vU first.Color.Red,vU first.Color.Green,vU first.Color.Blue,vU first.Color.Alpha,.slice (yg7 4 0).a y8.length (yg7 4 0).c,.slice (yg7 7 0).a q14.length (yg7 7 0).c,vB least]])) hi rfl),trivial⟩
 case hstep_yg7 =>
  refine ⟨?_,?_,?_,?_,?_,?_,?_,?_,?_,?_,?_,trivial⟩
  ·intro o ho a w yg7 M Hb hv hO hS
   obtain rfl:=someE ho
   exact Stp.mono (o_evs [] (vS name_) none [] Hb rfl (by kernel_rfl) (fun q e => by cases e)) fun _ _ hq => ⟨gL [],fun _ _ => hq.1,(hS.below hq.2.below).sel [] rfl⟩
  ·intro o ho a w yg7 M Hb hv hO hS
   obtain rfl:=someE ho
   exact Stp.mono (o_evs [] (vB inherited) none [] Hb rfl (by kernel_rfl) (fun q e => by cases e)) fun _ _ hq => ⟨gL [],fun _ _ => hq.1,(hS.below hq.2.below).sel [] rfl⟩
  ·intro o ho a w yg7 M Hb hv hO hS
   obtain rfl:=someE ho
   exact Stp.mono (o_evs [(vG (cV first))] (vG (cV first)) (some (rN b1 0 (cV first))) [] Hb rfl (by kernel_rfl) (fun q e => by cases e; exact ((hS.bk 0 rfl).atD rfl))) fun _ _ hq => ⟨gL [],fun _ _ => hq.1,(hS.below hq.2.below).sel [0] rfl⟩
  ·intro o ho a w yg7 M Hb hv hO hS
   obtain rfl:=someE ho
   exact Stp.mono (o_evs [] (vS all_) none [] Hb rfl (by kernel_rfl) (fun q e => by cases e)) fun _ _ hq => ⟨gL [],fun _ _ => hq.1,(hS.below hq.2.below).sel [] rfl⟩
  ·intro o ho a w yg7 M Hb hv hO hS0
   obtain rfl:=someE ho
   have H : Fr 23 ([(16,[],vS all_)] ++ (fS [0,1,3,4,5,8,12] [vS name_,vB inherited,vS all_,vB least,vL g_more more,vP b1,vP b4])) _:=(Hb).add (hv 3 (by decide) (by decide) 16 rfl)
   obtain ⟨X,hX⟩ : ∃ X,X = fpl [gE0]:=⟨_,rfl⟩
   have hS : SH M X w [gE0] w:=by rw [hX]; exact hS0
   have hd:=hS.hand [0] [0] rfl rfl
   refine Stp.mono (o_callx H rfl rfl (strings_Fields_ok m _ _ hy8 _ _ hd)) ?_
   rintro v w2 hq
   obtain ⟨g9,rfl,hq⟩:=hq
   replace hS : SH M X w [eO 9 tS y8 g9,gE0] _:=hS.join [0] [0] rfl rfl hq
   rw [hX] at hS
   exact ⟨gL [g9],fun _ _ => rfl,hS.sel [0,1] rfl⟩
  ·intro o ho a w yg7 M Hb hv hO hS0
   obtain rfl:=someE ho
   have H : Fr 23 ([] ++ (fS [0,1,3,4,5,8,12] [vS name_,vB inherited,vS all_,vB least,vL g_more more,vP b1,vP b4])) _:=Hb
   obtain ⟨X,hX⟩ : ∃ X,X = fpl []:=⟨_,rfl⟩
   have hS : SH M X w [] w:=by rw [hX]; exact hS0
   have hd:=hS.hand [] [] rfl rfl
   refine Stp.mono (o_lit (T:=(tI .u8)) (E:=5) (zv:=vU 0) [vU 2,vU 3,vU 4] kL10 [gL [],gL [],gL []] _ H hd rfl (by kernel_rfl) (by kernel_rfl) (by kernel_rfl) (by kernel_rfl) (by kernel_rfl) (by kernel_rfl) (by kernel_rfl) rfl (InnL.cons trivial (InnL.cons trivial (InnL.cons trivial InnL.nil)))) ?_
   rintro v w2 hq
   obtain ⟨g11,rfl,hq⟩:=hq
   replace hS : SH M X w [eO 5 (tI .u8) kL10 g11] _:=hS.join [] [] rfl rfl hq
   rw [hX] at hS
   exact ⟨gL [g11],fun _ _ => rfl,hS.sel [0] rfl⟩
  ·intro o ho a w yg7 M Hb hv hO hS
   obtain rfl:=someE ho
   exact Stp.mono (o_evs [] (vL g_more more) none [] Hb rfl (by kernel_rfl) (fun q e => by cases e)) fun _ _ hq => ⟨gL [],fun _ _ => hq.1,(hS.below hq.2.below).sel [] rfl⟩
  ·intro o ho a w yg7 M Hb hv hO hS0
   obtain rfl:=someE ho
   have H : Fr 23 ((fS [19,18] [vL g_more more,vK (yg7 5 0) 3]) ++ (fS [0,1,3,4,5,8,12] [vS name_,vB inherited,vS all_,vB least,vL g_more more,vP b1,vP b4])) _:=((Hb).add (hv 5 (by decide) (by decide) 18 rfl)).add (hv 6 (by decide) (by decide) 19 rfl)
   obtain ⟨X,hX⟩ : ∃ X,X = fpl [eO 5 (tI .u8) kL10 (yg7 5 0),eI (tI .u8) more g_more]:=⟨_,rfl⟩
   have hS : SH M X w [eO 5 (tI .u8) kL10 (yg7 5 0),eI (tI .u8) more g_more] w:=by rw [hX]; exact hS0
   have hd:=hS.hand [0,1] [1] rfl rfl
   refine Stp.mono (o_app (T:=(tI .u8)) (zv:=vU 0) (g1:=(yg7 5 0)) (g2:=g_more) (l1:=kL10) (l2:=more) q14 hq14.symm H hd rfl rfl rfl rfl rfl rfl rfl (by kernel_rfl) (by kernel_rfl) rfl rfl ho13) ?_
   rintro v w2 hq
   obtain ⟨g15,rfl,hq⟩:=hq
   replace hS : SH M X w [eO 5 (tI .u8) q14 g15,eI (tI .u8) more g_more] _:=hS.join [0,1] [1] rfl rfl hq
   rw [hX] at hS
   exact ⟨gL [g15],fun _ _ => rfl,hS.sel [0,1] rfl⟩
  ·intro o ho a w yg7 M Hb hv hO hS
   obtain rfl:=someE ho
   exact Stp.mono (o_evs [] (vB least) none [] Hb rfl (by kernel_rfl) (fun q e => by cases e)) fun _ _ hq => ⟨gL [],fun _ _ => hq.1,(hS.below hq.2.below).sel [] rfl⟩
  ·intro o ho a w yg7 M Hb hv hO hS
   obtain rfl:=someE ho
   exact Stp.mono (o_evs [] (vG [vS name_,vB inherited,vU first.Kind,vS first.Word,vI first.Num,vU first.Color.Red,vU first.Color.Green,vU first.Color.Blue,vU first.Color.Alpha,.slice (yg7 4 0).a y8.length (yg7 4 0).c,.slice (yg7 7 0).a q14.length (yg7 7 0).c,vB least]) none [] (((((((Hb).add (hv 0 (by decide) (by decide) 13 rfl)).add (hv 1 (by decide) (by decide) 14 rfl)).add (hv 2 (by decide) (by decide) 15 rfl)).add (hv 4 (by decide) (by decide) 17 rfl)).add (hv 7 (by decide) (by decide) 20 rfl)).add (hv 8 (by decide) (by decide) 21 rfl)) rfl (by kernel_rfl) (fun q e => by cases e)) fun _ _ hq => ⟨gL [],fun _ _ => hq.1,(hS.below hq.2.below).sel [0,1] rfl⟩
  ·intro o ho a w yg7 M Hb hv hO hS0
   obtain rfl:=someE ho
   have H : Fr 23 ([(22,[],vG [vS name_,vB inherited,vU first.Kind,vS first.Word,vI first.Num,vU first.Color.Red,vU first.Color.Green,vU first.Color.Blue,vU first.Color.Alpha,.slice (yg7 4 0).a y8.length (yg7 4 0).c,.slice (yg7 7 0).a q14.length (yg7 7 0).c,vB least])] ++ (fS [0,1,3,4,5,8,12] [vS name_,vB inherited,vS all_,vB least,vL g_more more,vP b1,vP b4])) _:=(Hb).add (hv 9 (by decide) (by decide) 22 rfl)
   obtain ⟨X,hX⟩ : ∃ X,X = fpl [eO 9 tS y8 (yg7 4 0),eO 5 (tI .u8) q14 (yg7 7 0),eB b4 [vN,vF,vU 0,vN,vI 0,vU 0,vU 0,vU 0,vU 0,vO,vO,vF]]:=⟨_,rfl⟩
   have hS : SH M X w [eO 9 tS y8 (yg7 4 0),eO 5 (tI .u8) q14 (yg7 7 0),eB b4 [vN,vF,vU 0,vN,vI 0,vU 0,vU 0,vU 0,vU 0,vO,vO,vF]] w:=by rw [hX]; exact hS0
   have hd:=hS.hand [2] [0,1] rfl rfl
   refine Stp.mono (o_store [vS name_,vB inherited,vU first.Kind,vS first.Word,vI first.Num,vU first.Color.Red,vU first.Color.Green,vU first.Color.Blue,vU first.Color.Alpha,.slice (yg7 4 0).a y8.length (yg7 4 0).c,.slice (yg7 7 0).a q14.length (yg7 7 0).c,vB least] H hd rfl rfl (by kernel_rfl) rfl rfl rfl) ?_
   rintro v w2 hq
   replace hS : SH M X w [eB b4 [vS name_,vB inherited,vU first.Kind,vS first.Word,vI first.Num,vU first.Color.Red,vU first.Color.Green,vU first.Color.Blue,vU first.Color.Alpha,.slice (yg7 4 0).a y8.length (yg7 4 0).c,.slice (yg7 7 0).a q14.length (yg7 7 0).c,vB least],eO 9 tS y8 (yg7 4 0),eO 5 (tI .u8) q14 (yg7 7 0)] _:=hS.join [2] [0,1] rfl rfl hq
   rw [hX] at hS
   exact ⟨gL [],(fun _ h => by cases h),hS.sel [0,1,2] rfl⟩
 have H18 : Fr 23 [(12,[],vP b4)] _:=(FrG.keep (ks:=[12]) H17 (by kernel_rfl))
 replace hS : SH M X w [eO 9 tS y8 (yg7 4 0),eO 5 (tI .u8) q14 (yg7 7 0),eB b4 [vS name_,vB inherited,vU first.Kind,vS first.Word,vI first.Num,vU first.Color.Red,vU first.Color.Green,vU first.Color.Blue,vU first.Color.Alpha,.slice (yg7 4 0).a y8.length (yg7 4 0).c,.slice (yg7 7 0).a q14.length (yg7 7 0).c,vB least],eB b1 (cV first),eI (tI .u8) more g_more,gE0] _:=hS
 clear hv H17
 generalize yg7 4 0 = g19 at H18 hS
 generalize yg7 7 0 = g20 at H18 hS
 replace hS : SH M X w [eO 9 tS y8 g19,eO 5 (tI .u8) q14 g20,eB b4 [vS name_,vB inherited,vU first.Kind,vS first.Word,vI first.Num,vU first.Color.Red,vU first.Color.Green,vU first.Color.Blue,vU first.Color.Alpha,vL g19 y8,vL g20 q14,vB least],gE0] _:=hS.sel [0,1,2,5] rfl
 apply w_ret
 obtain rfl:=someE hm
 exact retR1 H18 rfl (oneRes_agg rfl (hS.bk 2 rfl) Tryz.underlying100 rfl (by kernel_rfl)) ⟨_,rfl,g19,g20,rfl,(hS.sel [0,1] rfl)⟩
theorem props_length_ok {g_more : Gh} (m : Nat) (name_ : Str) (inherited : Bool) (first : TVal) (all_ : Str) (least : Bool) (more : List Int) (r : TProp) (hm : props_length m name_ inherited first all_ least more = some r) (M : Av) (w : World) (hS : S0 M [eI (tI .u8) more g_more,gE0] w) : DoesX Tryz.prog 79 ⟨[vS name_,vB inherited,vG (cV first),vS all_,vB least,vL g_more more]⟩ w (fun v w' => ∃ (g901 : Gh) (g903 : Gh),v = vG [vS r.Name,vB r.Inherited,vU r.Initial.Kind,vS r.Initial.Word,vI r.Initial.Num,vU r.Initial.Color.Red,vU r.Initial.Color.Green,vU r.Initial.Color.Blue,vU r.Initial.Color.Alpha,vL g901 r.Words,vL g903 r.Kinds,vB r.Least] ∧ SH M (fpl [eI (tI .u8) more g_more,gE0]) w [eO 9 tS r.Words g901,eO 5 (tI .u8) r.Kinds g903] w'):=⟨Tryz.call79 _,props_length_w M m   name_ inherited first all_ least more r hm w hS⟩

theorem props_Table_w  (M : Av) (m : Nat)  (r : List TProp) (hm : props_Table m = some r) (w : World) (hS : S0 M [gE0] w) : Calls Tryz.prog 54 ⟨[]⟩ w (fun e w' => ∃ v,e = .returned v ∧ ∃ (g901 : Gh),v = vL g901 r ∧ SH M (fpl [gE0]) w [eO 100 tyProp r g901] w'):=by
 rw [props_Table] at hm
 have hS0 : SH M (fpl [gE0]) w [gE0] w:=hS
 generalize hX : fpl [gE0] = X at hS0 ⊢
 clear hS hX
 have hS:=hS0
 clear hS0
 refine calls_entryP Tryz.func54 rfl Tryz.ntmps54 rfl fun _ H => ?_
 refine s_reg [] [] [] [] H (by kernel_rfl) trivial fun _ _ H2 hb => ?_
 replace hS:=hS.below hb
 clear H hb
 apply w_seq
 apply wl_start
 obtain ⟨y3,hy3,hm⟩:=letE hm
 refine wl_batch 0 2 [(vG (cV y3))] [6,7] (fS [6,7] [vG (cV y3),vG [vU 2,vN,vI 0,vU 0,vU 0,vU 0,vU 0]]) [rB 76 [vS [97,117,116,111]] (vG (cV y3))] H2 (by decide) (by subst hy3; kernel_rfl) ⟨((by rw [hy3]; exact (props_word_ok _).b)),trivial⟩ fun _ _ H5 hb => ?_
 replace hS:=hS.below hb
 clear H2 hb
 have hd:=hS.hand [] [0] rfl rfl
 refine m_stp [1,6,7] (fS [6,7] [vG (cV y3),vG [vU 2,vN,vI 0,vU 0,vU 0,vU 0,vU 0]]) H5 rfl rfl rfl rfl (o_alloc [vU 0,vN,vI 0,vU 0,vU 0,vU 0,vU 0] (z:=vG [vU 0,vN,vI 0,vU 0,vU 0,vU 0,vU 0]) hd (by kernel_rfl) rfl) (fun _ => rfl) fun _ _ v H8 hq => ?_
 clear H5 hd
 obtain ⟨b6,rfl,hq⟩:=hq
 replace hS : SH M X w [eB b6 [vU 0,vN,vI 0,vU 0,vU 0,vU 0,vU 0],gE0] _:=hS.join [] [0] rfl rfl hq
 clear hq
 have hd:=hS.hand [] [0,1] rfl rfl
 refine m_stp [2,1,6,7] (fS [1,6,7] [vP b6,vG (cV y3),vG [vU 2,vN,vI 0,vU 0,vU 0,vU 0,vU 0]]) H8 rfl rfl rfl rfl (o_alloc [vU 0,vN,vI 0,vU 0,vU 0,vU 0,vU 0] (z:=vG [vU 0,vN,vI 0,vU 0,vU 0,vU 0,vU 0]) hd (by kernel_rfl) rfl) (fun _ => rfl) fun _ _ v H11 hq => ?_
 clear H8 hd
 obtain ⟨b9,rfl,hq⟩:=hq
 replace hS : SH M X w [eB b9 [vU 0,vN,vI 0,vU 0,vU 0,vU 0,vU 0],eB b6 [vU 0,vN,vI 0,vU 0,vU 0,vU 0,vU 0],gE0] _:=hS.join [] [0,1] rfl rfl hq
 clear hq
 have hd:=hS.hand [1] [0,2] rfl rfl
 refine m_stp0 [1,2,7] (fS [1,2,7] [vP b6,vP b9,vG [vU 2,vN,vI 0,vU 0,vU 0,vU 0,vU 0]]) H11 rfl rfl rfl (o_store (cV y3) H11 hd rfl rfl (by kernel_rfl) rfl rfl rfl) rfl fun _ _ H13 hq => ?_
 clear H11 hd
 obtain ⟨_,hq⟩:=hq
 replace hS : SH M X w [eB b6 (cV y3),eB b9 [vU 0,vN,vI 0,vU 0,vU 0,vU 0,vU 0],gE0] _:=hS.join [1] [0,2] rfl rfl hq
 clear hq
 have hd:=hS.hand [1] [0,2] rfl rfl
 refine m_stp0 [1,2] (fS [1,2] [vP b6,vP b9]) H13 rfl rfl rfl (o_store [vU 2,vN,vI 0,vU 0,vU 0,vU 0,vU 0] H13 hd rfl rfl (by kernel_rfl) rfl rfl rfl) rfl fun _ _ H15 hq => ?_
 clear H13 hd
 obtain ⟨_,hq⟩:=hq
 replace hS : SH M X w [eB b9 [vU 2,vN,vI 0,vU 0,vU 0,vU 0,vU 0],eB b6 (cV y3),gE0] _:=hS.join [1] [0,2] rfl rfl hq
 clear hq
 apply wl_end rfl
 obtain ⟨y17,hy17,hm⟩:=letE hm
 obtain ⟨y22,hy22,hm⟩:=letE hm
 obtain ⟨y27,hy27,hm⟩:=letE hm
 obtain ⟨y32,hy32,hm⟩:=letE hm
 obtain ⟨y37,hy37,hm⟩:=bindE hm
 obtain ⟨y42,hy42,hm⟩:=bindE hm
 obtain ⟨y48,hy48,hm⟩:=bindE hm
 obtain ⟨y54,hy54,hm⟩:=bindE hm
 refine s_drawS (base:=(fS [1,2] [vP b6,vP b9])) (L:=[eB b9 [vU 2,vN,vI 0,vU 0,vU 0,vU 0,vU 0],eB b6 (cV y3),gE0]) 17 3 (fun yg16 => [vG [vU 0,vU 0,vU 0,vU 255],vG [vU 7,vN,vI 0,vU 0,vU 0,vU 0,vU 255],vG [vS y17.Name,vB y17.Inherited,vU y17.Initial.Kind,vS y17.Initial.Word,vI y17.Initial.Num,vU y17.Initial.Color.Red,vU y17.Initial.Color.Green,vU y17.Initial.Color.Blue,vU y17.Initial.Color.Alpha,.slice (yg16 2 0).a y17.Words.length (yg16 2 0).c,.slice (yg16 2 1).a y17.Kinds.length (yg16 2 1).c,vB y17.Least],vG [vU 7,vN,vI 0,vU 0,vU 0,vU 0,vU 0],vG [vS y22.Name,vB y22.Inherited,vU y22.Initial.Kind,vS y22.Initial.Word,vI y22.Initial.Num,vU y22.Initial.Color.Red,vU y22.Initial.Color.Green,vU y22.Initial.Color.Blue,vU y22.Initial.Color.Alpha,.slice (yg16 4 0).a y22.Words.length (yg16 4 0).c,.slice (yg16 4 1).a y22.Kinds.length (yg16 4 1).c,vB y22.Least],vG [vU 8,vN,vI 0,vU 0,vU 0,vU 0,vU 0],vG [vS y27.Name,vB y27.Inherited,vU y27.Initial.Kind,vS y27.Initial.Word,vI y27.Initial.Num,vU y27.Initial.Color.Red,vU y27.Initial.Color.Green,vU y27.Initial.Color.Blue,vU y27.Initial.Color.Alpha,.slice (yg16 6 0).a y27.Words.length (yg16 6 0).c,.slice (yg16 6 1).a y27.Kinds.length (yg16 6 1).c,vB y27.Least],vG [vU 8,vN,vI 0,vU 0,vU 0,vU 0,vU 0],vG [vS y32.Name,vB y32.Inherited,vU y32.Initial.Kind,vS y32.Initial.Word,vI y32.Initial.Num,vU y32.Initial.Color.Red,vU y32.Initial.Color.Green,vU y32.Initial.Color.Blue,vU y32.Initial.Color.Alpha,.slice (yg16 8 0).a y32.Words.length (yg16 8 0).c,.slice (yg16 8 1).a y32.Kinds.length (yg16 8 1).c,vB y32.Least],vG [vS y37.Name,vB y37.Inherited,vU y37.Initial.Kind,vS y37.Initial.Word,vI y37.Initial.Num,vU y37.Initial.Color.Red,vU y37.Initial.Color.Green,vU y37.Initial.Color.Blue,vU y37.Initial.Color.Alpha,.slice (yg16 9 0).a y37.Words.length (yg16 9 0).c,.slice (yg16 9 1).a y37.Kinds.length (yg16 9 1).c,vB y37.Least],vG [vS y42.Name,vB y42.Inherited,vU y42.Initial.Kind,vS y42.Initial.Word,vI y42.Initial.Num,vU y42.Initial.Color.Red,vU y42.Initial.Color.Green,vU y42.Initial.Color.Blue,vU y42.Initial.Color.Alpha,.slice (yg16 10 0).a y42.Words.length (yg16 10 0).c,.slice (yg16 10 1).a y42.Kinds.length (yg16 10 1).c,vB y42.Least],vG (cV y3),vG [vS y48.Name,vB y48.Inherited,vU y48.Initial.Kind,vS y48.Initial.Word,vI y48.Initial.Num,vU y48.Initial.Color.Red,vU y48.Initial.Color.Green,vU y48.Initial.Color.Blue,vU y48.Initial.Color.Alpha,.slice (yg16 12 0).a y48.Words.length (yg16 12 0).c,.slice (yg16 12 1).a y48.Kinds.length (yg16 12 1).c,vB y48.Least],vG (cV y3),vG [vS y54.Name,vB y54.Inherited,vU y54.Initial.Kind,vS y54.Initial.Word,vI y54.Initial.Num,vU y54.Initial.Color.Red,vU y54.Initial.Color.Green,vU y54.Initial.Color.Blue,vU y54.Initial.Color.Alpha,.slice (yg16 14 0).a y54.Words.length (yg16 14 0).c,.slice (yg16 14 1).a y54.Kinds.length (yg16 14 1).c,vB y54.Least],vK (yg16 15 0) 8,vK (yg16 15 0) 8]) (fun yg16 => [[],[],[eO 9 tS y17.Words (yg16 2 0),eO 5 (tI .u8) y17.Kinds (yg16 2 1)],[],[eO 9 tS y22.Words (yg16 4 0),eO 5 (tI .u8) y22.Kinds (yg16 4 1)],[],[eO 9 tS y27.Words (yg16 6 0),eO 5 (tI .u8) y27.Kinds (yg16 6 1)],[],[eO 9 tS y32.Words (yg16 8 0),eO 5 (tI .u8) y32.Kinds (yg16 8 1)],[eO 9 tS y37.Words (yg16 9 0),eO 5 (tI .u8) y37.Kinds (yg16 9 1)],[eO 9 tS y42.Words (yg16 10 0),eO 5 (tI .u8) y42.Kinds (yg16 10 1)],[],[eO 9 tS y48.Words (yg16 12 0),eO 5 (tI .u8) y48.Kinds (yg16 12 1),eI (tI .u8) ([] : List Int) (.nil)],[],[eO 9 tS y54.Words (yg16 14 0),eO 5 (tI .u8) y54.Kinds (yg16 14 1),eI (tI .u8) ([] : List Int) (.nil)],[eO 100 tyProp ([y17,y22,y27,y32,y37,y42,y48,y54] : List TProp) (yg16 15 0),eI (tI .u8) y54.Kinds (yg16 14 1),eI tS y54.Words (yg16 14 0),eI (tI .u8) y48.Kinds (yg16 12 1),eI tS y48.Words (yg16 12 0),eI (tI .u8) y42.Kinds (yg16 10 1),eI tS y42.Words (yg16 10 0),eI (tI .u8) y37.Kinds (yg16 9 1),eI tS y37.Words (yg16 9 0),eI (tI .u8) y32.Kinds (yg16 8 1),eI tS y32.Words (yg16 8 0),eI (tI .u8) y27.Kinds (yg16 6 1),eI tS y27.Words (yg16 6 0),eI (tI .u8) y22.Kinds (yg16 4 1),eI tS y22.Words (yg16 4 0),eI (tI .u8) y17.Kinds (yg16 2 1),eI tS y17.Words (yg16 2 0),eI (tI .u8) ([] : List Int) (.nil),eI (tI .u8) ([] : List Int) (.nil)],[]]) [[],[],[],[],[],[],[],[],[],[19],[19],[18],[19],[18],[19],[2,4,6,8,9,10,12,14],[15]] [[],[],[],[],[],[],[],[],[],[],[],[],[],[],[],[2,4,6,8,9,10,12,14],[]] [[0],[0,1],[0,1,2],[3],[3,4],[5],[5,6],[7],[7,8],[9],[10],[11],[11,12],[13],[13,14],[0,1,2,3,4,5,6,7,8,9,10,11,12,13,14,15],[0,1,2,3,4,5,6,7,8,9,10,11,12,13,14,15,16]] [] (FrG.keep (ks:=[1,2]) H15 (by kernel_rfl)) (fun _ _ h => by cases h) (by kernel_rfl) hS (by kernel_rfl) rfl rfl (by kernel_rfl) (by kernel_rfl) (by kernel_rfl) (gd_none (by kernel_rfl) _ _) ?hloc_yg16 ?hstep_yg16 fun _ _ yg16 H62 hv hS => ?hK_yg16
 case hloc_yg16 => exact ⟨(fun _ _ _ _ => ⟨rfl,rfl⟩),(fun _ _ _ _ => ⟨rfl,rfl⟩),(fun _ i g hi => lcG [2] (fun yg16 => (vG [vS y17.Name,vB y17.Inherited,vU y17.Initial.Kind,vS y17.Initial.Word,vI y17.Initial.Num,vU y17.Initial.Color.Red,vU y17.Initial.Color.Green,vU y17.Initial.Color.Blue,vU y17.Initial.Color.Alpha,.slice (yg16 2 0).a y17.Words.length (yg16 2 0).c,.slice (yg16 2 1).a y17.Kinds.length (yg16 2 1).c,vB y17.Least],[eO 9 tS y17.Words (yg16 2 0),eO 5 (tI .u8) y17.Kinds (yg16 2 1)])) hi rfl),(fun _ _ _ _ => ⟨rfl,rfl⟩),(fun _ i g hi => lcG [4] (fun yg16 => (vG [vS y22.Name,vB y22.Inherited,vU y22.Initial.Kind,vS y22.Initial.Word,vI y22.Initial.Num,vU y22.Initial.Color.Red,vU y22.Initial.Color.Green,vU y22.Initial.Color.Blue,vU y22.Initial.Color.Alpha,.slice (yg16 4 0).a y22.Words.length (yg16 4 0).c,.slice (yg16 4 1).a y22.Kinds.length (yg16 4 1).c,vB y22.Least],[eO 9 tS y22.Words (yg16 4 0),eO 5 (tI .u8) y22.Kinds (yg16 4 1)])) hi rfl),(fun _ _ _ _ => ⟨rfl,rfl⟩),(fun _ i g hi => lcG [6] (fun yg16 => (vG [vS y27.Name,vB y27.Inherited,vU y27.Initial.Kind,vS y27.Initial.Word,vI y27.Initial.Num,vU y27.Initial.Color.Red,vU y27.Initial.Color.Green,vU y27.Initial.Color.Blue,vU y27.Initial.Color.Alpha,.slice (yg16 6 0).a y27.Words.length (yg16 6 0).c,.slice (yg16 6 1).a y27.Kinds.length (yg16 6 1).c,vB y27.Least],[eO 9 tS y27.Words (yg16 6 0),eO 5 (tI .u8) y27.Kinds (yg16 6 1)])) hi rfl),(fun _ _ _ _ => ⟨rfl,rfl⟩),(fun _ i g hi => lcG [8] (fun yg16 => (vG [vS y32.Name,vB y32.Inherited,vU y32.Initial.Kind,vS y32.Initial.Word,vI y32.Initial.Num,vU y32.Initial.Color.Red,vU y32.Initial.Color.Green,vU y32.Initial.Color.Blue,vU y32.Initial.Color.Alpha,.slice (yg16 8 0).a y32.Words.length (yg16 8 0).c,.slice (yg16 8 1).a y32.Kinds.length (yg16 8 1).c,vB y32.Least],[eO 9 tS y32.Words (yg16 8 0),eO 5 (tI .u8) y32.Kinds (yg16 8 1)])) hi rfl),(fun _ i g hi => lcG [9] (fun yg16 => (vG [vS y37.Name,vB y37.Inherited,vU y37.Initial.Kind,vS y37.Initial.Word,vI y37.Initial.Num,vU y37.Initial.Color.Red,vU y37.Initial.Color.Green,vU y37.Initial.Color.Blue,vU y37.Initial.Color.Alpha,.slice (yg16 9 0).a y37.Words.length (yg16 9 0).c,.slice (yg16 9 1).a y37.Kinds.length (yg16 9 1).c,vB y37.Least],[eO 9 tS y37.Words (yg16 9 0),eO 5 (tI .u8) y37.Kinds (yg16 9 1)])) hi rfl),(fun _ i g hi => lcG [10] (fun yg16 => (vG [vS y42.Name,vB y42.Inherited,vU y42.Initial.Kind,vS y42.Initial.Word,vI y42.Initial.Num,vU y42.Initial.Color.Red,vU y42.Initial.Color.Green,vU y42.Initial.Color.Blue,vU y42.Initial.Color.Alpha,.slice (yg16 10 0).a y42.Words.length (yg16 10 0).c,.slice (yg16 10 1).a y42.Kinds.length (yg16 10 1).c,vB y42.Least],[eO 9 tS y42.Words (yg16 10 0),eO 5 (tI .u8) y42.Kinds (yg16 10 1)])) hi rfl),(fun _ _ _ _ => ⟨rfl,rfl⟩),(fun _ i g hi => lcG [12] (fun yg16 => (vG [vS y48.Name,vB y48.Inherited,vU y48.Initial.Kind,vS y48.Initial.Word,vI y48.Initial.Num,vU y48.Initial.Color.Red,vU y48.Initial.Color.Green,vU y48.Initial.Color.Blue,vU y48.Initial.Color.Alpha,.slice (yg16 12 0).a y48.Words.length (yg16 12 0).c,.slice (yg16 12 1).a y48.Kinds.length (yg16 12 1).c,vB y48.Least],[eO 9 tS y48.Words (yg16 12 0),eO 5 (tI .u8) y48.Kinds (yg16 12 1),eI (tI .u8) ([] : List Int) (.nil)])) hi rfl),(fun _ _ _ _ => ⟨rfl,rfl⟩),(fun _ i g hi => lcG [14] (fun yg16 => (vG [vS y54.Name,vB y54.Inherited,vU y54.Initial.Kind,vS y54.Initial.Word,vI y54.Initial.Num,vU y54.Initial.Color.Red,vU y54.Initial.Color.Green,vU y54.Initial.Color.Blue,vU y54.Initial.Color.Alpha,.slice (yg16 14 0).a y54.Words.length (yg16 14 0).c,.slice (yg16 14 1).a y54.Kinds.length (yg16 14 1).c,vB y54.Least],[eO 9 tS y54.Words (yg16 14 0),eO 5 (tI .u8) y54.Kinds (yg16 14 1),eI (tI .u8) ([] : List Int) (.nil)])) hi rfl),(fun _ i g hi => lcG [2,4,6,8,9,10,12,14,15] (fun yg16 => (vK (yg16 15 0) 8,[eO 100 tyProp ([y17,y22,y27,y32,y37,y42,y48,y54] : List TProp) (yg16 15 0),eI (tI .u8) y54.Kinds (yg16 14 1),eI tS y54.Words (yg16 14 0),eI (tI .u8) y48.Kinds (yg16 12 1),eI tS y48.Words (yg16 12 0),eI (tI .u8) y42.Kinds (yg16 10 1),eI tS y42.Words (yg16 10 0),eI (tI .u8) y37.Kinds (yg16 9 1),eI tS y37.Words (yg16 9 0),eI (tI .u8) y32.Kinds (yg16 8 1),eI tS y32.Words (yg16 8 0),eI (tI .u8) y27.Kinds (yg16 6 1),eI tS y27.Words (yg16 6 0),eI (tI .u8) y22.Kinds (yg16 4 1),eI tS y22.Words (yg16 4 0),eI (tI .u8) y17.Kinds (yg16 2 1),eI tS y17.Words (yg16 2 0),eI (tI .u8) ([] : List Int) (.nil),eI (tI .u8) ([] : List Int) (.nil)])) hi rfl),(fun _ i g hi => lcG [15] (fun yg16 => (vK (yg16 15 0) 8,[])) hi rfl),trivial⟩
 case hstep_yg16 =>
  refine ⟨?_,?_,?_,?_,?_,?_,?_,?_,?_,?_,?_,?_,?_,?_,?_,?_,?_,trivial⟩
  ·intro o ho a w yg16 M Hb hv hO hS
   obtain rfl:=someE ho
   exact Stp.mono (o_evs [] (vG [vU 0,vU 0,vU 0,vU 255]) none [] Hb rfl (by kernel_rfl) (fun q e => by cases e)) fun _ _ hq => ⟨gL [],fun _ _ => hq.1,(hS.below hq.2.below).sel [] rfl⟩
  ·intro o ho a w yg16 M Hb hv hO hS
   obtain rfl:=someE ho
   exact Stp.mono (o_evs [] (vG [vU 7,vN,vI 0,vU 0,vU 0,vU 0,vU 255]) none [] ((Hb).add (hv 0 (by decide) (by decide) 8 rfl)) rfl (by kernel_rfl) (fun q e => by cases e)) fun _ _ hq => ⟨gL [],fun _ _ => hq.1,(hS.below hq.2.below).sel [] rfl⟩
  ·intro o ho a w yg16 M Hb hv hO hS0
   obtain rfl:=someE ho
   have H : Fr 57 ([(9,[],vG [vU 7,vN,vI 0,vU 0,vU 0,vU 0,vU 255])] ++ (fS [1,2] [vP b6,vP b9])) _:=(Hb).add (hv 1 (by decide) (by decide) 9 rfl)
   obtain ⟨X,hX⟩ : ∃ X,X = fpl []:=⟨_,rfl⟩
   have hS : SH M X w [] w:=by rw [hX]; exact hS0
   have hd:=hS.hand [] [] rfl rfl
   refine Stp.mono (o_callx H rfl rfl (props_color_ok _ _ _ _ hy17.symm _ _ hd)) ?_
   rintro v w2 hq
   obtain ⟨g18,g20,rfl,hq⟩:=hq
   replace hS : SH M X w [eO 9 tS y17.Words g18,eO 5 (tI .u8) y17.Kinds g20] _:=hS.join [] [] rfl rfl hq
   clear hq
   rw [hX] at hS
   exact ⟨gL [g18,g20],fun _ _ => rfl,hS.sel [0,1] rfl⟩
  ·intro o ho a w yg16 M Hb hv hO hS
   obtain rfl:=someE ho
   exact Stp.mono (o_evs [] (vG [vU 7,vN,vI 0,vU 0,vU 0,vU 0,vU 0]) none [] Hb rfl (by kernel_rfl) (fun q e => by cases e)) fun _ _ hq => ⟨gL [],fun _ _ => hq.1,(hS.below hq.2.below).sel [] rfl⟩
  ·intro o ho a w yg16 M Hb hv hO hS0
   obtain rfl:=someE ho
   have H : Fr 57 ([(11,[],vG [vU 7,vN,vI 0,vU 0,vU 0,vU 0,vU 0])] ++ (fS [1,2] [vP b6,vP b9])) _:=(Hb).add (hv 3 (by decide) (by decide) 11 rfl)
   obtain ⟨X,hX⟩ : ∃ X,X = fpl []:=⟨_,rfl⟩
   have hS : SH M X w [] w:=by rw [hX]; exact hS0
   have hd:=hS.hand [] [] rfl rfl
   refine Stp.mono (o_callx H rfl rfl (props_color_ok _ _ _ _ hy22.symm _ _ hd)) ?_
   rintro v w2 hq
   obtain ⟨g23,g25,rfl,hq⟩:=hq
   replace hS : SH M X w [eO 9 tS y22.Words g23,eO 5 (tI .u8) y22.Kinds g25] _:=hS.join [] [] rfl rfl hq
   clear hq
   rw [hX] at hS
   exact ⟨gL [g23,g25],fun _ _ => rfl,hS.sel [0,1] rfl⟩
  ·intro o ho a w yg16 M Hb hv hO hS
   obtain rfl:=someE ho
   exact Stp.mono (o_evs [] (vG [vU 8,vN,vI 0,vU 0,vU 0,vU 0,vU 0]) none [] Hb rfl (by kernel_rfl) (fun q e => by cases e)) fun _ _ hq => ⟨gL [],fun _ _ => hq.1,(hS.below hq.2.below).sel [] rfl⟩
  ·intro o ho a w yg16 M Hb hv hO hS0
   obtain rfl:=someE ho
   have H : Fr 57 ([(13,[],vG [vU 8,vN,vI 0,vU 0,vU 0,vU 0,vU 0])] ++ (fS [1,2] [vP b6,vP b9])) _:=(Hb).add (hv 5 (by decide) (by decide) 13 rfl)
   obtain ⟨X,hX⟩ : ∃ X,X = fpl []:=⟨_,rfl⟩
   have hS : SH M X w [] w:=by rw [hX]; exact hS0
   have hd:=hS.hand [] [] rfl rfl
   refine Stp.mono (o_callx H rfl rfl (props_color_ok _ _ _ _ hy27.symm _ _ hd)) ?_
   rintro v w2 hq
   obtain ⟨g28,g30,rfl,hq⟩:=hq
   replace hS : SH M X w [eO 9 tS y27.Words g28,eO 5 (tI .u8) y27.Kinds g30] _:=hS.join [] [] rfl rfl hq
   clear hq
   rw [hX] at hS
   exact ⟨gL [g28,g30],fun _ _ => rfl,hS.sel [0,1] rfl⟩
  ·intro o ho a w yg16 M Hb hv hO hS
   obtain rfl:=someE ho
   exact Stp.mono (o_evs [] (vG [vU 8,vN,vI 0,vU 0,vU 0,vU 0,vU 0]) none [] Hb rfl (by kernel_rfl) (fun q e => by cases e)) fun _ _ hq => ⟨gL [],fun _ _ => hq.1,(hS.below hq.2.below).sel [] rfl⟩
  ·intro o ho a w yg16 M Hb hv hO hS0
   obtain rfl:=someE ho
   have H : Fr 57 ([(15,[],vG [vU 8,vN,vI 0,vU 0,vU 0,vU 0,vU 0])] ++ (fS [1,2] [vP b6,vP b9])) _:=(Hb).add (hv 7 (by decide) (by decide) 15 rfl)
   obtain ⟨X,hX⟩ : ∃ X,X = fpl []:=⟨_,rfl⟩
   have hS : SH M X w [] w:=by rw [hX]; exact hS0
   have hd:=hS.hand [] [] rfl rfl
   refine Stp.mono (o_callx H rfl rfl (props_color_ok _ _ _ _ hy32.symm _ _ hd)) ?_
   rintro v w2 hq
   obtain ⟨g33,g35,rfl,hq⟩:=hq
   replace hS : SH M X w [eO 9 tS y32.Words g33,eO 5 (tI .u8) y32.Kinds g35] _:=hS.join [] [] rfl rfl hq
   clear hq
   rw [hX] at hS
   exact ⟨gL [g33,g35],fun _ _ => rfl,hS.sel [0,1] rfl⟩
  ·intro o ho a w yg16 M Hb hv hO hS0
   obtain rfl:=someE ho
   have H : Fr 57 ([] ++ (fS [1,2] [vP b6,vP b9])) _:=Hb
   obtain ⟨X,hX⟩ : ∃ X,X = fpl [gE0]:=⟨_,rfl⟩
   have hS : SH M X w [gE0] w:=by rw [hX]; exact hS0
   have hd:=hS.hand [0] [0] rfl rfl
   refine Stp.mono (o_callx H rfl rfl (props_words_ok m _ _ _ _ _ hy37 _ _ hd)) ?_
   rintro v w2 hq
   obtain ⟨g38,g40,rfl,hq⟩:=hq
   replace hS : SH M X w [eO 9 tS y37.Words g38,eO 5 (tI .u8) y37.Kinds g40,gE0] _:=hS.join [0] [0] rfl rfl hq
   clear hq
   rw [hX] at hS
   exact ⟨gL [g38,g40],fun _ _ => rfl,hS.sel [0,1,2] rfl⟩
  ·intro o ho a w yg16 M Hb hv hO hS0
   obtain rfl:=someE ho
   have H : Fr 57 ([] ++ (fS [1,2] [vP b6,vP b9])) _:=Hb
   obtain ⟨X,hX⟩ : ∃ X,X = fpl [gE0]:=⟨_,rfl⟩
   have hS : SH M X w [gE0] w:=by rw [hX]; exact hS0
   have hd:=hS.hand [0] [0] rfl rfl
   refine Stp.mono (o_callx H rfl rfl (props_words_ok m _ _ _ _ _ hy42 _ _ hd)) ?_
   rintro v w2 hq
   obtain ⟨g43,g45,rfl,hq⟩:=hq
   replace hS : SH M X w [eO 9 tS y42.Words g43,eO 5 (tI .u8) y42.Kinds g45,gE0] _:=hS.join [0] [0] rfl rfl hq
   clear hq
   rw [hX] at hS
   exact ⟨gL [g43,g45],fun _ _ => rfl,hS.sel [0,1,2] rfl⟩
  ·intro o ho a w yg16 M Hb hv hO hS
   obtain rfl:=someE ho
   exact Stp.mono (o_evs [(vG (cV y3))] (vG (cV y3)) (some (rN b6 0 (cV y3))) [] Hb rfl (by kernel_rfl) (fun q e => by cases e; exact ((hS.bk 0 rfl).atD rfl))) fun _ _ hq => ⟨gL [],fun _ _ => hq.1,(hS.below hq.2.below).sel [0] rfl⟩
  ·intro o ho a w yg16 M Hb hv hO hS0
   obtain rfl:=someE ho
   have H : Fr 57 ([(19,[],vG (cV y3))] ++ (fS [1,2] [vP b6,vP b9])) _:=(Hb).add (hv 11 (by decide) (by decide) 19 rfl)
   obtain ⟨X,hX⟩ : ∃ X,X = fpl [gE0]:=⟨_,rfl⟩
   have hS : SH M X w [gE0] w:=by rw [hX]; exact hS0
   replace hS : SH M X w [eO 5 (tI .u8) ([] : List Int) (.nil),gE0] _:=hS.addNil 5 (tI .u8)
   replace hS : SH M X w [eI (tI .u8) ([] : List Int) (.nil),gE0] _:=SH.frz1 (hS.sel [0,1] rfl)
   have hd:=hS.hand [0,1] [0,1] rfl rfl
   refine Stp.mono (o_callx H rfl rfl (props_length_ok (g_more:=Gh.nil) m _ _ _ _ _ _ _ hy48 _ _ hd)) ?_
   rintro v w2 hq
   obtain ⟨g49,g51,rfl,hq⟩:=hq
   replace hS : SH M X w [eO 9 tS y48.Words g49,eO 5 (tI .u8) y48.Kinds g51,eI (tI .u8) ([] : List Int) (.nil),gE0] _:=hS.join [0,1] [0,1] rfl rfl hq
   clear hq
   rw [hX] at hS
   exact ⟨gL [g49,g51],fun _ _ => rfl,hS.sel [0,1,2,3] rfl⟩
  ·intro o ho a w yg16 M Hb hv hO hS
   obtain rfl:=someE ho
   exact Stp.mono (o_evs [(vG (cV y3))] (vG (cV y3)) (some (rN b6 0 (cV y3))) [] Hb rfl (by kernel_rfl) (fun q e => by cases e; exact ((hS.bk 0 rfl).atD rfl))) fun _ _ hq => ⟨gL [],fun _ _ => hq.1,(hS.below hq.2.below).sel [0] rfl⟩
  ·intro o ho a w yg16 M Hb hv hO hS0
   obtain rfl:=someE ho
   have H : Fr 57 ([(21,[],vG (cV y3))] ++ (fS [1,2] [vP b6,vP b9])) _:=(Hb).add (hv 13 (by decide) (by decide) 21 rfl)
   obtain ⟨X,hX⟩ : ∃ X,X = fpl [gE0]:=⟨_,rfl⟩
   have hS : SH M X w [gE0] w:=by rw [hX]; exact hS0
   replace hS : SH M X w [eO 5 (tI .u8) ([] : List Int) (.nil),gE0] _:=hS.addNil 5 (tI .u8)
   replace hS : SH M X w [eI (tI .u8) ([] : List Int) (.nil),gE0] _:=SH.frz1 (hS.sel [0,1] rfl)
   have hd:=hS.hand [0,1] [0,1] rfl rfl
   refine Stp.mono (o_callx H rfl rfl (props_length_ok (g_more:=Gh.nil) m _ _ _ _ _ _ _ hy54 _ _ hd)) ?_
   rintro v w2 hq
   obtain ⟨g55,g57,rfl,hq⟩:=hq
   replace hS : SH M X w [eO 9 tS y54.Words g55,eO 5 (tI .u8) y54.Kinds g57,eI (tI .u8) ([] : List Int) (.nil),gE0] _:=hS.join [0,1] [0,1] rfl rfl hq
   clear hq
   rw [hX] at hS
   exact ⟨gL [g55,g57],fun _ _ => rfl,hS.sel [0,1,2,3] rfl⟩
  ·intro o ho a w yg16 M Hb hv hO hS0
   obtain rfl:=someE ho
   have H : Fr 57 ((fS [22,20,18,17,16,14,12,10] [vG [vS y54.Name,vB y54.Inherited,vU y54.Initial.Kind,vS y54.Initial.Word,vI y54.Initial.Num,vU y54.Initial.Color.Red,vU y54.Initial.Color.Green,vU y54.Initial.Color.Blue,vU y54.Initial.Color.Alpha,.slice (yg16 14 0).a y54.Words.length (yg16 14 0).c,.slice (yg16 14 1).a y54.Kinds.length (yg16 14 1).c,vB y54.Least],vG [vS y48.Name,vB y48.Inherited,vU y48.Initial.Kind,vS y48.Initial.Word,vI y48.Initial.Num,vU y48.Initial.Color.Red,vU y48.Initial.Color.Green,vU y48.Initial.Color.Blue,vU y48.Initial.Color.Alpha,.slice (yg16 12 0).a y48.Words.length (yg16 12 0).c,.slice (yg16 12 1).a y48.Kinds.length (yg16 12 1).c,vB y48.Least],vG [vS y42.Name,vB y42.Inherited,vU y42.Initial.Kind,vS y42.Initial.Word,vI y42.Initial.Num,vU y42.Initial.Color.Red,vU y42.Initial.Color.Green,vU y42.Initial.Color.Blue,vU y42.Initial.Color.Alpha,.slice (yg16 10 0).a y42.Words.length (yg16 10 0).c,.slice (yg16 10 1).a y42.Kinds.length (yg16 10 1).c,vB y42.Least],vG [vS y37.Name,vB y37.Inherited,vU y37.Initial.Kind,vS y37.Initial.Word,vI y37.Initial.Num,vU y37.Initial.Color.Red,vU y37.Initial.Color.Green,vU y37.Initial.Color.Blue,vU y37.Initial.Color.Alpha,.slice (yg16 9 0).a y37.Words.length (yg16 9 0).c,.slice (yg16 9 1).a y37.Kinds.length (yg16 9 1).c,vB y37.Least],vG [vS y32.Name,vB y32.Inherited,vU y32.Initial.Kind,vS y32.Initial.Word,vI y32.Initial.Num,vU y32.Initial.Color.Red,vU y32.Initial.Color.Green,vU y32.Initial.Color.Blue,vU y32.Initial.Color.Alpha,.slice (yg16 8 0).a y32.Words.length (yg16 8 0).c,.slice (yg16 8 1).a y32.Kinds.length (yg16 8 1).c,vB y32.Least],vG [vS y27.Name,vB y27.Inherited,vU y27.Initial.Kind,vS y27.Initial.Word,vI y27.Initial.Num,vU y27.Initial.Color.Red,vU y27.Initial.Color.Green,vU y27.Initial.Color.Blue,vU y27.Initial.Color.Alpha,.slice (yg16 6 0).a y27.Words.length (yg16 6 0).c,.slice (yg16 6 1).a y27.Kinds.length (yg16 6 1).c,vB y27.Least],vG [vS y22.Name,vB y22.Inherited,vU y22.Initial.Kind,vS y22.Initial.Word,vI y22.Initial.Num,vU y22.Initial.Color.Red,vU y22.Initial.Color.Green,vU y22.Initial.Color.Blue,vU y22.Initial.Color.Alpha,.slice (yg16 4 0).a y22.Words.length (yg16 4 0).c,.slice (yg16 4 1).a y22.Kinds.length (yg16 4 1).c,vB y22.Least],vG [vS y17.Name,vB y17.Inherited,vU y17.Initial.Kind,vS y17.Initial.Word,vI y17.Initial.Num,vU y17.Initial.Color.Red,vU y17.Initial.Color.Green,vU y17.Initial.Color.Blue,vU y17.Initial.Color.Alpha,.slice (yg16 2 0).a y17.Words.length (yg16 2 0).c,.slice (yg16 2 1).a y17.Kinds.length (yg16 2 1).c,vB y17.Least]]) ++ (fS [1,2] [vP b6,vP b9])) _:=((((((((Hb).add (hv 2 (by decide) (by decide) 10 rfl)).add (hv 4 (by decide) (by decide) 12 rfl)).add (hv 6 (by decide) (by decide) 14 rfl)).add (hv 8 (by decide) (by decide) 16 rfl)).add (hv 9 (by decide) (by decide) 17 rfl)).add (hv 10 (by decide) (by decide) 18 rfl)).add (hv 12 (by decide) (by decide) 20 rfl)).add (hv 14 (by decide) (by decide) 22 rfl)
   obtain ⟨X,hX⟩ : ∃ X,X = fpl [eO 9 tS y17.Words (yg16 2 0),eO 5 (tI .u8) y17.Kinds (yg16 2 1),eO 9 tS y22.Words (yg16 4 0),eO 5 (tI .u8) y22.Kinds (yg16 4 1),eO 9 tS y27.Words (yg16 6 0),eO 5 (tI .u8) y27.Kinds (yg16 6 1),eO 9 tS y32.Words (yg16 8 0),eO 5 (tI .u8) y32.Kinds (yg16 8 1),eO 9 tS y37.Words (yg16 9 0),eO 5 (tI .u8) y37.Kinds (yg16 9 1),eO 9 tS y42.Words (yg16 10 0),eO 5 (tI .u8) y42.Kinds (yg16 10 1),eO 9 tS y48.Words (yg16 12 0),eO 5 (tI .u8) y48.Kinds (yg16 12 1),eI (tI .u8) ([] : List Int) (.nil),eO 9 tS y54.Words (yg16 14 0),eO 5 (tI .u8) y54.Kinds (yg16 14 1),eI (tI .u8) ([] : List Int) (.nil)]:=⟨_,rfl⟩
   have hS : SH M X w [eO 9 tS y17.Words (yg16 2 0),eO 5 (tI .u8) y17.Kinds (yg16 2 1),eO 9 tS y22.Words (yg16 4 0),eO 5 (tI .u8) y22.Kinds (yg16 4 1),eO 9 tS y27.Words (yg16 6 0),eO 5 (tI .u8) y27.Kinds (yg16 6 1),eO 9 tS y32.Words (yg16 8 0),eO 5 (tI .u8) y32.Kinds (yg16 8 1),eO 9 tS y37.Words (yg16 9 0),eO 5 (tI .u8) y37.Kinds (yg16 9 1),eO 9 tS y42.Words (yg16 10 0),eO 5 (tI .u8) y42.Kinds (yg16 10 1),eO 9 tS y48.Words (yg16 12 0),eO 5 (tI .u8) y48.Kinds (yg16 12 1),eI (tI .u8) ([] : List Int) (.nil),eO 9 tS y54.Words (yg16 14 0),eO 5 (tI .u8) y54.Kinds (yg16 14 1),eI (tI .u8) ([] : List Int) (.nil)] w:=by rw [hX]; exact hS0
   replace hS : SH M X w [eI tS y17.Words (yg16 2 0),eO 5 (tI .u8) y17.Kinds (yg16 2 1),eO 9 tS y22.Words (yg16 4 0),eO 5 (tI .u8) y22.Kinds (yg16 4 1),eO 9 tS y27.Words (yg16 6 0),eO 5 (tI .u8) y27.Kinds (yg16 6 1),eO 9 tS y32.Words (yg16 8 0),eO 5 (tI .u8) y32.Kinds (yg16 8 1),eO 9 tS y37.Words (yg16 9 0),eO 5 (tI .u8) y37.Kinds (yg16 9 1),eO 9 tS y42.Words (yg16 10 0),eO 5 (tI .u8) y42.Kinds (yg16 10 1),eO 9 tS y48.Words (yg16 12 0),eO 5 (tI .u8) y48.Kinds (yg16 12 1),eI (tI .u8) ([] : List Int) (.nil),eO 9 tS y54.Words (yg16 14 0),eO 5 (tI .u8) y54.Kinds (yg16 14 1),eI (tI .u8) ([] : List Int) (.nil)] _:=SH.frz1 (hS.sel [0,1,2,3,4,5,6,7,8,9,10,11,12,13,14,15,16,17] rfl)
   replace hS : SH M X w [eI (tI .u8) y17.Kinds (yg16 2 1),eI tS y17.Words (yg16 2 0),eO 9 tS y22.Words (yg16 4 0),eO 5 (tI .u8) y22.Kinds (yg16 4 1),eO 9 tS y27.Words (yg16 6 0),eO 5 (tI .u8) y27.Kinds (yg16 6 1),eO 9 tS y32.Words (yg16 8 0),eO 5 (tI .u8) y32.Kinds (yg16 8 1),eO 9 tS y37.Words (yg16 9 0),eO 5 (tI .u8) y37.Kinds (yg16 9 1),eO 9 tS y42.Words (yg16 10 0),eO 5 (tI .u8) y42.Kinds (yg16 10 1),eO 9 tS y48.Words (yg16 12 0),eO 5 (tI .u8) y48.Kinds (yg16 12 1),eI (tI .u8) ([] : List Int) (.nil),eO 9 tS y54.Words (yg16 14 0),eO 5 (tI .u8) y54.Kinds (yg16 14 1),eI (tI .u8) ([] : List Int) (.nil)] _:=SH.frz1 (hS.sel [1,0,2,3,4,5,6,7,8,9,10,11,12,13,14,15,16,17] rfl)
   replace hS : SH M X w [eI tS y22.Words (yg16 4 0),eI (tI .u8) y17.Kinds (yg16 2 1),eI tS y17.Words (yg16 2 0),eO 5 (tI .u8) y22.Kinds (yg16 4 1),eO 9 tS y27.Words (yg16 6 0),eO 5 (tI .u8) y27.Kinds (yg16 6 1),eO 9 tS y32.Words (yg16 8 0),eO 5 (tI .u8) y32.Kinds (yg16 8 1),eO 9 tS y37.Words (yg16 9 0),eO 5 (tI .u8) y37.Kinds (yg16 9 1),eO 9 tS y42.Words (yg16 10 0),eO 5 (tI .u8) y42.Kinds (yg16 10 1),eO 9 tS y48.Words (yg16 12 0),eO 5 (tI .u8) y48.Kinds (yg16 12 1),eI (tI .u8) ([] : List Int) (.nil),eO 9 tS y54.Words (yg16 14 0),eO 5 (tI .u8) y54.Kinds (yg16 14 1),eI (tI .u8) ([] : List Int) (.nil)] _:=SH.frz1 (hS.sel [2,0,1,3,4,5,6,7,8,9,10,11,12,13,14,15,16,17] rfl)
   replace hS : SH M X w [eI (tI .u8) y22.Kinds (yg16 4 1),eI tS y22.Words (yg16 4 0),eI (tI .u8) y17.Kinds (yg16 2 1),eI tS y17.Words (yg16 2 0),eO 9 tS y27.Words (yg16 6 0),eO 5 (tI .u8) y27.Kinds (yg16 6 1),eO 9 tS y32.Words (yg16 8 0),eO 5 (tI .u8) y32.Kinds (yg16 8 1),eO 9 tS y37.Words (yg16 9 0),eO 5 (tI .u8) y37.Kinds (yg16 9 1),eO 9 tS y42.Words (yg16 10 0),eO 5 (tI .u8) y42.Kinds (yg16 10 1),eO 9 tS y48.Words (yg16 12 0),eO 5 (tI .u8) y48.Kinds (yg16 12 1),eI (tI .u8) ([] : List Int) (.nil),eO 9 tS y54.Words (yg16 14 0),eO 5 (tI .u8) y54.Kinds (yg16 14 1),eI (tI .u8) ([] : List Int) (.nil)] _:=SH.frz1 (hS.sel [3,0,1,2,4,5,6,7,8,9,10,11,12,13,14,15,16,17] rfl)
   replace hS : SH M X w [eI tS y27.Words (yg16 6 0),eI (tI .u8) y22.Kinds (yg16 4 1),eI tS y22.Words (yg16 4 0),eI (tI .u8) y17.Kinds (yg16 2 1),eI tS y17.Words (yg16 2 0),eO 5 (tI .u8) y27.Kinds (yg16 6 1),eO 9 tS y32.Words (yg16 8 0),eO 5 (tI .u8) y32.Kinds (yg16 8 1),eO 9 tS y37.Words (yg16 9 0),eO 5 (tI .u8) y37.Kinds (yg16 9 1),eO 9 tS y42.Words (yg16 10 0),eO 5 (tI .u8) y42.Kinds (yg16 10 1),eO 9 tS y48.Words (yg16 12 0),eO 5 (tI .u8) y48.Kinds (yg16 12 1),eI (tI .u8) ([] : List Int) (.nil),eO 9 tS y54.Words (yg16 14 0),eO 5 (tI .u8) y54.Kinds (yg16 14 1),eI (tI .u8) ([] : List Int) (.nil)] _:=SH.frz1 (hS.sel [4,0,1,2,3,5,6,7,8,9,10,11,12,13,14,15,16,17] rfl)
   replace hS : SH M X w [eI (tI .u8) y27.Kinds (yg16 6 1),eI tS y27.Words (yg16 6 0),eI (tI .u8) y22.Kinds (yg16 4 1),eI tS y22.Words (yg16 4 0),eI (tI .u8) y17.Kinds (yg16 2 1),eI tS y17.Words (yg16 2 0),eO 9 tS y32.Words (yg16 8 0),eO 5 (tI .u8) y32.Kinds (yg16 8 1),eO 9 tS y37.Words (yg16 9 0),eO 5 (tI .u8) y37.Kinds (yg16 9 1),eO 9 tS y42.Words (yg16 10 0),eO 5 (tI .u8) y42.Kinds (yg16 10 1),eO 9 tS y48.Words (yg16 12 0),eO 5 (tI .u8) y48.Kinds (yg16 12 1),eI (tI .u8) ([] : List Int) (.nil),eO 9 tS y54.Words (yg16 14 0),eO 5 (tI .u8) y54.Kinds (yg16 14 1),eI (tI .u8) ([] : List Int) (.nil)] _:=SH.frz1 (hS.sel [5,0,1,2,3,4,6,7,8,9,10,11,12,13,14,15,16,17] rfl)
   replace hS : SH M X w [eI tS y32.Words (yg16 8 0),eI (tI .u8) y27.Kinds (yg16 6 1),eI tS y27.Words (yg16 6 0),eI (tI .u8) y22.Kinds (yg16 4 1),eI tS y22.Words (yg16 4 0),eI (tI .u8) y17.Kinds (yg16 2 1),eI tS y17.Words (yg16 2 0),eO 5 (tI .u8) y32.Kinds (yg16 8 1),eO 9 tS y37.Words (yg16 9 0),eO 5 (tI .u8) y37.Kinds (yg16 9 1),eO 9 tS y42.Words (yg16 10 0),eO 5 (tI .u8) y42.Kinds (yg16 10 1),eO 9 tS y48.Words (yg16 12 0),eO 5 (tI .u8) y48.Kinds (yg16 12 1),eI (tI .u8) ([] : List Int) (.nil),eO 9 tS y54.Words (yg16 14 0),eO 5 (tI .u8) y54.Kinds (yg16 14 1),eI (tI .u8) ([] : List Int) (.nil)] _:=SH.frz1 (hS.sel [6,0,1,2,3,4,5,7,8,9,10,11,12,13,14,15,16,17] rfl)
   replace hS : SH M X w [eI (tI .u8) y32.Kinds (yg16 8 1),eI tS y32.Words (yg16 8 0),eI (tI .u8) y27.Kinds (yg16 6 1),eI tS y27.Words (yg16 6 0),eI (tI .u8) y22.Kinds (yg16 4 1),eI tS y22.Words (yg16 4 0),eI (tI .u8) y17.Kinds (yg16 2 1),eI tS y17.Words (yg16 2 0),eO 9 tS y37.Words (yg16 9 0),eO 5 (tI .u8) y37.Kinds (yg16 9 1),eO 9 tS y42.Words (yg16 10 0),eO 5 (tI .u8) y42.Kinds (yg16 10 1),eO 9 tS y48.Words (yg16 12 0),eO 5 (tI .u8) y48.Kinds (yg16 12 1),eI (tI .u8) ([] : List Int) (.nil),eO 9 tS y54.Words (yg16 14 0),eO 5 (tI .u8) y54.Kinds (yg16 14 1),eI (tI .u8) ([] : List Int) (.nil)] _:=SH.frz1 (hS.sel [7,0,1,2,3,4,5,6,8,9,10,11,12,13,14,15,16,17] rfl)
   replace hS : SH M X w [eI tS y37.Words (yg16 9 0),eI (tI .u8) y32.Kinds (yg16 8 1),eI tS y32.Words (yg16 8 0),eI (tI .u8) y27.Kinds (yg16 6 1),eI tS y27.Words (yg16 6 0),eI (tI .u8) y22.Kinds (yg16 4 1),eI tS y22.Words (yg16 4 0),eI (tI .u8) y17.Kinds (yg16 2 1),eI tS y17.Words (yg16 2 0),eO 5 (tI .u8) y37.Kinds (yg16 9 1),eO 9 tS y42.Words (yg16 10 0),eO 5 (tI .u8) y42.Kinds (yg16 10 1),eO 9 tS y48.Words (yg16 12 0),eO 5 (tI .u8) y48.Kinds (yg16 12 1),eI (tI .u8) ([] : List Int) (.nil),eO 9 tS y54.Words (yg16 14 0),eO 5 (tI .u8) y54.Kinds (yg16 14 1),eI (tI .u8) ([] : List Int) (.nil)] _:=SH.frz1 (hS.sel [8,0,1,2,3,4,5,6,7,9,10,11,12,13,14,15,16,17] rfl)
   replace hS : SH M X w [eI (tI .u8) y37.Kinds (yg16 9 1),eI tS y37.Words (yg16 9 0),eI (tI .u8) y32.Kinds (yg16 8 1),eI tS y32.Words (yg16 8 0),eI (tI .u8) y27.Kinds (yg16 6 1),eI tS y27.Words (yg16 6 0),eI (tI .u8) y22.Kinds (yg16 4 1),eI tS y22.Words (yg16 4 0),eI (tI .u8) y17.Kinds (yg16 2 1),eI tS y17.Words (yg16 2 0),eO 9 tS y42.Words (yg16 10 0),eO 5 (tI .u8) y42.Kinds (yg16 10 1),eO 9 tS y48.Words (yg16 12 0),eO 5 (tI .u8) y48.Kinds (yg16 12 1),eI (tI .u8) ([] : List Int) (.nil),eO 9 tS y54.Words (yg16 14 0),eO 5 (tI .u8) y54.Kinds (yg16 14 1),eI (tI .u8) ([] : List Int) (.nil)] _:=SH.frz1 (hS.sel [9,0,1,2,3,4,5,6,7,8,10,11,12,13,14,15,16,17] rfl)
   replace hS : SH M X w [eI tS y42.Words (yg16 10 0),eI (tI .u8) y37.Kinds (yg16 9 1),eI tS y37.Words (yg16 9 0),eI (tI .u8) y32.Kinds (yg16 8 1),eI tS y32.Words (yg16 8 0),eI (tI .u8) y27.Kinds (yg16 6 1),eI tS y27.Words (yg16 6 0),eI (tI .u8) y22.Kinds (yg16 4 1),eI tS y22.Words (yg16 4 0),eI (tI .u8) y17.Kinds (yg16 2 1),eI tS y17.Words (yg16 2 0),eO 5 (tI .u8) y42.Kinds (yg16 10 1),eO 9 tS y48.Words (yg16 12 0),eO 5 (tI .u8) y48.Kinds (yg16 12 1),eI (tI .u8) ([] : List Int) (.nil),eO 9 tS y54.Words (yg16 14 0),eO 5 (tI .u8) y54.Kinds (yg16 14 1),eI (tI .u8) ([] : List Int) (.nil)] _:=SH.frz1 (hS.sel [10,0,1,2,3,4,5,6,7,8,9,11,12,13,14,15,16,17] rfl)
   replace hS : SH M X w [eI (tI .u8) y42.Kinds (yg16 10 1),eI tS y42.Words (yg16 10 0),eI (tI .u8) y37.Kinds (yg16 9 1),eI tS y37.Words (yg16 9 0),eI (tI .u8) y32.Kinds (yg16 8 1),eI tS y32.Words (yg16 8 0),eI (tI .u8) y27.Kinds (yg16 6 1),eI tS y27.Words (yg16 6 0),eI (tI .u8) y22.Kinds (yg16 4 1),eI tS y22.Words (yg16 4 0),eI (tI .u8) y17.Kinds (yg16 2 1),eI tS y17.Words (yg16 2 0),eO 9 tS y48.Words (yg16 12 0),eO 5 (tI .u8) y48.Kinds (yg16 12 1),eI (tI .u8) ([] : List Int) (.nil),eO 9 tS y54.Words (yg16 14 0),eO 5 (tI .u8) y54.Kinds (yg16 14 1),eI (tI .u8) ([] : List Int) (.nil)] _:=SH.frz1 (hS.sel [11,0,1,2,3,4,5,6,7,8,9,10,12,13,14,15,16,17] rfl)
   replace hS : SH M X w [eI tS y48.Words (yg16 12 0),eI (tI .u8) y42.Kinds (yg16 10 1),eI tS y42.Words (yg16 10 0),eI (tI .u8) y37.Kinds (yg16 9 1),eI tS y37.Words (yg16 9 0),eI (tI .u8) y32.Kinds (yg16 8 1),eI tS y32.Words (yg16 8 0),eI (tI .u8) y27.Kinds (yg16 6 1),eI tS y27.Words (yg16 6 0),eI (tI .u8) y22.Kinds (yg16 4 1),eI tS y22.Words (yg16 4 0),eI (tI .u8) y17.Kinds (yg16 2 1),eI tS y17.Words (yg16 2 0),eO 5 (tI .u8) y48.Kinds (yg16 12 1),eI (tI .u8) ([] : List Int) (.nil),eO 9 tS y54.Words (yg16 14 0),eO 5 (tI .u8) y54.Kinds (yg16 14 1),eI (tI .u8) ([] : List Int) (.nil)] _:=SH.frz1 (hS.sel [12,0,1,2,3,4,5,6,7,8,9,10,11,13,14,15,16,17] rfl)
   replace hS : SH M X w [eI (tI .u8) y48.Kinds (yg16 12 1),eI tS y48.Words (yg16 12 0),eI (tI .u8) y42.Kinds (yg16 10 1),eI tS y42.Words (yg16 10 0),eI (tI .u8) y37.Kinds (yg16 9 1),eI tS y37.Words (yg16 9 0),eI (tI .u8) y32.Kinds (yg16 8 1),eI tS y32.Words (yg16 8 0),eI (tI .u8) y27.Kinds (yg16 6 1),eI tS y27.Words (yg16 6 0),eI (tI .u8) y22.Kinds (yg16 4 1),eI tS y22.Words (yg16 4 0),eI (tI .u8) y17.Kinds (yg16 2 1),eI tS y17.Words (yg16 2 0),eI (tI .u8) ([] : List Int) (.nil),eO 9 tS y54.Words (yg16 14 0),eO 5 (tI .u8) y54.Kinds (yg16 14 1),eI (tI .u8) ([] : List Int) (.nil)] _:=SH.frz1 (hS.sel [13,0,1,2,3,4,5,6,7,8,9,10,11,12,14,15,16,17] rfl)
   replace hS : SH M X w [eI tS y54.Words (yg16 14 0),eI (tI .u8) y48.Kinds (yg16 12 1),eI tS y48.Words (yg16 12 0),eI (tI .u8) y42.Kinds (yg16 10 1),eI tS y42.Words (yg16 10 0),eI (tI .u8) y37.Kinds (yg16 9 1),eI tS y37.Words (yg16 9 0),eI (tI .u8) y32.Kinds (yg16 8 1),eI tS y32.Words (yg16 8 0),eI (tI .u8) y27.Kinds (yg16 6 1),eI tS y27.Words (yg16 6 0),eI (tI .u8) y22.Kinds (yg16 4 1),eI tS y22.Words (yg16 4 0),eI (tI .u8) y17.Kinds (yg16 2 1),eI tS y17.Words (yg16 2 0),eI (tI .u8) ([] : List Int) (.nil),eO 5 (tI .u8) y54.Kinds (yg16 14 1),eI (tI .u8) ([] : List Int) (.nil)] _:=SH.frz1 (hS.sel [15,0,1,2,3,4,5,6,7,8,9,10,11,12,13,14,16,17] rfl)
   replace hS : SH M X w [eI (tI .u8) y54.Kinds (yg16 14 1),eI tS y54.Words (yg16 14 0),eI (tI .u8) y48.Kinds (yg16 12 1),eI tS y48.Words (yg16 12 0),eI (tI .u8) y42.Kinds (yg16 10 1),eI tS y42.Words (yg16 10 0),eI (tI .u8) y37.Kinds (yg16 9 1),eI tS y37.Words (yg16 9 0),eI (tI .u8) y32.Kinds (yg16 8 1),eI tS y32.Words (yg16 8 0),eI (tI .u8) y27.Kinds (yg16 6 1),eI tS y27.Words (yg16 6 0),eI (tI .u8) y22.Kinds (yg16 4 1),eI tS y22.Words (yg16 4 0),eI (tI .u8) y17.Kinds (yg16 2 1),eI tS y17.Words (yg16 2 0),eI (tI .u8) ([] : List Int) (.nil),eI (tI .u8) ([] : List Int) (.nil)] _:=SH.frz1 (hS.sel [16,0,1,2,3,4,5,6,7,8,9,10,11,12,13,14,15,17] rfl)
   have hd:=hS.hand [15,14,13,12,11,10,9,8,7,6,5,4,3,2,1,0] [0,1,2,3,4,5,6,7,8,9,10,11,12,13,14,15,16,17] rfl rfl
   refine Stp.mono (o_lit (T:=tyProp) (E:=100) (zv:=vG [vN,vF,vU 0,vN,vI 0,vU 0,vU 0,vU 0,vU 0,vO,vO,vF]) [vS y17.Name,vB y17.Inherited,vU y17.Initial.Kind,vS y17.Initial.Word,vI y17.Initial.Num,vU y17.Initial.Color.Red,vU y17.Initial.Color.Green,vU y17.Initial.Color.Blue,vU y17.Initial.Color.Alpha,.slice (yg16 2 0).a y17.Words.length (yg16 2 0).c,.slice (yg16 2 1).a y17.Kinds.length (yg16 2 1).c,vB y17.Least,vS y22.Name,vB y22.Inherited,vU y22.Initial.Kind,vS y22.Initial.Word,vI y22.Initial.Num,vU y22.Initial.Color.Red,vU y22.Initial.Color.Green,vU y22.Initial.Color.Blue,vU y22.Initial.Color.Alpha,.slice (yg16 4 0).a y22.Words.length (yg16 4 0).c,.slice (yg16 4 1).a y22.Kinds.length (yg16 4 1).c,vB y22.Least,vS y27.Name,vB y27.Inherited,vU y27.Initial.Kind,vS y27.Initial.Word,vI y27.Initial.Num,vU y27.Initial.Color.Red,vU y27.Initial.Color.Green,vU y27.Initial.Color.Blue,vU y27.Initial.Color.Alpha,.slice (yg16 6 0).a y27.Words.length (yg16 6 0).c,.slice (yg16 6 1).a y27.Kinds.length (yg16 6 1).c,vB y27.Least,vS y32.Name,vB y32.Inherited,vU y32.Initial.Kind,vS y32.Initial.Word,vI y32.Initial.Num,vU y32.Initial.Color.Red,vU y32.Initial.Color.Green,vU y32.Initial.Color.Blue,vU y32.Initial.Color.Alpha,.slice (yg16 8 0).a y32.Words.length (yg16 8 0).c,.slice (yg16 8 1).a y32.Kinds.length (yg16 8 1).c,vB y32.Least,vS y37.Name,vB y37.Inherited,vU y37.Initial.Kind,vS y37.Initial.Word,vI y37.Initial.Num,vU y37.Initial.Color.Red,vU y37.Initial.Color.Green,vU y37.Initial.Color.Blue,vU y37.Initial.Color.Alpha,.slice (yg16 9 0).a y37.Words.length (yg16 9 0).c,.slice (yg16 9 1).a y37.Kinds.length (yg16 9 1).c,vB y37.Least,vS y42.Name,vB y42.Inherited,vU y42.Initial.Kind,vS y42.Initial.Word,vI y42.Initial.Num,vU y42.Initial.Color.Red,vU y42.Initial.Color.Green,vU y42.Initial.Color.Blue,vU y42.Initial.Color.Alpha,.slice (yg16 10 0).a y42.Words.length (yg16 10 0).c,.slice (yg16 10 1).a y42.Kinds.length (yg16 10 1).c,vB y42.Least,vS y48.Name,vB y48.Inherited,vU y48.Initial.Kind,vS y48.Initial.Word,vI y48.Initial.Num,vU y48.Initial.Color.Red,vU y48.Initial.Color.Green,vU y48.Initial.Color.Blue,vU y48.Initial.Color.Alpha,.slice (yg16 12 0).a y48.Words.length (yg16 12 0).c,.slice (yg16 12 1).a y48.Kinds.length (yg16 12 1).c,vB y48.Least,vS y54.Name,vB y54.Inherited,vU y54.Initial.Kind,vS y54.Initial.Word,vI y54.Initial.Num,vU y54.Initial.Color.Red,vU y54.Initial.Color.Green,vU y54.Initial.Color.Blue,vU y54.Initial.Color.Alpha,.slice (yg16 14 0).a y54.Words.length (yg16 14 0).c,.slice (yg16 14 1).a y54.Kinds.length (yg16 14 1).c,vB y54.Least] ([y17,y22,y27,y32,y37,y42,y48,y54] : List TProp) [gL [(yg16 2 0),(yg16 2 1)],gL [(yg16 4 0),(yg16 4 1)],gL [(yg16 6 0),(yg16 6 1)],gL [(yg16 8 0),(yg16 8 1)],gL [(yg16 9 0),(yg16 9 1)],gL [(yg16 10 0),(yg16 10 1)],gL [(yg16 12 0),(yg16 12 1)],gL [(yg16 14 0),(yg16 14 1)]] _ H hd rfl (by kernel_rfl) (by kernel_rfl) (by kernel_rfl) (by kernel_rfl) (by kernel_rfl) (by kernel_rfl) (by kernel_rfl) rfl (InnL.cons (tyProp_mk (hd.im 0 rfl) (hd.im 1 rfl)) (InnL.cons (tyProp_mk (hd.im 2 rfl) (hd.im 3 rfl)) (InnL.cons (tyProp_mk (hd.im 4 rfl) (hd.im 5 rfl)) (InnL.cons (tyProp_mk (hd.im 6 rfl) (hd.im 7 rfl)) (InnL.cons (tyProp_mk (hd.im 8 rfl) (hd.im 9 rfl)) (InnL.cons (tyProp_mk (hd.im 10 rfl) (hd.im 11 rfl)) (InnL.cons (tyProp_mk (hd.im 12 rfl) (hd.im 13 rfl)) (InnL.cons (tyProp_mk (hd.im 14 rfl) (hd.im 15 rfl)) InnL.nil))))))))) ?_
   rintro v w2 hq
   obtain ⟨g59,rfl,hq⟩:=hq
   replace hS : SH M X w [eO 100 tyProp ([y17,y22,y27,y32,y37,y42,y48,y54] : List TProp) g59,eI (tI .u8) y54.Kinds (yg16 14 1),eI tS y54.Words (yg16 14 0),eI (tI .u8) y48.Kinds (yg16 12 1),eI tS y48.Words (yg16 12 0),eI (tI .u8) y42.Kinds (yg16 10 1),eI tS y42.Words (yg16 10 0),eI (tI .u8) y37.Kinds (yg16 9 1),eI tS y37.Words (yg16 9 0),eI (tI .u8) y32.Kinds (yg16 8 1),eI tS y32.Words (yg16 8 0),eI (tI .u8) y27.Kinds (yg16 6 1),eI tS y27.Words (yg16 6 0),eI (tI .u8) y22.Kinds (yg16 4 1),eI tS y22.Words (yg16 4 0),eI (tI .u8) y17.Kinds (yg16 2 1),eI tS y17.Words (yg16 2 0),eI (tI .u8) ([] : List Int) (.nil),eI (tI .u8) ([] : List Int) (.nil)] _:=hS.join [15,14,13,12,11,10,9,8,7,6,5,4,3,2,1,0] [0,1,2,3,4,5,6,7,8,9,10,11,12,13,14,15,16,17] rfl rfl hq
   clear hq
   rw [hX] at hS
   exact ⟨gL [g59],fun _ _ => rfl,hS.sel [0,1,2,3,4,5,6,7,8,9,10,11,12,13,14,15,16,17,18] rfl⟩
  ·intro o ho a w yg16 M Hb hv hO hS
   obtain rfl:=someE ho
   exact Stp.mono (o_evs [] (vK (yg16 15 0) 8) none [] ((Hb).add (hv 15 (by decide) (by decide) 23 rfl)) rfl (by kernel_rfl) (fun q e => by cases e)) fun _ _ hq => ⟨gL [],fun _ _ => hq.1,(hS.below hq.2.below).sel [0,1,2,3,4,5,6,7,8,9,10,11,12,13,14,15,16,17,18] rfl⟩
 have H63 : Fr 57 (fS [3,1,2] [vK (yg16 15 0) 8,vP b6,vP b9]) _:=(FrG.add (FrG.keep (ks:=[1,2]) H62 (by kernel_rfl)) (hv 16 3 rfl))
 replace hS : SH M X w [eO 100 tyProp ([y17,y22,y27,y32,y37,y42,y48,y54] : List TProp) (yg16 15 0),eI (tI .u8) y54.Kinds (yg16 14 1),eI tS y54.Words (yg16 14 0),eI (tI .u8) y48.Kinds (yg16 12 1),eI tS y48.Words (yg16 12 0),eI (tI .u8) y42.Kinds (yg16 10 1),eI tS y42.Words (yg16 10 0),eI (tI .u8) y37.Kinds (yg16 9 1),eI tS y37.Words (yg16 9 0),eI (tI .u8) y32.Kinds (yg16 8 1),eI tS y32.Words (yg16 8 0),eI (tI .u8) y27.Kinds (yg16 6 1),eI tS y27.Words (yg16 6 0),eI (tI .u8) y22.Kinds (yg16 4 1),eI tS y22.Words (yg16 4 0),eI (tI .u8) y17.Kinds (yg16 2 1),eI tS y17.Words (yg16 2 0),eI (tI .u8) ([] : List Int) (.nil),eI (tI .u8) ([] : List Int) (.nil),eB b9 [vU 2,vN,vI 0,vU 0,vU 0,vU 0,vU 0],eB b6 (cV y3),gE0] _:=hS
 clear hv H62
 generalize yg16 15 0 = g64 at H63 hS
 generalize yg16 14 1 = g65 at H63 hS
 generalize yg16 14 0 = g66 at H63 hS
 generalize yg16 12 1 = g67 at H63 hS
 generalize yg16 12 0 = g68 at H63 hS
 generalize yg16 10 1 = g69 at H63 hS
 generalize yg16 10 0 = g70 at H63 hS
 generalize yg16 9 1 = g71 at H63 hS
 generalize yg16 9 0 = g72 at H63 hS
 generalize yg16 8 1 = g73 at H63 hS
 generalize yg16 8 0 = g74 at H63 hS
 generalize yg16 6 1 = g75 at H63 hS
 generalize yg16 6 0 = g76 at H63 hS
 generalize yg16 4 1 = g77 at H63 hS
 generalize yg16 4 0 = g78 at H63 hS
 generalize yg16 2 1 = g79 at H63 hS
 generalize yg16 2 0 = g80 at H63 hS
 replace hS : SH M X w [eO 100 tyProp ([y17,y22,y27,y32,y37,y42,y48,y54] : List TProp) g64,eB b9 [vU 2,vN,vI 0,vU 0,vU 0,vU 0,vU 0],eB b6 (cV y3),gE0] _:=hS.sel [0,19,20,21] rfl
 obtain ⟨z81,hz,hm⟩:=bindE hm
 refine w_cut (fun a' w' => ∃ (g123 : Gh),Fr 57 (fS [1,3] [vP b6,vL g123 z81]) a' ∧ SH M X w [eO 100 tyProp z81 g123,eB b9 [vU 2,vN,vI 0,vU 0,vU 0,vU 0,vU 0],eB b6 (cV y3),gE0] w') ?_ ?_
 ·replace hm:=hz
  apply w_seq
  apply wl_start
  have hd:=hS.hand [] [0,1,2,3] rfl rfl
  refine m_stp [24,1,2,3] (fS [1,2,3] [vP b6,vP b9,vK g64 8]) H63 rfl rfl rfl rfl (o_lit (T:=tS) (E:=9) (zv:=vN) [vS [116,111,112],vS [114,105,103,104,116],vS [98,111,116,116,111,109],vS [108,101,102,116]] kL1 [gL [],gL [],gL [],gL []] _ H63 hd rfl (by kernel_rfl) (by kernel_rfl) (by kernel_rfl) (by kernel_rfl) (by kernel_rfl) (by kernel_rfl) (by kernel_rfl) rfl (InnL.cons trivial (InnL.cons trivial (InnL.cons trivial (InnL.cons trivial InnL.nil))))) (fun _ => rfl) fun _ _ v H85 hq => ?_
  clear H63 hd
  obtain ⟨g82,rfl,hq⟩:=hq
  replace hS : SH M X w [eO 9 tS kL1 g82,eO 100 tyProp ([y17,y22,y27,y32,y37,y42,y48,y54] : List TProp) g64,eB b9 [vU 2,vN,vI 0,vU 0,vU 0,vU 0,vU 0],eB b6 (cV y3),gE0] _:=hS.join [] [0,1,2,3] rfl rfl hq
  clear hq
  refine wl_batch 1 3 [] [1,2,3,24,25,26] (fS [1,2,3,24,25,26] [vP b6,vP b9,vK g64 8,vK g82 4,vI 4,vI 0]) [] H85 (by decide) (by kernel_rfl) trivial fun _ _ H87 hb => ?_
  replace hS:=hS.below hb
  clear H85 hb
  apply wl_end rfl
  apply w_block
  refine w_loop (fun kk a' w' => ∃ (v88 : List TProp) (v90 : Int) (g89 : Gh),props_Table_L1 m  kk v88 v90 = some _ ∧ Fr 57 (fS [1,2,24,25,3,26] [vP b6,vP b9,vK g82 4,vI 4,vL g89 v88,vI v90]) a' ∧ SH M X w [eO 9 tS kL1 g82,eO 100 tyProp v88 g89,eB b9 [vU 2,vN,vI 0,vU 0,vU 0,vU 0,vU 0],eB b6 (cV y3),gE0] w') ⟨_,([y17,y22,y27,y32,y37,y42,y48,y54] : List TProp),0,g64,hm,FrG.keep (ks:=[1,2,24,25,3,26]) H87 (by kernel_rfl),hS⟩ ?_
  clear hm H87 hS
  rintro kk _ _ ⟨v88,v90,g89,hm,H,hS⟩
  cases kk with
  | zero => exact noneE hm
  | succ kk =>
   rw [props_Table_L1] at hm
   refine s_reg [] [1,2,3,24,25,26,27] (fS [1,2,3,24,25,26,27] [vP b6,vP b9,vL g89 v88,vK g82 4,vI 4,vI v90,vB (decide (v90 < 4))]) [] H (by kernel_rfl) trivial fun _ _ H92 hb => ?_
   replace hS:=hS.below hb
   clear H hb
   apply w_seq
   refine w_if H92 rfl (fun hc => ?_) (fun hc => ?c121)
   case c121 =>
    replace hm:=bF hc hm
    apply w_exit rfl
    obtain rfl:=someE hm
    replace hS : SH M X w [eO 100 tyProp v88 g89,eB b9 [vU 2,vN,vI 0,vU 0,vU 0,vU 0,vU 0],eB b6 (cV y3),gE0] _:=hS.sel [1,2,3,4] rfl
    exact ⟨g89,FrG.keep (ks:=[1,3]) H92 (by kernel_rfl),hS⟩
   replace hm:=bT hc hm
   apply w_skip
   apply w_seq
   apply w_block
   obtain ⟨ho93,hm⟩:=chkE hm
   obtain ⟨x94,hx94,hm⟩:=letE hm
   refine s_reg [(vS (gi kL1 v90))] [1,2,3,5,24,25,26] (fS [1,2,3,5,24,25,26] [vP b6,vP b9,vL g89 v88,vS x94,vK g82 4,vI 4,vI v90]) [fun _ => oka g82.a ∧ 0 ≤ v90 ∧ v90 < ln kL1,fun wz => V.at1 ⟨ab g82.a,ao g82.a + (v90).toNat * 1,none⟩ (vS (gi kL1 v90)) wz] H92 (by subst hx94; kernel_rfl) ⟨((hS.osl 0 rfl).oki ho93),((hS.osl 0 rfl).at1 ho93 0 rfl),trivial⟩ fun _ _ H96 hb => ?_
   replace hS:=hS.below hb
   clear H92 hb
   apply wl_start
   obtain ⟨ho97,hm⟩:=chkE hm
   refine wl_batch 0 4 [(vG [vU 2,vN,vI 0,vU 0,vU 0,vU 0,vU 0])] [1,2,24,25,26,30,32,33] (fS [1,2,24,25,26,30,32,33] [vP b6,vP b9,vK g82 4,vI 4,vI v90,vL g89 v88,vS ([109,97,114,103,105,110,45] ++ x94),vG [vU 2,vN,vI 0,vU 0,vU 0,vU 0,vU 0]]) [fun _ => ln [109,97,114,103,105,110,45] + ln x94 ≤ 9223372036854775807,rN b9 0 [vU 2,vN,vI 0,vU 0,vU 0,vU 0,vU 0]] H96 (by decide) (by kernel_rfl) ⟨ho97,((hS.bk 2 rfl).atD rfl),trivial⟩ fun _ _ H99 hb => ?_
   replace hS:=hS.below hb
   clear H96 hb
   replace hS : SH M X w [eO 5 (tI .u8) ([] : List Int) (.nil),eO 9 tS kL1 g82,eO 100 tyProp v88 g89,eB b9 [vU 2,vN,vI 0,vU 0,vU 0,vU 0,vU 0],eB b6 (cV y3),gE0] _:=hS.addNil 5 (tI .u8)
   replace hS : SH M X w [eI (tI .u8) ([] : List Int) (.nil),eO 9 tS kL1 g82,eO 100 tyProp v88 g89,eB b9 [vU 2,vN,vI 0,vU 0,vU 0,vU 0,vU 0],eB b6 (cV y3),gE0] _:=SH.frz1 (hS.sel [0,1,2,3,4,5] rfl)
   obtain ⟨y101,hy101,hm⟩:=bindE hm
   have hd:=hS.hand [0,5] [0,1,2,3,4,5] rfl rfl
   refine m_stp [34,1,2,24,25,26,30] (fS [1,2,24,25,26,30] [vP b6,vP b9,vK g82 4,vI 4,vI v90,vL g89 v88]) H99 rfl rfl rfl rfl (o_callx H99 rfl rfl (props_length_ok (g_more:=Gh.nil) m _ _ _ _ _ _ _ hy101 _ _ hd)) (fun _ => rfl) fun _ _ v H107 hq => ?_
   clear H99 hd
   obtain ⟨g102,g104,rfl,hq⟩:=hq
   replace hS : SH M X w [eO 9 tS y101.Words g102,eO 5 (tI .u8) y101.Kinds g104,eI (tI .u8) ([] : List Int) (.nil),eO 9 tS kL1 g82,eO 100 tyProp v88 g89,eB b9 [vU 2,vN,vI 0,vU 0,vU 0,vU 0,vU 0],eB b6 (cV y3),gE0] _:=hS.join [0,5] [0,1,2,3,4,5] rfl rfl hq
   clear hq
   replace hS : SH M X w [eI tS y101.Words g102,eO 5 (tI .u8) y101.Kinds g104,eI (tI .u8) ([] : List Int) (.nil),eO 9 tS kL1 g82,eO 100 tyProp v88 g89,eB b9 [vU 2,vN,vI 0,vU 0,vU 0,vU 0,vU 0],eB b6 (cV y3),gE0] _:=SH.frz1 (hS.sel [0,1,2,3,4,5,6,7] rfl)
   replace hS : SH M X w [eI (tI .u8) y101.Kinds g104,eI tS y101.Words g102,eI (tI .u8) ([] : List Int) (.nil),eO 9 tS kL1 g82,eO 100 tyProp v88 g89,eB b9 [vU 2,vN,vI 0,vU 0,vU 0,vU 0,vU 0],eB b6 (cV y3),gE0] _:=SH.frz1 (hS.sel [1,0,2,3,4,5,6,7] rfl)
   have hd:=hS.hand [1,0] [0,1,2,3,4,5,6,7] rfl rfl
   refine m_stp [35,1,2,24,25,26,30] (fS [1,2,24,25,26,30] [vP b6,vP b9,vK g82 4,vI 4,vI v90,vL g89 v88]) H107 rfl rfl rfl rfl (o_lit (T:=tyProp) (E:=100) (zv:=vG [vN,vF,vU 0,vN,vI 0,vU 0,vU 0,vU 0,vU 0,vO,vO,vF]) [vS y101.Name,vB y101.Inherited,vU y101.Initial.Kind,vS y101.Initial.Word,vI y101.Initial.Num,vU y101.Initial.Color.Red,vU y101.Initial.Color.Green,vU y101.Initial.Color.Blue,vU y101.Initial.Color.Alpha,vL g102 y101.Words,vL g104 y101.Kinds,vB y101.Least] ([y101] : List TProp) [gL [g102,g104]] _ H107 hd rfl (by kernel_rfl) (by kernel_rfl) (by kernel_rfl) (by kernel_rfl) (by kernel_rfl) (by kernel_rfl) (by kernel_rfl) rfl (InnL.cons (tyProp_mk (hd.im 0 rfl) (hd.im 1 rfl)) InnL.nil)) (fun _ => rfl) fun _ _ v H111 hq => ?_
   clear H107 hd
   obtain ⟨g108,rfl,hq⟩:=hq
   replace hS : SH M X w [eO 100 tyProp ([y101] : List TProp) g108,eI (tI .u8) y101.Kinds g104,eI tS y101.Words g102,eI (tI .u8) ([] : List Int) (.nil),eO 9 tS kL1 g82,eO 100 tyProp v88 g89,eB b9 [vU 2,vN,vI 0,vU 0,vU 0,vU 0,vU 0],eB b6 (cV y3),gE0] _:=hS.join [1,0] [0,1,2,3,4,5,6,7] rfl rfl hq
   clear hq
   obtain ⟨ho112,hm⟩:=chkE hm
   obtain ⟨q113,hq113,hm⟩:=letE hm
   have hd:=hS.hand [5,0] [1,2,3,4,6,7,8] rfl rfl
   refine m_stp [36,1,2,24,25,26] (fS [1,2,24,25,26] [vP b6,vP b9,vK g82 4,vI 4,vI v90]) H111 rfl rfl rfl rfl (o_app2 (T:=tyProp) (zv:=vG [vN,vF,vU 0,vN,vI 0,vU 0,vU 0,vU 0,vU 0,vO,vO,vF]) (g1:=g89) (g2:=g108) (l1:=v88) (l2:=([y101] : List TProp)) q113 hq113.symm H111 hd rfl rfl rfl rfl rfl rfl rfl (by kernel_rfl) (by kernel_rfl) rfl rfl ho112) (fun _ => rfl) fun _ _ v H115 hq => ?_
   clear H111 hd
   obtain ⟨g116,rfl,hq⟩:=hq
   replace hS : SH M X w [eO 100 tyProp q113 g116,eO 100 tyProp ([y101] : List TProp) g108,eI (tI .u8) y101.Kinds g104,eI tS y101.Words g102,eI (tI .u8) ([] : List Int) (.nil),eO 9 tS kL1 g82,eB b9 [vU 2,vN,vI 0,vU 0,vU 0,vU 0,vU 0],eB b6 (cV y3),gE0] _:=hS.join [5,0] [1,2,3,4,6,7,8] rfl rfl hq
   clear hq
   refine wl_batch 7 8 [] [1,2,3,24,25,26] (fS [1,2,3,24,25,26] [vP b6,vP b9,vL g116 q113,vK g82 4,vI 4,vI v90]) [] H115 (by decide) (by kernel_rfl) trivial fun _ _ H118 hb => ?_
   replace hS:=hS.below hb
   clear H115 hb
   apply wl_end rfl
   replace hS : SH M X w [eO 100 tyProp q113 g116,eO 9 tS kL1 g82,eB b9 [vU 2,vN,vI 0,vU 0,vU 0,vU 0,vU 0],eB b6 (cV y3),gE0] _:=hS.sel [0,5,6,7,8] rfl
   refine w_reg [] [1,2,3,24,25,26] (fS [1,2,3,24,25,26] [vP b6,vP b9,vL g116 q113,vK g82 4,vI 4,vI (w64 (v90 + 1))]) [] H118 (by kernel_rfl) trivial fun _ _ H120 hb => ?_
   replace hS:=hS.below hb
   clear H118 hb
   replace hS : SH M X w [eO 9 tS kL1 g82,eO 100 tyProp q113 g116,eB b9 [vU 2,vN,vI 0,vU 0,vU 0,vU 0,vU 0],eB b6 (cV y3),gE0] _:=hS.sel [1,0,2,3,4] rfl
   exact ⟨_,Nat.lt_succ_self _,q113,w64 (v90 + 1),g116,hm,FrG.keep (ks:=[1,2,24,25,3,26]) H120 (by kernel_rfl),hS⟩
 ·rintro _ _ ⟨g123,H,hS⟩
  replace hS : SH M X w [eO 100 tyProp z81 g123,eB b6 (cV y3),gE0] _:=hS.sel [0,2,3] rfl
  obtain ⟨y126,hy126,hm⟩:=bindE hm
  obtain ⟨y131,hy131,hm⟩:=letE hm
  obtain ⟨y134,hy134,hm⟩:=bindE hm
  obtain ⟨y139,hy139,hm⟩:=bindE hm
  obtain ⟨ho154,hm⟩:=chkE hm
  obtain ⟨q155,hq155,hm⟩:=letE hm
  refine s_drawS (base:=(fS [1,3] [vP b6,vL g123 z81])) (L:=[eO 100 tyProp z81 g123,eB b6 (cV y3),gE0]) 20 3 (fun yg124 => [vL g123 z81,vG [vU 2,vN,vI 16000,vU 0,vU 0,vU 0,vU 0],vG [vS y126.Name,vB y126.Inherited,vU y126.Initial.Kind,vS y126.Initial.Word,vI y126.Initial.Num,vU y126.Initial.Color.Red,vU y126.Initial.Color.Green,vU y126.Initial.Color.Blue,vU y126.Initial.Color.Alpha,.slice (yg124 2 0).a y126.Words.length (yg124 2 0).c,.slice (yg124 2 1).a y126.Kinds.length (yg124 2 1).c,vB y126.Least],vG (cV y131),vK (yg124 4 0) 1,vG [vS y134.Name,vB y134.Inherited,vU y134.Initial.Kind,vS y134.Initial.Word,vI y134.Initial.Num,vU y134.Initial.Color.Red,vU y134.Initial.Color.Green,vU y134.Initial.Color.Blue,vU y134.Initial.Color.Alpha,.slice (yg124 5 0).a y134.Words.length (yg124 5 0).c,.slice (yg124 5 1).a y134.Kinds.length (yg124 5 1).c,vB y134.Least],vG [vS y139.Name,vB y139.Inherited,vU y139.Initial.Kind,vS y139.Initial.Word,vI y139.Initial.Num,vU y139.Initial.Color.Red,vU y139.Initial.Color.Green,vU y139.Initial.Color.Blue,vU y139.Initial.Color.Alpha,.slice (yg124 6 0).a y139.Words.length (yg124 6 0).c,.slice (yg124 6 1).a y139.Kinds.length (yg124 6 1).c,vB y139.Least],vG [vU 5,vN,vI 1000,vU 0,vU 0,vU 0,vU 0],vK (yg124 8 0) 1,vG [vS [111,112,97,99,105,116,121],vF,vU 5,vN,vI 1000,vU 0,vU 0,vU 0,vU 0,vO,vK (yg124 8 0) 1,vF],vG (cV y3),vK (yg124 11 0) 1,vK (yg124 12 0) 1,vG [vS [122,45,105,110,100,101,120],vF,vU y3.Kind,vS y3.Word,vI y3.Num,vU y3.Color.Red,vU y3.Color.Green,vU y3.Color.Blue,vU y3.Color.Alpha,vK (yg124 11 0) 1,vK (yg124 12 0) 1,vF],vG [vU 6,vN,vI 0,vU 0,vU 0,vU 0,vU 0],vK (yg124 15 0) 1,vG [vS [111,114,100,101,114],vF,vU 6,vN,vI 0,vU 0,vU 0,vU 0,vU 0,vO,vK (yg124 15 0) 1,vF],vK (yg124 17 0) 6,.slice (yg124 18 0).a q155.length (yg124 18 0).c,.slice (yg124 18 0).a q155.length (yg124 18 0).c]) (fun yg124 => [[],[],[eO 9 tS y126.Words (yg124 2 0),eO 5 (tI .u8) y126.Kinds (yg124 2 1),eI (tI .u8) ([] : List Int) (.nil)],[],[eO 5 (tI .u8) ([5] : List Int) (yg124 4 0)],[eO 9 tS y134.Words (yg124 5 0),eO 5 (tI .u8) y134.Kinds (yg124 5 1),eI (tI .u8) ([5] : List Int) (yg124 4 0)],[eO 9 tS y139.Words (yg124 6 0),eO 5 (tI .u8) y139.Kinds (yg124 6 1)],[],[eO 5 (tI .u8) ([5] : List Int) (yg124 8 0)],[],[],[eO 9 tS kL0 (yg124 11 0)],[eO 5 (tI .u8) ([6] : List Int) (yg124 12 0)],[],[],[eO 5 (tI .u8) ([6] : List Int) (yg124 15 0)],[],[eO 100 tyProp ([y126,y134,y139,(TProp.mk [111,112,97,99,105,116,121] false (TVal.mk 5 [] 1000 (TColor.mk 0 0 0 0)) [] ([5] : List Int) false),(TProp.mk [122,45,105,110,100,101,120] false y3 kL0 ([6] : List Int) false),(TProp.mk [111,114,100,101,114] false (TVal.mk 6 [] 0 (TColor.mk 0 0 0 0)) [] ([6] : List Int) false)] : List TProp) (yg124 17 0),eI (tI .u8) ([6] : List Int) (yg124 15 0),eI (tI .u8) ([6] : List Int) (yg124 12 0),eI tS kL0 (yg124 11 0),eI (tI .u8) ([5] : List Int) (yg124 8 0),eI (tI .u8) y139.Kinds (yg124 6 1),eI tS y139.Words (yg124 6 0),eI (tI .u8) y134.Kinds (yg124 5 1),eI tS y134.Words (yg124 5 0),eI (tI .u8) y126.Kinds (yg124 2 1),eI tS y126.Words (yg124 2 0),eI (tI .u8) ([] : List Int) (.nil),eI (tI .u8) ([5] : List Int) (yg124 4 0)],[eO 100 tyProp q155 (yg124 18 0)],[]]) [[],[],[22],[],[],[4,22],[22],[],[],[8],[21],[],[],[11,12],[],[],[15],[2,5,6,8,11,12,15],[17,20],[18]] [[],[],[],[],[],[4],[],[],[],[],[],[],[],[],[],[],[],[2,5,6,8,11,12,15],[20],[]] [[0],[1],[1,2],[3],[4],[3,4,5],[6],[7],[8],[7,8,9],[10],[11],[12],[10,11,12,13],[14],[15],[14,15,16],[1,2,3,4,5,6,7,8,9,10,11,12,13,14,15,16,17],[0,1,2,3,4,5,6,7,8,9,10,11,12,13,14,15,16,17,18],[0,1,2,3,4,5,6,7,8,9,10,11,12,13,14,15,16,17,18,19]] [] (FrG.keep (ks:=[1,3]) H (by kernel_rfl)) (fun _ _ h => by cases h) (by kernel_rfl) hS (by kernel_rfl) rfl rfl (by kernel_rfl) (by kernel_rfl) (by kernel_rfl) (gd_none (by kernel_rfl) _ _) ?hloc_yg124 ?hstep_yg124 fun _ _ yg124 H158 hv hS => ?hK_yg124
  case hloc_yg124 => exact ⟨(fun _ _ _ _ => ⟨rfl,rfl⟩),(fun _ _ _ _ => ⟨rfl,rfl⟩),(fun _ i g hi => lcG [2] (fun yg124 => (vG [vS y126.Name,vB y126.Inherited,vU y126.Initial.Kind,vS y126.Initial.Word,vI y126.Initial.Num,vU y126.Initial.Color.Red,vU y126.Initial.Color.Green,vU y126.Initial.Color.Blue,vU y126.Initial.Color.Alpha,.slice (yg124 2 0).a y126.Words.length (yg124 2 0).c,.slice (yg124 2 1).a y126.Kinds.length (yg124 2 1).c,vB y126.Least],[eO 9 tS y126.Words (yg124 2 0),eO 5 (tI .u8) y126.Kinds (yg124 2 1),eI (tI .u8) ([] : List Int) (.nil)])) hi rfl),(fun _ _ _ _ => ⟨rfl,rfl⟩),(fun _ i g hi => lcG [4] (fun yg124 => (vK (yg124 4 0) 1,[eO 5 (tI .u8) ([5] : List Int) (yg124 4 0)])) hi rfl),(fun _ i g hi => lcG [4,5] (fun yg124 => (vG [vS y134.Name,vB y134.Inherited,vU y134.Initial.Kind,vS y134.Initial.Word,vI y134.Initial.Num,vU y134.Initial.Color.Red,vU y134.Initial.Color.Green,vU y134.Initial.Color.Blue,vU y134.Initial.Color.Alpha,.slice (yg124 5 0).a y134.Words.length (yg124 5 0).c,.slice (yg124 5 1).a y134.Kinds.length (yg124 5 1).c,vB y134.Least],[eO 9 tS y134.Words (yg124 5 0),eO 5 (tI .u8) y134.Kinds (yg124 5 1),eI (tI .u8) ([5] : List Int) (yg124 4 0)])) hi rfl),(fun _ i g hi => lcG [6] (fun yg124 => (vG [vS y139.Name,vB y139.Inherited,vU y139.Initial.Kind,vS y139.Initial.Word,vI y139.Initial.Num,vU y139.Initial.Color.Red,vU y139.Initial.Color.Green,vU y139.Initial.Color.Blue,vU y139.Initial.Color.Alpha,.slice (yg124 6 0).a y139.Words.length (yg124 6 0).c,.slice (yg124 6 1).a y139.Kinds.length (yg124 6 1).c,vB y139.Least],[eO 9 tS y139.Words (yg124 6 0),eO 5 (tI .u8) y139.Kinds (yg124 6 1)])) hi rfl),(fun _ _ _ _ => ⟨rfl,rfl⟩),(fun _ i g hi => lcG [8] (fun yg124 => (vK (yg124 8 0) 1,[eO 5 (tI .u8) ([5] : List Int) (yg124 8 0)])) hi rfl),(fun _ i g hi => lcG [8] (fun yg124 => (vG [vS [111,112,97,99,105,116,121],vF,vU 5,vN,vI 1000,vU 0,vU 0,vU 0,vU 0,vO,vK (yg124 8 0) 1,vF],[])) hi rfl),(fun _ _ _ _ => ⟨rfl,rfl⟩),(fun _ i g hi => lcG [11] (fun yg124 => (vK (yg124 11 0) 1,[eO 9 tS kL0 (yg124 11 0)])) hi rfl),(fun _ i g hi => lcG [12] (fun yg124 => (vK (yg124 12 0) 1,[eO 5 (tI .u8) ([6] : List Int) (yg124 12 0)])) hi rfl),(fun _ i g hi => lcG [11,12] (fun yg124 => (vG [vS [122,45,105,110,100,101,120],vF,vU y3.Kind,vS y3.Word,vI y3.Num,vU y3.Color.Red,vU y3.Color.Green,vU y3.Color.Blue,vU y3.Color.Alpha,vK (yg124 11 0) 1,vK (yg124 12 0) 1,vF],[])) hi rfl),(fun _ _ _ _ => ⟨rfl,rfl⟩),(fun _ i g hi => lcG [15] (fun yg124 => (vK (yg124 15 0) 1,[eO 5 (tI .u8) ([6] : List Int) (yg124 15 0)])) hi rfl),(fun _ i g hi => lcG [15] (fun yg124 => (vG [vS [111,114,100,101,114],vF,vU 6,vN,vI 0,vU 0,vU 0,vU 0,vU 0,vO,vK (yg124 15 0) 1,vF],[])) hi rfl),(fun _ i g hi => lcG [2,4,5,6,8,11,12,15,17] (fun yg124 => (vK (yg124 17 0) 6,[eO 100 tyProp ([y126,y134,y139,(TProp.mk [111,112,97,99,105,116,121] false (TVal.mk 5 [] 1000 (TColor.mk 0 0 0 0)) [] ([5] : List Int) false),(TProp.mk [122,45,105,110,100,101,120] false y3 kL0 ([6] : List Int) false),(TProp.mk [111,114,100,101,114] false (TVal.mk 6 [] 0 (TColor.mk 0 0 0 0)) [] ([6] : List Int) false)] : List TProp) (yg124 17 0),eI (tI .u8) ([6] : List Int) (yg124 15 0),eI (tI .u8) ([6] : List Int) (yg124 12 0),eI tS kL0 (yg124 11 0),eI (tI .u8) ([5] : List Int) (yg124 8 0),eI (tI .u8) y139.Kinds (yg124 6 1),eI tS y139.Words (yg124 6 0),eI (tI .u8) y134.Kinds (yg124 5 1),eI tS y134.Words (yg124 5 0),eI (tI .u8) y126.Kinds (yg124 2 1),eI tS y126.Words (yg124 2 0),eI (tI .u8) ([] : List Int) (.nil),eI (tI .u8) ([5] : List Int) (yg124 4 0)])) hi rfl),(fun _ i g hi => lcG [18] (fun yg124 => (.slice (yg124 18 0).a q155.length (yg124 18 0).c,[eO 100 tyProp q155 (yg124 18 0)])) hi rfl),(fun _ i g hi => lcG [18] (fun yg124 => (.slice (yg124 18 0).a q155.length (yg124 18 0).c,[])) hi rfl),trivial⟩
  case hstep_yg124 =>
   refine ⟨?_,?_,?_,?_,?_,?_,?_,?_,?_,?_,?_,?_,?_,?_,?_,?_,?_,?_,?_,?_,trivial⟩
   ·intro o ho a w yg124 M Hb hv hO hS
    obtain rfl:=someE ho
    exact Stp.mono (o_evs [] (vL g123 z81) none [] Hb rfl (by kernel_rfl) (fun q e => by cases e)) fun _ _ hq => ⟨gL [],fun _ _ => hq.1,(hS.below hq.2.below).sel [] rfl⟩
   ·intro o ho a w yg124 M Hb hv hO hS
    obtain rfl:=someE ho
    exact Stp.mono (o_evs [] (vG [vU 2,vN,vI 16000,vU 0,vU 0,vU 0,vU 0]) none [] Hb rfl (by kernel_rfl) (fun q e => by cases e)) fun _ _ hq => ⟨gL [],fun _ _ => hq.1,(hS.below hq.2.below).sel [] rfl⟩
   ·intro o ho a w yg124 M Hb hv hO hS0
    obtain rfl:=someE ho
    have H : Fr 57 ([(39,[],vG [vU 2,vN,vI 16000,vU 0,vU 0,vU 0,vU 0])] ++ (fS [1,3] [vP b6,vL g123 z81])) _:=(Hb).add (hv 1 (by decide) (by decide) 39 rfl)
    obtain ⟨X,hX⟩ : ∃ X,X = fpl [gE0]:=⟨_,rfl⟩
    have hS : SH M X w [gE0] w:=by rw [hX]; exact hS0
    replace hS : SH M X w [eO 5 (tI .u8) ([] : List Int) (.nil),gE0] _:=hS.addNil 5 (tI .u8)
    replace hS : SH M X w [eI (tI .u8) ([] : List Int) (.nil),gE0] _:=SH.frz1 (hS.sel [0,1] rfl)
    have hd:=hS.hand [0,1] [0,1] rfl rfl
    refine Stp.mono (o_callx H rfl rfl (props_length_ok (g_more:=Gh.nil) m _ _ _ _ _ _ _ hy126 _ _ hd)) ?_
    rintro v w2 hq
    obtain ⟨g127,g129,rfl,hq⟩:=hq
    replace hS : SH M X w [eO 9 tS y126.Words g127,eO 5 (tI .u8) y126.Kinds g129,eI (tI .u8) ([] : List Int) (.nil),gE0] _:=hS.join [0,1] [0,1] rfl rfl hq
    clear hq
    rw [hX] at hS
    exact ⟨gL [g127,g129],fun _ _ => rfl,hS.sel [0,1,2,3] rfl⟩
   ·intro o ho a w yg124 M Hb hv hO hS
    obtain rfl:=someE ho
    exact Stp.mono (o_evs [(vG (cV y131))] (vG (cV y131)) (some (rB 76 [vS [110,111,114,109,97,108]] (vG (cV y131)))) [] Hb rfl (by subst hy131; kernel_rfl) (fun q e => by cases e; exact ((by rw [hy131]; exact (props_word_ok _).b)))) fun _ _ hq => ⟨gL [],fun _ _ => hq.1,(hS.below hq.2.below).sel [] rfl⟩
   ·intro o ho a w yg124 M Hb hv hO hS0
    obtain rfl:=someE ho
    have H : Fr 57 ([] ++ (fS [1,3] [vP b6,vL g123 z81])) _:=Hb
    obtain ⟨X,hX⟩ : ∃ X,X = fpl []:=⟨_,rfl⟩
    have hS : SH M X w [] w:=by rw [hX]; exact hS0
    have hd:=hS.hand [] [] rfl rfl
    refine Stp.mono (o_lit (T:=(tI .u8)) (E:=5) (zv:=vU 0) [vU 5] ([5] : List Int) [gL []] _ H hd rfl (by kernel_rfl) (by kernel_rfl) (by kernel_rfl) (by kernel_rfl) (by kernel_rfl) (by kernel_rfl) (by kernel_rfl) rfl (InnL.cons trivial InnL.nil)) ?_
    rintro v w2 hq
    obtain ⟨g132,rfl,hq⟩:=hq
    replace hS : SH M X w [eO 5 (tI .u8) ([5] : List Int) g132] _:=hS.join [] [] rfl rfl hq
    clear hq
    rw [hX] at hS
    exact ⟨gL [g132],fun _ _ => rfl,hS.sel [0] rfl⟩
   ·intro o ho a w yg124 M Hb hv hO hS0
    obtain rfl:=someE ho
    have H : Fr 57 ((fS [42,41] [vK (yg124 4 0) 1,vG (cV y131)]) ++ (fS [1,3] [vP b6,vL g123 z81])) _:=((Hb).add (hv 3 (by decide) (by decide) 41 rfl)).add (hv 4 (by decide) (by decide) 42 rfl)
    obtain ⟨X,hX⟩ : ∃ X,X = fpl [eO 5 (tI .u8) ([5] : List Int) (yg124 4 0),gE0]:=⟨_,rfl⟩
    have hS : SH M X w [eO 5 (tI .u8) ([5] : List Int) (yg124 4 0),gE0] w:=by rw [hX]; exact hS0
    replace hS : SH M X w [eI (tI .u8) ([5] : List Int) (yg124 4 0),gE0] _:=SH.frz1 (hS.sel [0,1] rfl)
    have hd:=hS.hand [0,1] [0,1] rfl rfl
    refine Stp.mono (o_callx H rfl rfl (props_length_ok (g_more:=(yg124 4 0)) m _ _ _ _ _ _ _ hy134 _ _ hd)) ?_
    rintro v w2 hq
    obtain ⟨g135,g137,rfl,hq⟩:=hq
    replace hS : SH M X w [eO 9 tS y134.Words g135,eO 5 (tI .u8) y134.Kinds g137,eI (tI .u8) ([5] : List Int) (yg124 4 0),gE0] _:=hS.join [0,1] [0,1] rfl rfl hq
    clear hq
    rw [hX] at hS
    exact ⟨gL [g135,g137],fun _ _ => rfl,hS.sel [0,1,2,3] rfl⟩
   ·intro o ho a w yg124 M Hb hv hO hS0
    obtain rfl:=someE ho
    have H : Fr 57 ([] ++ (fS [1,3] [vP b6,vL g123 z81])) _:=Hb
    obtain ⟨X,hX⟩ : ∃ X,X = fpl [gE0]:=⟨_,rfl⟩
    have hS : SH M X w [gE0] w:=by rw [hX]; exact hS0
    have hd:=hS.hand [0] [0] rfl rfl
    refine Stp.mono (o_callx H rfl rfl (props_words_ok m _ _ _ _ _ hy139 _ _ hd)) ?_
    rintro v w2 hq
    obtain ⟨g140,g142,rfl,hq⟩:=hq
    replace hS : SH M X w [eO 9 tS y139.Words g140,eO 5 (tI .u8) y139.Kinds g142,gE0] _:=hS.join [0] [0] rfl rfl hq
    clear hq
    rw [hX] at hS
    exact ⟨gL [g140,g142],fun _ _ => rfl,hS.sel [0,1,2] rfl⟩
   ·intro o ho a w yg124 M Hb hv hO hS
    obtain rfl:=someE ho
    exact Stp.mono (o_evs [] (vG [vU 5,vN,vI 1000,vU 0,vU 0,vU 0,vU 0]) none [] Hb rfl (by kernel_rfl) (fun q e => by cases e)) fun _ _ hq => ⟨gL [],fun _ _ => hq.1,(hS.below hq.2.below).sel [] rfl⟩
   ·intro o ho a w yg124 M Hb hv hO hS0
    obtain rfl:=someE ho
    have H : Fr 57 ([] ++ (fS [1,3] [vP b6,vL g123 z81])) _:=Hb
    obtain ⟨X,hX⟩ : ∃ X,X = fpl []:=⟨_,rfl⟩
    have hS : SH M X w [] w:=by rw [hX]; exact hS0
    have hd:=hS.hand [] [] rfl rfl
    refine Stp.mono (o_lit (T:=(tI .u8)) (E:=5) (zv:=vU 0) [vU 5] ([5] : List Int) [gL []] _ H hd rfl (by kernel_rfl) (by kernel_rfl) (by kernel_rfl) (by kernel_rfl) (by kernel_rfl) (by kernel_rfl) (by kernel_rfl) rfl (InnL.cons trivial InnL.nil)) ?_
    rintro v w2 hq
    obtain ⟨g144,rfl,hq⟩:=hq
    replace hS : SH M X w [eO 5 (tI .u8) ([5] : List Int) g144] _:=hS.join [] [] rfl rfl hq
    clear hq
    rw [hX] at hS
    exact ⟨gL [g144],fun _ _ => rfl,hS.sel [0] rfl⟩
   ·intro o ho a w yg124 M Hb hv hO hS
    obtain rfl:=someE ho
    exact Stp.mono (o_evs [] (vG [vS [111,112,97,99,105,116,121],vF,vU 5,vN,vI 1000,vU 0,vU 0,vU 0,vU 0,vO,vK (yg124 8 0) 1,vF]) none [] (((Hb).add (hv 7 (by decide) (by decide) 45 rfl)).add (hv 8 (by decide) (by decide) 46 rfl)) rfl (by kernel_rfl) (fun q e => by cases e)) fun _ _ hq => ⟨gL [],fun _ _ => hq.1,(hS.below hq.2.below).sel [0] rfl⟩
   ·intro o ho a w yg124 M Hb hv hO hS
    obtain rfl:=someE ho
    exact Stp.mono (o_evs [(vG (cV y3))] (vG (cV y3)) (some (rN b6 0 (cV y3))) [] Hb rfl (by kernel_rfl) (fun q e => by cases e; exact ((hS.bk 0 rfl).atD rfl))) fun _ _ hq => ⟨gL [],fun _ _ => hq.1,(hS.below hq.2.below).sel [0] rfl⟩
   ·intro o ho a w yg124 M Hb hv hO hS0
    obtain rfl:=someE ho
    have H : Fr 57 ([] ++ (fS [1,3] [vP b6,vL g123 z81])) _:=Hb
    obtain ⟨X,hX⟩ : ∃ X,X = fpl []:=⟨_,rfl⟩
    have hS : SH M X w [] w:=by rw [hX]; exact hS0
    have hd:=hS.hand [] [] rfl rfl
    refine Stp.mono (o_lit (T:=tS) (E:=9) (zv:=vN) [vS [97,117,116,111]] kL0 [gL []] _ H hd rfl (by kernel_rfl) (by kernel_rfl) (by kernel_rfl) (by kernel_rfl) (by kernel_rfl) (by kernel_rfl) (by kernel_rfl) rfl (InnL.cons trivial InnL.nil)) ?_
    rintro v w2 hq
    obtain ⟨g146,rfl,hq⟩:=hq
    replace hS : SH M X w [eO 9 tS kL0 g146] _:=hS.join [] [] rfl rfl hq
    clear hq
    rw [hX] at hS
    exact ⟨gL [g146],fun _ _ => rfl,hS.sel [0] rfl⟩
   ·intro o ho a w yg124 M Hb hv hO hS0
    obtain rfl:=someE ho
    have H : Fr 57 ([] ++ (fS [1,3] [vP b6,vL g123 z81])) _:=Hb
    obtain ⟨X,hX⟩ : ∃ X,X = fpl []:=⟨_,rfl⟩
    have hS : SH M X w [] w:=by rw [hX]; exact hS0
    have hd:=hS.hand [] [] rfl rfl
    refine Stp.mono (o_lit (T:=(tI .u8)) (E:=5) (zv:=vU 0) [vU 6] ([6] : List Int) [gL []] _ H hd rfl (by kernel_rfl) (by kernel_rfl) (by kernel_rfl) (by kernel_rfl) (by kernel_rfl) (by kernel_rfl) (by kernel_rfl) rfl (InnL.cons trivial InnL.nil)) ?_
    rintro v w2 hq
    obtain ⟨g148,rfl,hq⟩:=hq
    replace hS : SH M X w [eO 5 (tI .u8) ([6] : List Int) g148] _:=hS.join [] [] rfl rfl hq
    clear hq
    rw [hX] at hS
    exact ⟨gL [g148],fun _ _ => rfl,hS.sel [0] rfl⟩
   ·intro o ho a w yg124 M Hb hv hO hS
    obtain rfl:=someE ho
    exact Stp.mono (o_evs [] (vG [vS [122,45,105,110,100,101,120],vF,vU y3.Kind,vS y3.Word,vI y3.Num,vU y3.Color.Red,vU y3.Color.Green,vU y3.Color.Blue,vU y3.Color.Alpha,vK (yg124 11 0) 1,vK (yg124 12 0) 1,vF]) none [] ((((Hb).add (hv 10 (by decide) (by decide) 48 rfl)).add (hv 11 (by decide) (by decide) 49 rfl)).add (hv 12 (by decide) (by decide) 50 rfl)) rfl (by kernel_rfl) (fun q e => by cases e)) fun _ _ hq => ⟨gL [],fun _ _ => hq.1,(hS.below hq.2.below).sel [0,1] rfl⟩
   ·intro o ho a w yg124 M Hb hv hO hS
    obtain rfl:=someE ho
    exact Stp.mono (o_evs [] (vG [vU 6,vN,vI 0,vU 0,vU 0,vU 0,vU 0]) none [] Hb rfl (by kernel_rfl) (fun q e => by cases e)) fun _ _ hq => ⟨gL [],fun _ _ => hq.1,(hS.below hq.2.below).sel [] rfl⟩
   ·intro o ho a w yg124 M Hb hv hO hS0
    obtain rfl:=someE ho
    have H : Fr 57 ([] ++ (fS [1,3] [vP b6,vL g123 z81])) _:=Hb
    obtain ⟨X,hX⟩ : ∃ X,X = fpl []:=⟨_,rfl⟩
    have hS : SH M X w [] w:=by rw [hX]; exact hS0
    have hd:=hS.hand [] [] rfl rfl
    refine Stp.mono (o_lit (T:=(tI .u8)) (E:=5) (zv:=vU 0) [vU 6] ([6] : List Int) [gL []] _ H hd rfl (by kernel_rfl) (by kernel_rfl) (by kernel_rfl) (by kernel_rfl) (by kernel_rfl) (by kernel_rfl) (by kernel_rfl) rfl (InnL.cons trivial InnL.nil)) ?_
    rintro v w2 hq
    obtain ⟨g150,rfl,hq⟩:=hq
    replace hS : SH M X w [eO 5 (tI .u8) ([6] : List Int) g150] _:=hS.join [] [] rfl rfl hq
    clear hq
    rw [hX] at hS
    exact ⟨gL [g150],fun _ _ => rfl,hS.sel [0] rfl⟩
   ·intro o ho a w yg124 M Hb hv hO hS
    obtain rfl:=someE ho
    exact Stp.mono (o_evs [] (vG [vS [111,114,100,101,114],vF,vU 6,vN,vI 0,vU 0,vU 0,vU 0,vU 0,vO,vK (yg124 15 0) 1,vF]) none [] (((Hb).add (hv 14 (by decide) (by decide) 52 rfl)).add (hv 15 (by decide) (by decide) 53 rfl)) rfl (by kernel_rfl) (fun q e => by cases e)) fun _ _ hq => ⟨gL [],fun _ _ => hq.1,(hS.below hq.2.below).sel [0] rfl⟩
   ·intro o ho a w yg124 M Hb hv hO hS0
    obtain rfl:=someE ho
    have H : Fr 57 ((fS [54,51,47,44,43,40] [vG [vS [111,114,100,101,114],vF,vU 6,vN,vI 0,vU 0,vU 0,vU 0,vU 0,vO,vK (yg124 15 0) 1,vF],vG [vS [122,45,105,110,100,101,120],vF,vU y3.Kind,vS y3.Word,vI y3.Num,vU y3.Color.Red,vU y3.Color.Green,vU y3.Color.Blue,vU y3.Color.Alpha,vK (yg124 11 0) 1,vK (yg124 12 0) 1,vF],vG [vS [111,112,97,99,105,116,121],vF,vU 5,vN,vI 1000,vU 0,vU 0,vU 0,vU 0,vO,vK (yg124 8 0) 1,vF],vG [vS y139.Name,vB y139.Inherited,vU y139.Initial.Kind,vS y139.Initial.Word,vI y139.Initial.Num,vU y139.Initial.Color.Red,vU y139.Initial.Color.Green,vU y139.Initial.Color.Blue,vU y139.Initial.Color.Alpha,.slice (yg124 6 0).a y139.Words.length (yg124 6 0).c,.slice (yg124 6 1).a y139.Kinds.length (yg124 6 1).c,vB y139.Least],vG [vS y134.Name,vB y134.Inherited,vU y134.Initial.Kind,vS y134.Initial.Word,vI y134.Initial.Num,vU y134.Initial.Color.Red,vU y134.Initial.Color.Green,vU y134.Initial.Color.Blue,vU y134.Initial.Color.Alpha,.slice (yg124 5 0).a y134.Words.length (yg124 5 0).c,.slice (yg124 5 1).a y134.Kinds.length (yg124 5 1).c,vB y134.Least],vG [vS y126.Name,vB y126.Inherited,vU y126.Initial.Kind,vS y126.Initial.Word,vI y126.Initial.Num,vU y126.Initial.Color.Red,vU y126.Initial.Color.Green,vU y126.Initial.Color.Blue,vU y126.Initial.Color.Alpha,.slice (yg124 2 0).a y126.Words.length (yg124 2 0).c,.slice (yg124 2 1).a y126.Kinds.length (yg124 2 1).c,vB y126.Least]]) ++ (fS [1,3] [vP b6,vL g123 z81])) _:=((((((Hb).add (hv 2 (by decide) (by decide) 40 rfl)).add (hv 5 (by decide) (by decide) 43 rfl)).add (hv 6 (by decide) (by decide) 44 rfl)).add (hv 9 (by decide) (by decide) 47 rfl)).add (hv 13 (by decide) (by decide) 51 rfl)).add (hv 16 (by decide) (by decide) 54 rfl)
    obtain ⟨X,hX⟩ : ∃ X,X = fpl [eO 9 tS y126.Words (yg124 2 0),eO 5 (tI .u8) y126.Kinds (yg124 2 1),eI (tI .u8) ([] : List Int) (.nil),eO 9 tS y134.Words (yg124 5 0),eO 5 (tI .u8) y134.Kinds (yg124 5 1),eI (tI .u8) ([5] : List Int) (yg124 4 0),eO 9 tS y139.Words (yg124 6 0),eO 5 (tI .u8) y139.Kinds (yg124 6 1),eO 5 (tI .u8) ([5] : List Int) (yg124 8 0),eO 9 tS kL0 (yg124 11 0),eO 5 (tI .u8) ([6] : List Int) (yg124 12 0),eO 5 (tI .u8) ([6] : List Int) (yg124 15 0)]:=⟨_,rfl⟩
    have hS : SH M X w [eO 9 tS y126.Words (yg124 2 0),eO 5 (tI .u8) y126.Kinds (yg124 2 1),eI (tI .u8) ([] : List Int) (.nil),eO 9 tS y134.Words (yg124 5 0),eO 5 (tI .u8) y134.Kinds (yg124 5 1),eI (tI .u8) ([5] : List Int) (yg124 4 0),eO 9 tS y139.Words (yg124 6 0),eO 5 (tI .u8) y139.Kinds (yg124 6 1),eO 5 (tI .u8) ([5] : List Int) (yg124 8 0),eO 9 tS kL0 (yg124 11 0),eO 5 (tI .u8) ([6] : List Int) (yg124 12 0),eO 5 (tI .u8) ([6] : List Int) (yg124 15 0)] w:=by rw [hX]; exact hS0
    replace hS : SH M X w [eI tS y126.Words (yg124 2 0),eO 5 (tI .u8) y126.Kinds (yg124 2 1),eI (tI .u8) ([] : List Int) (.nil),eO 9 tS y134.Words (yg124 5 0),eO 5 (tI .u8) y134.Kinds (yg124 5 1),eI (tI .u8) ([5] : List Int) (yg124 4 0),eO 9 tS y139.Words (yg124 6 0),eO 5 (tI .u8) y139.Kinds (yg124 6 1),eO 5 (tI .u8) ([5] : List Int) (yg124 8 0),eO 9 tS kL0 (yg124 11 0),eO 5 (tI .u8) ([6] : List Int) (yg124 12 0),eO 5 (tI .u8) ([6] : List Int) (yg124 15 0)] _:=SH.frz1 (hS.sel [0,1,2,3,4,5,6,7,8,9,10,11] rfl)
    replace hS : SH M X w [eI (tI .u8) y126.Kinds (yg124 2 1),eI tS y126.Words (yg124 2 0),eI (tI .u8) ([] : List Int) (.nil),eO 9 tS y134.Words (yg124 5 0),eO 5 (tI .u8) y134.Kinds (yg124 5 1),eI (tI .u8) ([5] : List Int) (yg124 4 0),eO 9 tS y139.Words (yg124 6 0),eO 5 (tI .u8) y139.Kinds (yg124 6 1),eO 5 (tI .u8) ([5] : List Int) (yg124 8 0),eO 9 tS kL0 (yg124 11 0),eO 5 (tI .u8) ([6] : List Int) (yg124 12 0),eO 5 (tI .u8) ([6] : List Int) (yg124 15 0)] _:=SH.frz1 (hS.sel [1,0,2,3,4,5,6,7,8,9,10,11] rfl)
    replace hS : SH M X w [eI tS y134.Words (yg124 5 0),eI (tI .u8) y126.Kinds (yg124 2 1),eI tS y126.Words (yg124 2 0),eI (tI .u8) ([] : List Int) (.nil),eO 5 (tI .u8) y134.Kinds (yg124 5 1),eI (tI .u8) ([5] : List Int) (yg124 4 0),eO 9 tS y139.Words (yg124 6 0),eO 5 (tI .u8) y139.Kinds (yg124 6 1),eO 5 (tI .u8) ([5] : List Int) (yg124 8 0),eO 9 tS kL0 (yg124 11 0),eO 5 (tI .u8) ([6] : List Int) (yg124 12 0),eO 5 (tI .u8) ([6] : List Int) (yg124 15 0)] _:=SH.frz1 (hS.sel [3,0,1,2,4,5,6,7,8,9,10,11] rfl)
    replace hS : SH M X w [eI (tI .u8) y134.Kinds (yg124 5 1),eI tS y134.Words (yg124 5 0),eI (tI .u8) y126.Kinds (yg124 2 1),eI tS y126.Words (yg124 2 0),eI (tI .u8) ([] : List Int) (.nil),eI (tI .u8) ([5] : List Int) (yg124 4 0),eO 9 tS y139.Words (yg124 6 0),eO 5 (tI .u8) y139.Kinds (yg124 6 1),eO 5 (tI .u8) ([5] : List Int) (yg124 8 0),eO 9 tS kL0 (yg124 11 0),eO 5 (tI .u8) ([6] : List Int) (yg124 12 0),eO 5 (tI .u8) ([6] : List Int) (yg124 15 0)] _:=SH.frz1 (hS.sel [4,0,1,2,3,5,6,7,8,9,10,11] rfl)
    replace hS : SH M X w [eI tS y139.Words (yg124 6 0),eI (tI .u8) y134.Kinds (yg124 5 1),eI tS y134.Words (yg124 5 0),eI (tI .u8) y126.Kinds (yg124 2 1),eI tS y126.Words (yg124 2 0),eI (tI .u8) ([] : List Int) (.nil),eI (tI .u8) ([5] : List Int) (yg124 4 0),eO 5 (tI .u8) y139.Kinds (yg124 6 1),eO 5 (tI .u8) ([5] : List Int) (yg124 8 0),eO 9 tS kL0 (yg124 11 0),eO 5 (tI .u8) ([6] : List Int) (yg124 12 0),eO 5 (tI .u8) ([6] : List Int) (yg124 15 0)] _:=SH.frz1 (hS.sel [6,0,1,2,3,4,5,7,8,9,10,11] rfl)
    replace hS : SH M X w [eI (tI .u8) y139.Kinds (yg124 6 1),eI tS y139.Words (yg124 6 0),eI (tI .u8) y134.Kinds (yg124 5 1),eI tS y134.Words (yg124 5 0),eI (tI .u8) y126.Kinds (yg124 2 1),eI tS y126.Words (yg124 2 0),eI (tI .u8) ([] : List Int) (.nil),eI (tI .u8) ([5] : List Int) (yg124 4 0),eO 5 (tI .u8) ([5] : List Int) (yg124 8 0),eO 9 tS kL0 (yg124 11 0),eO 5 (tI .u8) ([6] : List Int) (yg124 12 0),eO 5 (tI .u8) ([6] : List Int) (yg124 15 0)] _:=SH.frz1 (hS.sel [7,0,1,2,3,4,5,6,8,9,10,11] rfl)
    replace hS : SH M X w [eI (tI .u8) ([5] : List Int) (yg124 8 0),eI (tI .u8) y139.Kinds (yg124 6 1),eI tS y139.Words (yg124 6 0),eI (tI .u8) y134.Kinds (yg124 5 1),eI tS y134.Words (yg124 5 0),eI (tI .u8) y126.Kinds (yg124 2 1),eI tS y126.Words (yg124 2 0),eI (tI .u8) ([] : List Int) (.nil),eI (tI .u8) ([5] : List Int) (yg124 4 0),eO 9 tS kL0 (yg124 11 0),eO 5 (tI .u8) ([6] : List Int) (yg124 12 0),eO 5 (tI .u8) ([6] : List Int) (yg124 15 0)] _:=SH.frz1 (hS.sel [8,0,1,2,3,4,5,6,7,9,10,11] rfl)
    replace hS : SH M X w [eI tS kL0 (yg124 11 0),eI (tI .u8) ([5] : List Int) (yg124 8 0),eI (tI .u8) y139.Kinds (yg124 6 1),eI tS y139.Words (yg124 6 0),eI (tI .u8) y134.Kinds (yg124 5 1),eI tS y134.Words (yg124 5 0),eI (tI .u8) y126.Kinds (yg124 2 1),eI tS y126.Words (yg124 2 0),eI (tI .u8) ([] : List Int) (.nil),eI (tI .u8) ([5] : List Int) (yg124 4 0),eO 5 (tI .u8) ([6] : List Int) (yg124 12 0),eO 5 (tI .u8) ([6] : List Int) (yg124 15 0)] _:=SH.frz1 (hS.sel [9,0,1,2,3,4,5,6,7,8,10,11] rfl)
    replace hS : SH M X w [eI (tI .u8) ([6] : List Int) (yg124 12 0),eI tS kL0 (yg124 11 0),eI (tI .u8) ([5] : List Int) (yg124 8 0),eI (tI .u8) y139.Kinds (yg124 6 1),eI tS y139.Words (yg124 6 0),eI (tI .u8) y134.Kinds (yg124 5 1),eI tS y134.Words (yg124 5 0),eI (tI .u8) y126.Kinds (yg124 2 1),eI tS y126.Words (yg124 2 0),eI (tI .u8) ([] : List Int) (.nil),eI (tI .u8) ([5] : List Int) (yg124 4 0),eO 5 (tI .u8) ([6] : List Int) (yg124 15 0)] _:=SH.frz1 (hS.sel [10,0,1,2,3,4,5,6,7,8,9,11] rfl)
    replace hS : SH M X w [eI (tI .u8) ([6] : List Int) (yg124 15 0),eI (tI .u8) ([6] : List Int) (yg124 12 0),eI tS kL0 (yg124 11 0),eI (tI .u8) ([5] : List Int) (yg124 8 0),eI (tI .u8) y139.Kinds (yg124 6 1),eI tS y139.Words (yg124 6 0),eI (tI .u8) y134.Kinds (yg124 5 1),eI tS y134.Words (yg124 5 0),eI (tI .u8) y126.Kinds (yg124 2 1),eI tS y126.Words (yg124 2 0),eI (tI .u8) ([] : List Int) (.nil),eI (tI .u8) ([5] : List Int) (yg124 4 0)] _:=SH.frz1 (hS.sel [11,0,1,2,3,4,5,6,7,8,9,10] rfl)
    have hd:=hS.hand [9,8,7,6,5,4,3,2,1,0] [0,1,2,3,4,5,6,7,8,9,10,11] rfl rfl
    refine Stp.mono (o_lit (T:=tyProp) (E:=100) (zv:=vG [vN,vF,vU 0,vN,vI 0,vU 0,vU 0,vU 0,vU 0,vO,vO,vF]) [vS y126.Name,vB y126.Inherited,vU y126.Initial.Kind,vS y126.Initial.Word,vI y126.Initial.Num,vU y126.Initial.Color.Red,vU y126.Initial.Color.Green,vU y126.Initial.Color.Blue,vU y126.Initial.Color.Alpha,.slice (yg124 2 0).a y126.Words.length (yg124 2 0).c,.slice (yg124 2 1).a y126.Kinds.length (yg124 2 1).c,vB y126.Least,vS y134.Name,vB y134.Inherited,vU y134.Initial.Kind,vS y134.Initial.Word,vI y134.Initial.Num,vU y134.Initial.Color.Red,vU y134.Initial.Color.Green,vU y134.Initial.Color.Blue,vU y134.Initial.Color.Alpha,.slice (yg124 5 0).a y134.Words.length (yg124 5 0).c,.slice (yg124 5 1).a y134.Kinds.length (yg124 5 1).c,vB y134.Least,vS y139.Name,vB y139.Inherited,vU y139.Initial.Kind,vS y139.Initial.Word,vI y139.Initial.Num,vU y139.Initial.Color.Red,vU y139.Initial.Color.Green,vU y139.Initial.Color.Blue,vU y139.Initial.Color.Alpha,.slice (yg124 6 0).a y139.Words.length (yg124 6 0).c,.slice (yg124 6 1).a y139.Kinds.length (yg124 6 1).c,vB y139.Least,vS [111,112,97,99,105,116,121],vF,vU 5,vN,vI 1000,vU 0,vU 0,vU 0,vU 0,vO,vK (yg124 8 0) 1,vF,vS [122,45,105,110,100,101,120],vF,vU y3.Kind,vS y3.Word,vI y3.Num,vU y3.Color.Red,vU y3.Color.Green,vU y3.Color.Blue,vU y3.Color.Alpha,vK (yg124 11 0) 1,vK (yg124 12 0) 1,vF,vS [111,114,100,101,114],vF,vU 6,vN,vI 0,vU 0,vU 0,vU 0,vU 0,vO,vK (yg124 15 0) 1,vF] ([y126,y134,y139,(TProp.mk [111,112,97,99,105,116,121] false (TVal.mk 5 [] 1000 (TColor.mk 0 0 0 0)) [] ([5] : List Int) false),(TProp.mk [122,45,105,110,100,101,120] false y3 kL0 ([6] : List Int) false),(TProp.mk [111,114,100,101,114] false (TVal.mk 6 [] 0 (TColor.mk 0 0 0 0)) [] ([6] : List Int) false)] : List TProp) [gL [(yg124 2 0),(yg124 2 1)],gL [(yg124 5 0),(yg124 5 1)],gL [(yg124 6 0),(yg124 6 1)],gL [Gh.nil,(yg124 8 0)],gL [(yg124 11 0),(yg124 12 0)],gL [Gh.nil,(yg124 15 0)]] _ H hd rfl (by kernel_rfl) (by kernel_rfl) (by kernel_rfl) (by kernel_rfl) (by kernel_rfl) (by kernel_rfl) (by kernel_rfl) rfl (InnL.cons (tyProp_mk (hd.im 0 rfl) (hd.im 1 rfl)) (InnL.cons (tyProp_mk (hd.im 2 rfl) (hd.im 3 rfl)) (InnL.cons (tyProp_mk (hd.im 4 rfl) (hd.im 5 rfl)) (InnL.cons (tyProp_mk SlG.nil (hd.im 6 rfl)) (InnL.cons (tyProp_mk (hd.im 7 rfl) (hd.im 8 rfl)) (InnL.cons (tyProp_mk SlG.nil (hd.im 9 rfl)) InnL.nil))))))) ?_
    rintro v w2 hq
    obtain ⟨g152,rfl,hq⟩:=hq
    replace hS : SH M X w [eO 100 tyProp ([y126,y134,y139,(TProp.mk [111,112,97,99,105,116,121] false (TVal.mk 5 [] 1000 (TColor.mk 0 0 0 0)) [] ([5] : List Int) false),(TProp.mk [122,45,105,110,100,101,120] false y3 kL0 ([6] : List Int) false),(TProp.mk [111,114,100,101,114] false (TVal.mk 6 [] 0 (TColor.mk 0 0 0 0)) [] ([6] : List Int) false)] : List TProp) g152,eI (tI .u8) ([6] : List Int) (yg124 15 0),eI (tI .u8) ([6] : List Int) (yg124 12 0),eI tS kL0 (yg124 11 0),eI (tI .u8) ([5] : List Int) (yg124 8 0),eI (tI .u8) y139.Kinds (yg124 6 1),eI tS y139.Words (yg124 6 0),eI (tI .u8) y134.Kinds (yg124 5 1),eI tS y134.Words (yg124 5 0),eI (tI .u8) y126.Kinds (yg124 2 1),eI tS y126.Words (yg124 2 0),eI (tI .u8) ([] : List Int) (.nil),eI (tI .u8) ([5] : List Int) (yg124 4 0)] _:=hS.join [9,8,7,6,5,4,3,2,1,0] [0,1,2,3,4,5,6,7,8,9,10,11] rfl rfl hq
    clear hq
    rw [hX] at hS
    exact ⟨gL [g152],fun _ _ => rfl,hS.sel [0,1,2,3,4,5,6,7,8,9,10,11,12] rfl⟩
   ·intro o ho a w yg124 M Hb hv hO hS0
    obtain rfl:=someE ho
    have H : Fr 57 ((fS [55,38] [vK (yg124 17 0) 6,vL g123 z81]) ++ (fS [1,3] [vP b6,vL g123 z81])) _:=((Hb).add (hv 0 (by decide) (by decide) 38 rfl)).add (hv 17 (by decide) (by decide) 55 rfl)
    obtain ⟨X,hX⟩ : ∃ X,X = fpl [eO 100 tyProp ([y126,y134,y139,(TProp.mk [111,112,97,99,105,116,121] false (TVal.mk 5 [] 1000 (TColor.mk 0 0 0 0)) [] ([5] : List Int) false),(TProp.mk [122,45,105,110,100,101,120] false y3 kL0 ([6] : List Int) false),(TProp.mk [111,114,100,101,114] false (TVal.mk 6 [] 0 (TColor.mk 0 0 0 0)) [] ([6] : List Int) false)] : List TProp) (yg124 17 0),eI (tI .u8) ([6] : List Int) (yg124 15 0),eI (tI .u8) ([6] : List Int) (yg124 12 0),eI tS kL0 (yg124 11 0),eI (tI .u8) ([5] : List Int) (yg124 8 0),eI (tI .u8) y139.Kinds (yg124 6 1),eI tS y139.Words (yg124 6 0),eI (tI .u8) y134.Kinds (yg124 5 1),eI tS y134.Words (yg124 5 0),eI (tI .u8) y126.Kinds (yg124 2 1),eI tS y126.Words (yg124 2 0),eI (tI .u8) ([] : List Int) (.nil),eI (tI .u8) ([5] : List Int) (yg124 4 0),eO 100 tyProp z81 g123]:=⟨_,rfl⟩
    have hS : SH M X w [eO 100 tyProp ([y126,y134,y139,(TProp.mk [111,112,97,99,105,116,121] false (TVal.mk 5 [] 1000 (TColor.mk 0 0 0 0)) [] ([5] : List Int) false),(TProp.mk [122,45,105,110,100,101,120] false y3 kL0 ([6] : List Int) false),(TProp.mk [111,114,100,101,114] false (TVal.mk 6 [] 0 (TColor.mk 0 0 0 0)) [] ([6] : List Int) false)] : List TProp) (yg124 17 0),eI (tI .u8) ([6] : List Int) (yg124 15 0),eI (tI .u8) ([6] : List Int) (yg124 12 0),eI tS kL0 (yg124 11 0),eI (tI .u8) ([5] : List Int) (yg124 8 0),eI (tI .u8) y139.Kinds (yg124 6 1),eI tS y139.Words (yg124 6 0),eI (tI .u8) y134.Kinds (yg124 5 1),eI tS y134.Words (yg124 5 0),eI (tI .u8) y126.Kinds (yg124 2 1),eI tS y126.Words (yg124 2 0),eI (tI .u8) ([] : List Int) (.nil),eI (tI .u8) ([5] : List Int) (yg124 4 0),eO 100 tyProp z81 g123] w:=by rw [hX]; exact hS0
    have hd:=hS.hand [13,0] [1,2,3,4,5,6,7,8,9,10,11,12] rfl rfl
    refine Stp.mono (o_app2 (T:=tyProp) (zv:=vG [vN,vF,vU 0,vN,vI 0,vU 0,vU 0,vU 0,vU 0,vO,vO,vF]) (g1:=g123) (g2:=(yg124 17 0)) (l1:=z81) (l2:=([y126,y134,y139,(TProp.mk [111,112,97,99,105,116,121] false (TVal.mk 5 [] 1000 (TColor.mk 0 0 0 0)) [] ([5] : List Int) false),(TProp.mk [122,45,105,110,100,101,120] false y3 kL0 ([6] : List Int) false),(TProp.mk [111,114,100,101,114] false (TVal.mk 6 [] 0 (TColor.mk 0 0 0 0)) [] ([6] : List Int) false)] : List TProp)) q155 hq155.symm H hd rfl rfl rfl rfl rfl rfl rfl (by kernel_rfl) (by kernel_rfl) rfl rfl ho154) ?_
    rintro v w2 hq
    obtain ⟨g156,rfl,hq⟩:=hq
    replace hS : SH M X w [eO 100 tyProp q155 g156,eO 100 tyProp ([y126,y134,y139,(TProp.mk [111,112,97,99,105,116,121] false (TVal.mk 5 [] 1000 (TColor.mk 0 0 0 0)) [] ([5] : List Int) false),(TProp.mk [122,45,105,110,100,101,120] false y3 kL0 ([6] : List Int) false),(TProp.mk [111,114,100,101,114] false (TVal.mk 6 [] 0 (TColor.mk 0 0 0 0)) [] ([6] : List Int) false)] : List TProp) (yg124 17 0),eI (tI .u8) ([6] : List Int) (yg124 15 0),eI (tI .u8) ([6] : List Int) (yg124 12 0),eI tS kL0 (yg124 11 0),eI (tI .u8) ([5] : List Int) (yg124 8 0),eI (tI .u8) y139.Kinds (yg124 6 1),eI tS y139.Words (yg124 6 0),eI (tI .u8) y134.Kinds (yg124 5 1),eI tS y134.Words (yg124 5 0),eI (tI .u8) y126.Kinds (yg124 2 1),eI tS y126.Words (yg124 2 0),eI (tI .u8) ([] : List Int) (.nil),eI (tI .u8) ([5] : List Int) (yg124 4 0)] _:=hS.join [13,0] [1,2,3,4,5,6,7,8,9,10,11,12] rfl rfl hq
    clear hq
    rw [hX] at hS
    exact ⟨gL [g156],fun _ _ => rfl,hS.sel [0,1,2,3,4,5,6,7,8,9,10,11,12,13] rfl⟩
   ·intro o ho a w yg124 M Hb hv hO hS
    obtain rfl:=someE ho
    exact Stp.mono (o_evs [] (.slice (yg124 18 0).a q155.length (yg124 18 0).c) none [] ((Hb).add (hv 18 (by decide) (by decide) 56 rfl)) rfl (by kernel_rfl) (fun q e => by cases e)) fun _ _ hq => ⟨gL [],fun _ _ => hq.1,(hS.below hq.2.below).sel [0] rfl⟩
  have H159 : Fr 57 [(0,[],.slice (yg124 18 0).a q155.length (yg124 18 0).c)] _:=(FrG.add (FrG.keep (ks:=[]) H158 (by kernel_rfl)) (hv 19 0 rfl))
  replace hS : SH M X w [eO 100 tyProp ([y126,y134,y139,(TProp.mk [111,112,97,99,105,116,121] false (TVal.mk 5 [] 1000 (TColor.mk 0 0 0 0)) [] ([5] : List Int) false),(TProp.mk [122,45,105,110,100,101,120] false y3 kL0 ([6] : List Int) false),(TProp.mk [111,114,100,101,114] false (TVal.mk 6 [] 0 (TColor.mk 0 0 0 0)) [] ([6] : List Int) false)] : List TProp) (yg124 17 0),eI (tI .u8) ([6] : List Int) (yg124 15 0),eI (tI .u8) ([6] : List Int) (yg124 12 0),eI tS kL0 (yg124 11 0),eI (tI .u8) ([5] : List Int) (yg124 8 0),eI (tI .u8) y139.Kinds (yg124 6 1),eI tS y139.Words (yg124 6 0),eI (tI .u8) y134.Kinds (yg124 5 1),eI tS y134.Words (yg124 5 0),eI (tI .u8) y126.Kinds (yg124 2 1),eI tS y126.Words (yg124 2 0),eI (tI .u8) ([] : List Int) (.nil),eI (tI .u8) ([5] : List Int) (yg124 4 0),eO 100 tyProp q155 (yg124 18 0),eB b6 (cV y3),gE0] _:=hS
  clear hv H158
  generalize yg124 18 0 = g160 at H159 hS
  generalize yg124 17 0 = g161 at H159 hS
  generalize yg124 15 0 = g162 at H159 hS
  generalize yg124 12 0 = g163 at H159 hS
  generalize yg124 11 0 = g164 at H159 hS
  generalize yg124 8 0 = g165 at H159 hS
  generalize yg124 6 1 = g166 at H159 hS
  generalize yg124 6 0 = g167 at H159 hS
  generalize yg124 5 1 = g168 at H159 hS
  generalize yg124 5 0 = g169 at H159 hS
  generalize yg124 2 1 = g170 at H159 hS
  generalize yg124 2 0 = g171 at H159 hS
  generalize yg124 4 0 = g172 at H159 hS
  replace hS : SH M X w [eO 100 tyProp q155 g160,gE0] _:=hS.sel [13,15] rfl
  apply w_ret
  obtain rfl:=someE hm
  exact retR1 H159 rfl rfl ⟨_,rfl,g160,rfl,(hS.sel [0] rfl)⟩
theorem props_Table_ok  (m : Nat)  (r : List TProp) (hm : props_Table m = some r) (M : Av) (w : World) (hS : S0 M [gE0] w) : DoesX Tryz.prog 54 ⟨[]⟩ w (fun v w' => ∃ (g901 : Gh),v = vL g901 r ∧ SH M (fpl [gE0]) w [eO 100 tyProp r g901] w'):=⟨Tryz.call54 _,props_Table_w M m    r hm w hS⟩

theorem props_Find_1_w {g_p_0 : Gh} {g_p_1 : Gh} {b_u0 : Nat} (M : Av) (p : TProp) (u0 : Str) (r : Bool) (hm : props_Find_1 p u0 = r) (w : World) (hS : S0 M [eI tS p.Words g_p_0,eI (tI .u8) p.Kinds g_p_1,Ent.ro b_u0 [vS u0]] w) : Calls Tryz.prog 55 ⟨[vG [vS p.Name,vB p.Inherited,vU p.Initial.Kind,vS p.Initial.Word,vI p.Initial.Num,vU p.Initial.Color.Red,vU p.Initial.Color.Green,vU p.Initial.Color.Blue,vU p.Initial.Color.Alpha,vL g_p_0 p.Words,vL g_p_1 p.Kinds,vB p.Least],vP b_u0]⟩ w (fun e w' => ∃ v,e = .returned v ∧ v = vB r ∧ SH M (fpl [eI tS p.Words g_p_0,eI (tI .u8) p.Kinds g_p_1,Ent.ro b_u0 [vS u0]]) w [] w'):=by
 rw [props_Find_1] at hm
 have hS0 : SH M (fpl [eI tS p.Words g_p_0,eI (tI .u8) p.Kinds g_p_1,Ent.ro b_u0 [vS u0]]) w [eI tS p.Words g_p_0,eI (tI .u8) p.Kinds g_p_1,Ent.ro b_u0 [vS u0]] w:=hS
 generalize hX : fpl [eI tS p.Words g_p_0,eI (tI .u8) p.Kinds g_p_1,Ent.ro b_u0 [vS u0]] = X at hS0 ⊢
 clear hS hX
 have hS:=hS0
 clear hS0
 refine calls_entryP Tryz.func55 rfl Tryz.ntmps55 rfl fun _ H => ?_
 apply w_seq
 apply wl_start
 have hd:=hS.hand [] [0,1,2] rfl rfl
 refine m_stp [2,1] [(1,[],vP b_u0)] H rfl rfl rfl rfl (o_box [vS p.Name,vB p.Inherited,vU p.Initial.Kind,vS p.Initial.Word,vI p.Initial.Num,vU p.Initial.Color.Red,vU p.Initial.Color.Green,vU p.Initial.Color.Blue,vU p.Initial.Color.Alpha,vL g_p_0 p.Words,vL g_p_1 p.Kinds,vB p.Least] H hd rfl rfl) (fun _ => rfl) fun _ _ v H3 hq => ?_
 obtain ⟨b1,rfl,hq⟩:=hq
 replace hS : SH M X w [eB b1 [vS p.Name,vB p.Inherited,vU p.Initial.Kind,vS p.Initial.Word,vI p.Initial.Num,vU p.Initial.Color.Red,vU p.Initial.Color.Green,vU p.Initial.Color.Blue,vU p.Initial.Color.Alpha,vL g_p_0 p.Words,vL g_p_1 p.Kinds,vB p.Least],eI tS p.Words g_p_0,eI (tI .u8) p.Kinds g_p_1,Ent.ro b_u0 [vS u0]] _:=hS.join [] [0,1,2] rfl rfl hq
 refine wl_batch 1 2 [] [1,2] (fS [1,2] [vP b_u0,vP b1]) [] H3 (by decide) (by kernel_rfl) trivial fun _ _ H5 hb => ?_
 replace hS:=hS.below hb
 apply wl_end rfl
 refine s_reg [(vS p.Name),(vS u0)] [3] [(3,[],vB (p.Name == u0))] [rA b1 0 (vS p.Name),rA b_u0 0 (vS u0)] H5 (by kernel_rfl) ⟨((hS.bk 0 rfl).at1 rfl),((hS.ro 3 rfl).at1 rfl),trivial⟩ fun _ _ H7 hb => ?_
 replace hS:=hS.below hb
 replace hS : SH M X w [] _:=hS.sel [] rfl
 apply w_ret
 subst hm
 exact retR1 H7 rfl rfl ⟨_,rfl,rfl,(hS.sel [] rfl)⟩
theorem props_Find_1_ok {g_p_0 : Gh} {g_p_1 : Gh} {b_u0 : Nat} (p : TProp) (u0 : Str) (w : World) (hL : S0 F0 [eI tS p.Words g_p_0,eI (tI .u8) p.Kinds g_p_1,Ent.ro b_u0 [vS u0]] w ∧ fpl [eI tS p.Words g_p_0,eI (tI .u8) p.Kinds g_p_1,Ent.ro b_u0 [vS u0]] = []) : RetB Tryz.prog 55 ⟨[vG [vS p.Name,vB p.Inherited,vU p.Initial.Kind,vS p.Initial.Word,vI p.Initial.Num,vU p.Initial.Color.Red,vU p.Initial.Color.Green,vU p.Initial.Color.Blue,vU p.Initial.Color.Alpha,vL g_p_0 p.Words,vL g_p_1 p.Kinds,vB p.Least],vP b_u0]⟩ (vB (props_Find_1 p u0)) w:=retB_of hL (Tryz.call55 _) (fun w' h => props_Find_1_w F0   p u0 _ rfl w' h)

theorem slices_IndexFunc_api_Prop_api_Prop_w {g_s : Gh} {b_f_c0 : Nat} (M : Av) (m : Nat) (s : List TProp) (f_c0 : Str) (r : Int) (hm : slices_IndexFunc_api_Prop_api_Prop m s f_c0 = some r) (w : World) (hS : S0 M [eI tyProp s g_s,Ent.ro b_f_c0 [vS f_c0]] w) : Calls Tryz.prog 53 ⟨[vL g_s s,.func (.func 55) ⟨[]⟩ ⟨[vP b_f_c0]⟩]⟩ w (fun e w' => ∃ v,e = .returned v ∧ v = vI r ∧ SH M (fpl [eI tyProp s g_s,Ent.ro b_f_c0 [vS f_c0]]) w [] w'):=by
 rw [slices_IndexFunc_api_Prop_api_Prop] at hm
 have hS0 : SH M (fpl [eI tyProp s g_s,Ent.ro b_f_c0 [vS f_c0]]) w [eI tyProp s g_s,Ent.ro b_f_c0 [vS f_c0]] w:=hS
 generalize hX : fpl [eI tyProp s g_s,Ent.ro b_f_c0 [vS f_c0]] = X at hS0 ⊢
 clear hS hX
 have hS:=hS0
 clear hS0
 refine calls_entryP Tryz.func53 rfl Tryz.ntmps53 rfl fun _ H => ?_
 refine s_reg [] [0,1] (fS [0,1] [vL g_s s,.func (.func 55) ⟨[]⟩ ⟨[vP b_f_c0]⟩]) [] H (by kernel_rfl) trivial fun _ _ H2 hb => ?_
 replace hS:=hS.below hb
 obtain ⟨z3,hz,hm_z3⟩:=bindE hm
 refine w_cut (fun a' w' => ∃ s_z3 : Unit,z3 = Sum.inr s_z3 ∧ Fr 19 [] a' ∧ SH M X w [eI tyProp s g_s,Ent.ro b_f_c0 [vS f_c0]] w') ?_ ?_
 ·replace hm:=hz
  refine s_reg [] [0,1,7,8] (fS [0,1,7,8] [vL g_s s,.func (.func 55) ⟨[]⟩ ⟨[vP b_f_c0]⟩,vI (ln s),vI 0]) [] H2 (by kernel_rfl) trivial fun _ _ H5 hb => ?_
  replace hS:=hS.below hb
  apply w_block
  refine w_loop (fun kk a' w' => ∃ (v6 : Int),slices_IndexFunc_api_Prop_api_Prop_L1 m s f_c0 kk v6 = some _ ∧ Fr 19 (fS [0,1,7,8] [vL g_s s,.func (.func 55) ⟨[]⟩ ⟨[vP b_f_c0]⟩,vI (ln s),vI v6]) a' ∧ SH M X w [eI tyProp s g_s,Ent.ro b_f_c0 [vS f_c0]] w') ⟨_,0,hm,FrG.keep (ks:=[0,1,7,8]) H5 (by kernel_rfl),hS⟩ ?_
  clear hm H5 hS
  rintro kk _ _ ⟨v6,hm,H,hS⟩
  cases kk with
  | zero => exact noneE hm
  | succ kk =>
   rw [slices_IndexFunc_api_Prop_api_Prop_L1] at hm
   refine s_reg [] [0,1,7,8,9] (fS [0,1,7,8,9] [vL g_s s,.func (.func 55) ⟨[]⟩ ⟨[vP b_f_c0]⟩,vI (ln s),vI v6,vB (decide (v6 < (ln s)))]) [] H (by kernel_rfl) trivial fun _ _ H8 hb => ?_
   replace hS:=hS.below hb
   apply w_seq
   refine w_if H8 rfl (fun hc => ?_) (fun hc => ?c19)
   case c19 =>
    replace hm:=bF hc hm
    apply w_exit rfl
    obtain rfl:=someE hm
    exact ⟨_,rfl,FrG.keep (ks:=[]) H8 (by kernel_rfl),hS⟩
   replace hm:=bT hc hm
   apply w_skip
   apply w_seq
   apply w_block
   refine s_reg [] [0,1,5,7,8] (fS [0,1,5,7,8] [vL g_s s,.func (.func 55) ⟨[]⟩ ⟨[vP b_f_c0]⟩,vI v6,vI (ln s),vI v6]) [] H8 (by kernel_rfl) trivial fun _ _ H10 hb => ?_
   replace hS:=hS.below hb
   obtain ⟨ho11,hm⟩:=chkE hm
   refine s_reg [(vG [vS (gi s v6).Name,vB ((gi s v6).Inherited),vU ((gi s v6).Initial.Kind),vS (gi s v6).Initial.Word,vI ((gi s v6).Initial.Num),vU ((gi s v6).Initial.Color.Red),vU ((gi s v6).Initial.Color.Green),vU ((gi s v6).Initial.Color.Blue),vU ((gi s v6).Initial.Color.Alpha),.slice (g_s.s (v6).toNat 0).a (((gi s v6).Words).length) (g_s.s (v6).toNat 0).c,.slice (g_s.s (v6).toNat 1).a (((gi s v6).Kinds).length) (g_s.s (v6).toNat 1).c,vB ((gi s v6).Least)]),(vB (props_Find_1 (gi s v6) f_c0))] [0,1,5,7,8,16] (fS [0,1,5,7,8,16] [vL g_s s,.func (.func 55) ⟨[]⟩ ⟨[vP b_f_c0]⟩,vI v6,vI (ln s),vI v6,vB (props_Find_1 (gi s v6) f_c0)]) [fun _ => oka g_s.a ∧ 0 ≤ v6 ∧ v6 < ln s,fun wz => V.atN (ab g_s.a) (ao g_s.a + (v6).toNat * 12) [vS (gi s v6).Name,vB ((gi s v6).Inherited),vU ((gi s v6).Initial.Kind),vS (gi s v6).Initial.Word,vI ((gi s v6).Initial.Num),vU ((gi s v6).Initial.Color.Red),vU ((gi s v6).Initial.Color.Green),vU ((gi s v6).Initial.Color.Blue),vU ((gi s v6).Initial.Color.Alpha),.slice (g_s.s (v6).toNat 0).a (((gi s v6).Words).length) (g_s.s (v6).toNat 0).c,.slice (g_s.s (v6).toNat 1).a (((gi s v6).Kinds).length) (g_s.s (v6).toNat 1).c,vB ((gi s v6).Least)] 0 wz,rB 55 [vG [vS (gi s v6).Name,vB ((gi s v6).Inherited),vU ((gi s v6).Initial.Kind),vS (gi s v6).Initial.Word,vI ((gi s v6).Initial.Num),vU ((gi s v6).Initial.Color.Red),vU ((gi s v6).Initial.Color.Green),vU ((gi s v6).Initial.Color.Blue),vU ((gi s v6).Initial.Color.Alpha),.slice (g_s.s (v6).toNat 0).a (((gi s v6).Words).length) (g_s.s (v6).toNat 0).c,.slice (g_s.s (v6).toNat 1).a (((gi s v6).Kinds).length) (g_s.s (v6).toNat 1).c,vB ((gi s v6).Least)],vP b_f_c0] (vB (props_Find_1 (gi s v6) f_c0))] H10 (by kernel_rfl) ⟨((hS.im 0 rfl).oki ho11),((hS.im 0 rfl).atA ho11 0 rfl),(props_Find_1_ok (g_p_0:=(g_s.s (v6).toNat 0)) (g_p_1:=(g_s.s (v6).toNat 1)) (b_u0:=b_f_c0) _ _ _ (s0im (s0im (s0ro s0nil (hS.ro 1 rfl)) (tyProp_i1 ((hS.im 0 rfl).el ho11))) (tyProp_i0 ((hS.im 0 rfl).el ho11)))),trivial⟩ fun _ _ H13 hb => ?_
   replace hS:=hS.below hb
   refine w_if H13 rfl (fun hc => ?_) (fun hc => ?c18)
   case c18 =>
    replace hm:=bF hc hm
    apply w_skip
    refine w_reg [] [0,1,7,8] (fS [0,1,7,8] [vL g_s s,.func (.func 55) ⟨[]⟩ ⟨[vP b_f_c0]⟩,vI (ln s),vI (w64 (v6 + 1))]) [] H13 (by kernel_rfl) trivial fun _ _ H17 hb => ?_
    replace hS:=hS.below hb
    exact ⟨_,Nat.lt_succ_self _,w64 (v6 + 1),hm,FrG.keep (ks:=[0,1,7,8]) H17 (by kernel_rfl),hS⟩
   replace hm:=bT hc hm
   refine s_reg [] [4] [(4,[],vI v6)] [] H13 (by kernel_rfl) trivial fun _ _ H15 hb => ?_
   replace hS:=hS.below hb
   apply w_ret
   obtain rfl:=someE hm
   have hm:=hm_z3
   obtain rfl:=someE hm
   exact retR1 H15 rfl rfl ⟨_,rfl,rfl,(hS.sel [] rfl)⟩
 ·rintro _ _ ⟨s_z3,hz,H,hS⟩
  subst hz
  replace hm:=sumR hm_z3
  replace hS : SH M X w [] _:=hS.sel [] rfl
  refine s_reg [] [4] [(4,[],vI (-1))] [] H (by kernel_rfl) trivial fun _ _ H22 hb => ?_
  replace hS:=hS.below hb
  apply w_ret
  obtain rfl:=someE hm
  exact retR1 H22 rfl rfl ⟨_,rfl,rfl,(hS.sel [] rfl)⟩
theorem slices_IndexFunc_api_Prop_api_Prop_ok {g_s : Gh} {b_f_c0 : Nat} (m : Nat) (s : List TProp) (f_c0 : Str) (r : Int) (hm : slices_IndexFunc_api_Prop_api_Prop m s f_c0 = some r) (w : World) (hL : S0 F0 [eI tyProp s g_s,Ent.ro b_f_c0 [vS f_c0]] w ∧ fpl [eI tyProp s g_s,Ent.ro b_f_c0 [vS f_c0]] = []) : RetB Tryz.prog 53 ⟨[vL g_s s,.func (.func 55) ⟨[]⟩ ⟨[vP b_f_c0]⟩]⟩ (vI r) w:=retB_of hL (Tryz.call53 _) (fun w' h => slices_IndexFunc_api_Prop_api_Prop_w F0 m   s f_c0 r hm w' h)

theorem props_Find_w  (M : Av) (m : Nat) (name_ : Str) (r : Int × Int) (hm : props_Find m name_ = some r) (w : World) (hS : S0 M [gE0] w) : Calls Tryz.prog 27 ⟨[vS name_]⟩ w (fun e w' => ∃ v,e = .returned v ∧ v = vW [vI r.1,vI r.2] ∧ SH M (fpl [gE0]) w [] w'):=by
 rw [props_Find] at hm
 have hS0 : SH M (fpl [gE0]) w [gE0] w:=hS
 generalize hX : fpl [gE0] = X at hS0 ⊢
 clear hS hX
 have hS:=hS0
 clear hS0
 refine calls_entryP Tryz.func27 rfl Tryz.ntmps27 rfl fun _ H => ?_
 apply w_seq
 apply wl_start
 have hd:=hS.hand [] [0] rfl rfl
 refine m_stp [1] [] H rfl rfl rfl rfl (o_box [vS name_] H hd rfl rfl) (fun _ => rfl) fun _ _ v H3 hq => ?_
 obtain ⟨b1,rfl,hq⟩:=hq
 replace hS : SH M X w [eB b1 [vS name_],gE0] _:=hS.join [] [0] rfl rfl hq
 refine wl_batch 1 3 [] [1] [(1,[],vP b1)] [] H3 (by decide) (by kernel_rfl) trivial fun _ _ H5 hb => ?_
 replace hS:=hS.below hb
 apply wl_end rfl
 apply w_seq
 apply wl_start
 obtain ⟨y6,hy6,hm⟩:=bindE hm
 have hd:=hS.hand [1] [0,1] rfl rfl
 refine m_stp [5,1] [(1,[],vP b1)] H5 rfl rfl rfl rfl (o_callx H5 rfl rfl (props_Table_ok m _ hy6 _ _ hd)) (fun _ => rfl) fun _ _ v H10 hq => ?_
 obtain ⟨g7,rfl,hq⟩:=hq
 replace hS : SH M X w [eO 100 tyProp y6 g7,eB b1 [vS name_],gE0] _:=hS.join [1] [0,1] rfl rfl hq
 obtain ⟨y11,hy11,hm⟩:=bindE hm
 refine wl_batch 1 4 [(vI y11)] [4] [(4,[],vI y11)] [rB 53 [vL g7 y6,.func (.func 55) ⟨[]⟩ ⟨[vP b1]⟩] (vI y11)] H10 (by decide) (by kernel_rfl) ⟨(slices_IndexFunc_api_Prop_api_Prop_ok (g_s:=g7) (b_f_c0:=b1) m _ _ _ hy11 _ (s0im (s0ro s0nil (hS.bk 1 rfl)) (hS.osl 0 rfl))),trivial⟩ fun _ _ H13 hb => ?_
 replace hS:=hS.below hb
 apply wl_end rfl
 replace hS : SH M X w [gE0] _:=hS.sel [2] rfl
 apply w_seq
 refine s_reg [] [4,9] (fS [4,9] [vI y11,vB (decide (y11 < 0))]) [] H13 (by kernel_rfl) trivial fun _ _ H15 hb => ?_
 replace hS:=hS.below hb
 refine w_if H15 rfl (fun hc => ?c20) (fun hc => ?_)
 case c20 =>
  replace hm:=bT hc hm
  refine s_reg [] [2,3] (fS [2,3] [vI 0,vI 6]) [] H15 (by kernel_rfl) trivial fun _ _ H17 hb => ?_
  replace hS:=hS.below hb
  apply w_ret
  obtain rfl:=someE hm
  exact retR2 H17 rfl rfl rfl ⟨_,rfl,rfl,(hS.sel [] rfl)⟩
 replace hm:=bF hc hm
 apply w_skip
 refine s_reg [] [2,3] (fS [2,3] [vI y11,vI 0]) [] H15 (by kernel_rfl) trivial fun _ _ H19 hb => ?_
 replace hS:=hS.below hb
 apply w_ret
 obtain rfl:=someE hm
 exact retR2 H19 rfl rfl rfl ⟨_,rfl,rfl,(hS.sel [] rfl)⟩
theorem props_Find_ok  (m : Nat) (name_ : Str) (r : Int × Int) (hm : props_Find m name_ = some r) (w : World) (hL : S0 F0 [gE0] w ∧ fpl [gE0] = []) : RetB Tryz.prog 27 ⟨[vS name_]⟩ (vW [vI r.1,vI r.2]) w:=retB_of hL (Tryz.call27 _) (fun w' h => props_Find_w F0 m   name_ r hm w' h)

theorem props_Inherited_w  (M : Av) (m : Nat) (name_ : Str) (r : Bool × Int) (hm : props_Inherited m name_ = some r) (w : World) (hS : S0 M [gE0] w) : Calls Tryz.prog 31 ⟨[vS name_]⟩ w (fun e w' => ∃ v,e = .returned v ∧ v = vW [vB r.1,vI r.2] ∧ SH M (fpl [gE0]) w [] w'):=by
 rw [props_Inherited] at hm
 have hS0 : SH M (fpl [gE0]) w [gE0] w:=hS
 generalize hX : fpl [gE0] = X at hS0 ⊢
 clear hS hX
 have hS:=hS0
 clear hS0
 refine calls_entryP Tryz.func31 rfl Tryz.ntmps31 rfl fun _ H => ?_
 refine s_reg [] [0] [(0,[],vS name_)] [] H (by kernel_rfl) trivial fun _ _ H2 hb => ?_
 replace hS:=hS.below hb
 apply w_seq
 obtain ⟨y3,hy3,hm⟩:=bindE hm
 refine s_reg [(vB y3)] [0,7] (fS [0,7] [vS name_,vB y3]) [rB 26 [vS name_] (vB y3)] H2 (by kernel_rfl) ⟨((props_Custom_ok _ _ hy3).b),trivial⟩ fun _ _ H5 hb => ?_
 replace hS:=hS.below hb
 refine w_if H5 rfl (fun hc => ?c24) (fun hc => ?_)
 case c24 =>
  replace hm:=bT hc hm
  refine s_reg [] [2,3] (fS [2,3] [vT,vI 0]) [] H5 (by kernel_rfl) trivial fun _ _ H7 hb => ?_
  replace hS:=hS.below hb
  apply w_ret
  obtain rfl:=someE hm
  exact retR2 H7 rfl rfl rfl ⟨_,rfl,rfl,(hS.sel [] rfl)⟩
 replace hm:=bF hc hm
 apply w_skip
 obtain ⟨y8,hy8,hm⟩:=bindE hm
 refine s_reg [(vW [vI y8.1,vI y8.2])] [4,5] (fS [4,5] [vI y8.1,vI y8.2]) [rB 27 [vS name_] (vW [vI y8.1,vI y8.2])] H5 (by kernel_rfl) ⟨(props_Find_ok 64 _ _ hy8 _ (s0im s0nil (hS.im 0 rfl))),trivial⟩ fun _ _ H10 hb => ?_
 replace hS:=hS.below hb
 apply w_seq
 refine s_reg [] [4,5,14] (fS [4,5,14] [vI y8.1,vI y8.2,vB (y8.2 != 0)]) [] H10 (by kernel_rfl) trivial fun _ _ H12 hb => ?_
 replace hS:=hS.below hb
 refine w_if H12 rfl (fun hc => ?c23) (fun hc => ?_)
 case c23 =>
  replace hm:=bT hc hm
  refine s_reg [] [2,3] (fS [2,3] [vF,vI y8.2]) [] H12 (by kernel_rfl) trivial fun _ _ H14 hb => ?_
  replace hS:=hS.below hb
  apply w_ret
  obtain rfl:=someE hm
  exact retR2 H14 rfl rfl rfl ⟨_,rfl,rfl,(hS.sel [] rfl)⟩
 replace hm:=bF hc hm
 apply w_skip
 apply w_seq
 apply wl_start
 obtain ⟨y15,hy15,hm⟩:=bindE hm
 have hd:=hS.hand [0] [0] rfl rfl
 refine m_stp [16,4] [(4,[],vI y8.1)] H12 rfl rfl rfl rfl (o_callx H12 rfl rfl (props_Table_ok m _ hy15 _ _ hd)) (fun _ => rfl) fun _ _ v H19 hq => ?_
 obtain ⟨g16,rfl,hq⟩:=hq
 replace hS : SH M X w [eO 100 tyProp y15 g16,gE0] _:=hS.join [0] [0] rfl rfl hq
 obtain ⟨ho20,hm⟩:=chkE hm
 refine wl_batch 1 7 [(vB ((gi y15 y8.1).Inherited))] [2,3] (fS [2,3] [vB ((gi y15 y8.1).Inherited),vI 0]) [fun _ => oka g16.a ∧ 0 ≤ y8.1 ∧ y8.1 < ln y15,fun wz => V.at1 ⟨ab g16.a,ao g16.a + (y8.1).toNat * 12 + 1,none⟩ (vB ((gi y15 y8.1).Inherited)) wz] H19 (by decide) (by kernel_rfl) ⟨((hS.osl 0 rfl).oki ho20),((hS.osl 0 rfl).at1 ho20 1 rfl),trivial⟩ fun _ _ H22 hb => ?_
 replace hS:=hS.below hb
 apply wl_end rfl
 replace hS : SH M X w [gE0] _:=hS.sel [1] rfl
 apply w_ret
 obtain rfl:=someE hm
 exact retR2 H22 rfl rfl rfl ⟨_,rfl,rfl,(hS.sel [] rfl)⟩
theorem props_Inherited_ok  (m : Nat) (name_ : Str) (r : Bool × Int) (hm : props_Inherited m name_ = some r) (w : World) (hL : S0 F0 [gE0] w ∧ fpl [gE0] = []) : RetB Tryz.prog 31 ⟨[vS name_]⟩ (vW [vB r.1,vI r.2]) w:=retB_of hL (Tryz.call31 _) (fun w' h => props_Inherited_w F0 m   name_ r hm w' h)

theorem short_Longs_w  (M : Av) (m : Nat) (name_ : Str) (r : (List Str) × Int) (hm : short_Longs m name_ = some r) (w : World) (hS : S0 M [gE0] w) : Calls Tryz.prog 9 ⟨[vS name_]⟩ w (fun e w' => ∃ v,e = .returned v ∧ ∃ (g901 : Gh),v = vW [vL g901 r.1,vI r.2] ∧ SH M (fpl [gE0]) w [eO 9 tS r.1 g901] w'):=by
 rw [short_Longs] at hm
 have hS0 : SH M (fpl [gE0]) w [gE0] w:=hS
 generalize hX : fpl [gE0] = X at hS0 ⊢
 clear hS hX
 have hS:=hS0
 clear hS0
 refine calls_entryP Tryz.func9 rfl Tryz.ntmps9 rfl fun _ H => ?_
 refine s_reg [] [0] [(0,[],vS name_)] [] H (by kernel_rfl) trivial fun _ _ H2 hb => ?_
 replace hS:=hS.below hb
 apply w_seq
 apply w_seq
 apply wl_start
 refine wl_batch 0 1 [] [0,7] (fS [0,7] [vS name_,vS name_]) [] H2 (by decide) (by kernel_rfl) trivial fun _ _ H4 hb => ?_
 replace hS:=hS.below hb
 obtain ⟨y5,hy5,hm⟩:=bindE hm
 have hd:=hS.hand [] [0] rfl rfl
 refine m_stp [8,0] [(0,[],vS name_)] H4 rfl rfl rfl rfl (o_callx H4 rfl rfl (short_of_ok 64 _ _ hy5 _ _ hd)) (fun _ => rfl) fun _ _ v H9 hq => ?_
 obtain ⟨g6,rfl,hq⟩:=hq
 replace hS : SH M X w [eO 9 tS y5 g6,gE0] _:=hS.join [] [0] rfl rfl hq
 refine wl_batch 2 3 [] [0,4] (fS [0,4] [vS name_,vL g6 y5]) [] H9 (by decide) (by kernel_rfl) trivial fun _ _ H11 hb => ?_
 replace hS:=hS.below hb
 apply wl_end rfl
 refine s_reg [] [0,4,11] (fS [0,4,11] [vS name_,vL g6 y5,vB (decide (0 < (ln y5)))]) [] H11 (by kernel_rfl) trivial fun _ _ H13 hb => ?_
 replace hS:=hS.below hb
 refine w_if H13 rfl (fun hc => ?c33) (fun hc => ?_)
 case c33 =>
  replace hm:=bT hc hm
  refine s_reg [] [2,3] (fS [2,3] [vL g6 y5,vI 0]) [] H13 (by kernel_rfl) trivial fun _ _ H15 hb => ?_
  replace hS:=hS.below hb
  apply w_ret
  obtain rfl:=someE hm
  exact retR2 H15 rfl rfl rfl ⟨_,rfl,g6,rfl,(hS.sel [0] rfl)⟩
 replace hm:=bF hc hm
 apply w_skip
 apply w_seq
 obtain ⟨y16,hy16,hm⟩:=bindE hm
 refine s_reg [(vW [vB y16.1,vI y16.2])] [0,6] (fS [0,6] [vS name_,vI y16.2]) [rB 31 [vS name_] (vW [vB y16.1,vI y16.2])] H13 (by kernel_rfl) ⟨(props_Inherited_ok 64 _ _ hy16 _ (s0im s0nil (hS.im 1 rfl))),trivial⟩ fun _ _ H18 hb => ?_
 replace hS:=hS.below hb
 replace hS : SH M X w [gE0] _:=hS.sel [1] rfl
 refine s_reg [] [0,6,19] (fS [0,6,19] [vS name_,vI y16.2,vB (y16.2 != 0)]) [] H18 (by kernel_rfl) trivial fun _ _ H20 hb => ?_
 replace hS:=hS.below hb
 refine w_if H20 rfl (fun hc => ?c32) (fun hc => ?_)
 case c32 =>
  replace hm:=bT hc hm
  refine s_reg [] [2,3] (fS [2,3] [vO,vI y16.2]) [] H20 (by kernel_rfl) trivial fun _ _ H22 hb => ?_
  replace hS:=hS.below hb
  apply w_ret
  obtain rfl:=someE hm
  replace hS : SH M X w [eO 9 tS ([] : List Str) (.nil),gE0] _:=hS.addNil 9 tS
  exact retR2 H22 rfl rfl rfl ⟨_,rfl,Gh.nil,rfl,(hS.sel [0] rfl)⟩
 replace hm:=bF hc hm
 apply w_skip
 apply w_seq
 apply wl_start
 refine wl_batch 0 1 [] [21] [(21,[],vS name_)] [] H20 (by decide) (by kernel_rfl) trivial fun _ _ H25 hb => ?_
 replace hS:=hS.below hb
 have hd:=hS.hand [] [0] rfl rfl
 refine m_stp [22] [] H25 rfl rfl rfl rfl (o_lit (T:=tS) (E:=9) (zv:=vN) [vS name_] ([name_] : List Str) [gL []] _ H25 hd rfl (by kernel_rfl) (by kernel_rfl) (by kernel_rfl) (by kernel_rfl) (by kernel_rfl) (by kernel_rfl) (by kernel_rfl) rfl (InnL.cons trivial InnL.nil)) (fun _ => rfl) fun _ _ v H29 hq => ?_
 obtain ⟨g26,rfl,hq⟩:=hq
 replace hS : SH M X w [eO 9 tS ([name_] : List Str) g26,gE0] _:=hS.join [] [0] rfl rfl hq
 refine wl_batch 2 4 [] [2,3] (fS [2,3] [vK g26 1,vI 0]) [] H29 (by decide) (by kernel_rfl) trivial fun _ _ H31 hb => ?_
 replace hS:=hS.below hb
 apply wl_end rfl
 apply w_ret
 obtain rfl:=someE hm
 exact retR2 H31 rfl rfl rfl ⟨_,rfl,g26,rfl,(hS.sel [0] rfl)⟩
theorem short_Longs_ok  (m : Nat) (name_ : Str) (r : (List Str) × Int) (hm : short_Longs m name_ = some r) (M : Av) (w : World) (hS : S0 M [gE0] w) : DoesX Tryz.prog 9 ⟨[vS name_]⟩ w (fun v w' => ∃ (g901 : Gh),v = vW [vL g901 r.1,vI r.2] ∧ SH M (fpl [gE0]) w [eO 9 tS r.1 g901] w'):=⟨Tryz.call9 _,short_Longs_w M m   name_ r hm w hS⟩

theorem short_small_w  (M : Av) (m : Nat) (s : Str) (r : Str) (hm : short_small m s = some r) (w : World) (hS : S0 M [] w) : Calls Tryz.prog 45 ⟨[vS s]⟩ w (fun e w' => ∃ v,e = .returned v ∧ v = vS r ∧ SH M (fpl []) w [] w'):=by
 rw [short_small] at hm
 have hS0 : SH M (fpl []) w [] w:=hS
 generalize hX : fpl [] = X at hS0 ⊢
 clear hS hX
 have hS:=hS0
 clear hS0
 refine calls_entryP Tryz.func45 rfl Tryz.ntmps45 rfl fun _ H => ?_
 refine s_reg [] [0] [(0,[],vS s)] [] H (by kernel_rfl) trivial fun _ _ H2 hb => ?_
 replace hS:=hS.below hb
 apply w_seq
 apply wl_start
 refine wl_batch 0 1 [] [6] [(6,[],vS s)] [] H2 (by decide) (by kernel_rfl) trivial fun _ _ H4 hb => ?_
 replace hS:=hS.below hb
 have hd:=hS.hand [] [] rfl rfl
 refine m_stp [7] [] H4 rfl rfl rfl rfl (o_bytes (E:=5) H4 hd rfl (by kernel_rfl) (by kernel_rfl) (by kernel_rfl)) (fun _ => rfl) fun _ _ v H8 hq => ?_
 obtain ⟨b5,c6,rfl,hc_b5,hq⟩:=hq
 replace hS : SH M X w [Ent.row .u8 b5 (ofB s) (ln (ofB s))] _:=hS.join [] [] rfl rfl hq
 refine wl_batch 2 3 [] [3] [(3,[],.slice (some ⟨b5,0,none⟩) ((ofB s).length) c6)] [] H8 (by decide) (by kernel_rfl) trivial fun _ _ H10 hb => ?_
 replace hS:=hS.below hb
 apply wl_end rfl
 obtain ⟨z11,hz,hm⟩:=bindE hm
 refine w_cut (fun a' w' => Fr 30 [(3,[],.slice (some ⟨b5,0,none⟩) ((ofB s).length) c6)] a' ∧ SH M X w [Ent.row .u8 b5 z11 (ln (ofB s))] w') ?_ ?_
 ·replace hm:=hz
  refine s_reg [] [3,8,9,10] (fS [3,8,9,10] [.slice (some ⟨b5,0,none⟩) ((ofB s).length) c6,.slice (some ⟨b5,0,none⟩) ((ofB s).length) c6,vI (ln (ofB s)),vI 0]) [] H10 (by kernel_rfl) trivial fun _ _ H13 hb => ?_
  replace hS:=hS.below hb
  apply w_block
  refine w_loop (fun kk a' w' => ∃ (v14 : Int) (v15 : List Int),short_small_L1 m s kk v14 v15 = some _ ∧ Fr 30 (fS [3,8,9,10] [.slice (some ⟨b5,0,none⟩) ((ofB s).length) c6,.slice (some ⟨b5,0,none⟩) ((ofB s).length) c6,vI (ln (ofB s)),vI v14]) a' ∧ SH M X w [Ent.row .u8 b5 v15 (ln (ofB s))] w') ⟨_,0,ofB s,hm,FrG.keep (ks:=[3,8,9,10]) H13 (by kernel_rfl),hS⟩ ?_
  clear hm H13 hS
  rintro kk _ _ ⟨v14,v15,hm,H,hS⟩
  cases kk with
  | zero => exact noneE hm
  | succ kk =>
   rw [short_small_L1] at hm
   refine s_reg [] [3,8,9,10,11] (fS [3,8,9,10,11] [.slice (some ⟨b5,0,none⟩) ((ofB s).length) c6,.slice (some ⟨b5,0,none⟩) ((ofB s).length) c6,vI (ln (ofB s)),vI v14,vB (decide (v14 < (ln (ofB s))))]) [] H (by kernel_rfl) trivial fun _ _ H17 hb => ?_
   replace hS:=hS.below hb
   apply w_seq
   refine w_if H17 rfl (fun hc => ?_) (fun hc => ?c34)
   case c34 =>
    replace hm:=bF hc hm
    apply w_exit rfl
    obtain rfl:=someE hm
    exact ⟨FrG.keep (ks:=[3]) H17 (by kernel_rfl),hS⟩
   replace hm:=bT hc hm
   apply w_skip
   obtain ⟨z18,hz,hm⟩:=bindE hm
   refine w_cut (fun a' w' => Fr 30 (fS [3,8,9,10] [.slice (some ⟨b5,0,none⟩) ((ofB s).length) c6,.slice (some ⟨b5,0,none⟩) ((ofB s).length) c6,vI (ln (ofB s)),vI v14]) a' ∧ SH M X w [Ent.row .u8 b5 z18 (ln (ofB s))] w') ?_ ?_
   ·replace hm:=hz
    apply w_block
    obtain ⟨ho19,hm⟩:=chkE hm
    refine s_reg [(vU (gi v15 v14))] [3,4,5,8,9,10] (fS [3,4,5,8,9,10] [.slice (some ⟨b5,0,none⟩) ((ofB s).length) c6,vI v14,vU (gi v15 v14),.slice (some ⟨b5,0,none⟩) ((ofB s).length) c6,vI (ln (ofB s)),vI v14]) [fun _ => oka (some ⟨b5,0,none⟩) ∧ 0 ≤ v14 ∧ v14 < ln (ofB s),fun wz => V.at1 ⟨b5,0 + (v14).toNat * 1,none⟩ (vU (gi v15 v14)) wz] H17 (by kernel_rfl) ⟨(⟨rfl,ho19⟩),(Rw.ixn (hS.rw 0 rfl) ho19),trivial⟩ fun _ _ H21 hb => ?_
    replace hS:=hS.below hb
    obtain ⟨x22,hx22,hm⟩:=letE hm
    refine s_reg [] [3,4,5,8,9,10,20] (fS [3,4,5,8,9,10,20] [.slice (some ⟨b5,0,none⟩) ((ofB s).length) c6,vI v14,vU (gi v15 v14),.slice (some ⟨b5,0,none⟩) ((ofB s).length) c6,vI (ln (ofB s)),vI v14,vB x22]) [] H21 (by subst hx22; kernel_rfl) trivial fun _ _ H24 hb => ?_
    replace hS:=hS.below hb
    refine w_if H24 rfl (fun hc => ?_) (fun hc => ?c30)
    case c30 =>
     replace hm:=bF hc hm
     apply w_skip
     obtain rfl:=someE hm
     exact ⟨FrG.keep (ks:=[3,8,9,10]) H24 (by kernel_rfl),hS⟩
    replace hm:=bT hc hm
    apply wl_start
    refine wl_batch 0 6 [] [3,8,9,10,25,26] (fS [3,8,9,10,25,26] [.slice (some ⟨b5,0,none⟩) ((ofB s).length) c6,.slice (some ⟨b5,0,none⟩) ((ofB s).length) c6,vI (ln (ofB s)),vI v14,vU (wu8 ((wu8 ((gi v15 v14) + 97)) - 65)),.pointer (some ⟨b5,0 + (v14).toNat * 1,none⟩)]) [fun _ => oka (some ⟨b5,0,none⟩) ∧ 0 ≤ v14 ∧ v14 < ln (ofB s)] H24 (by decide) (by kernel_rfl) ⟨(⟨rfl,ho19⟩),trivial⟩ fun _ _ H26 hb => ?_
    replace hS:=hS.below hb
    have hd:=hS.hand [0] [] rfl rfl
    refine m_stp0 [3,8,9,10] (fS [3,8,9,10] [.slice (some ⟨b5,0,none⟩) ((ofB s).length) c6,.slice (some ⟨b5,0,none⟩) ((ofB s).length) c6,vI (ln (ofB s)),vI v14]) H26 rfl rfl rfl (o_rstore H26 hd rfl rfl (by kernel_rfl) ho19) rfl fun _ _ H28 hq => ?_
    obtain ⟨_,hq⟩:=hq
    obtain ⟨q29,hq29,hm⟩:=letE hm
    rw [← hq29] at hq
    replace hS : SH M X w [Ent.row .u8 b5 q29 (ln (ofB s))] _:=hS.join [0] [] rfl rfl hq
    apply wl_end rfl
    obtain rfl:=someE hm
    exact ⟨FrG.keep (ks:=[3,8,9,10]) H28 (by kernel_rfl),hS⟩
   ·rintro _ _ ⟨H,hS⟩
    refine w_reg [] [3,8,9,10] (fS [3,8,9,10] [.slice (some ⟨b5,0,none⟩) ((ofB s).length) c6,.slice (some ⟨b5,0,none⟩) ((ofB s).length) c6,vI (ln (ofB s)),vI (w64 (v14 + 1))]) [] H (by kernel_rfl) trivial fun _ _ H32 hb => ?_
    replace hS:=hS.below hb
    exact ⟨_,Nat.lt_succ_self _,w64 (v14 + 1),z18,hm,FrG.keep (ks:=[3,8,9,10]) H32 (by kernel_rfl),hS⟩
 ·rintro _ _ ⟨H,hS⟩
  refine s_reg [(vS (toB z11))] [2] [(2,[],vS (toB z11))] [fun wz => ∀ w',Below wz.heap.size wz w' → (convert 98 9 (.slice (some ⟨b5,0,none⟩) ((ofB s).length) c6)).run Tryz.prog w' = .ok (vS (toB z11)) w'] H (by kernel_rfl) ⟨(conv_row (E:=5) (by kernel_rfl) (by kernel_rfl) (by kernel_rfl) (hS.rw 0 rfl).1 (hS.rw 0 rfl).2),trivial⟩ fun _ _ H37 hb => ?_
  replace hS:=hS.below hb
  replace hS : SH M X w [] _:=hS.sel [] rfl
  apply w_ret
  obtain rfl:=someE hm
  exact retR1 H37 rfl rfl ⟨_,rfl,rfl,(hS.sel [] rfl)⟩
theorem short_small_ok  (m : Nat) (s : Str) (r : Str) (hm : short_small m s = some r) : Ret Tryz.prog 45 ⟨[vS s]⟩ (vS r):=retP_of (Tryz.call45 _) (fun w h => short_small_w F0 m   s r hm w h)

def short_Var_S (rec_ : (List TValue) → Option (Bool)) : Prop:=∀ (g_l_ : Gh) (M : Av) (l_ : List TValue) (r : Bool),rec_ l_ = some r → ∀ w,S0 M [eI tyValue l_ g_l_] w → Calls Tryz.prog 18 ⟨[vL g_l_ l_]⟩ w (fun e w' => ∃ v,e = .returned v ∧ v = vB r ∧ SH M (fpl [eI tyValue l_ g_l_]) w [] w')
theorem short_Var_1_w {g_v__0 : Gh} (M : Av) (m : Nat) (rec_short_Var : (List TValue) → Option (Bool)) (hrec_short_Var : short_Var_S rec_short_Var) (v_ : TValue) (r : Bool) (hm : short_Var_1 m rec_short_Var v_ = some r) (w : World) (hS : S0 M [eI tyValue v_.List_ g_v__0] w) : Calls Tryz.prog 44 ⟨[vG [vU v_.Token.Kind,vS v_.Token.Text,vI v_.Token.Num,vS v_.Token.Unit,vB v_.Token.Flag,vL g_v__0 v_.List_]]⟩ w (fun e w' => ∃ v,e = .returned v ∧ v = vB r ∧ SH M (fpl [eI tyValue v_.List_ g_v__0]) w [] w'):=by
 rw [short_Var_1] at hm
 have hS0 : SH M (fpl [eI tyValue v_.List_ g_v__0]) w [eI tyValue v_.List_ g_v__0] w:=hS
 generalize hX : fpl [eI tyValue v_.List_ g_v__0] = X at hS0 ⊢
 clear hS hX
 have hS:=hS0
 clear hS0
 refine calls_entryP Tryz.func44 rfl Tryz.ntmps44 rfl fun _ H => ?_
 apply w_seq
 apply wl_start
 have hd:=hS.hand [] [0] rfl rfl
 refine m_stp [1] [] H rfl rfl rfl rfl (o_box [vU v_.Token.Kind,vS v_.Token.Text,vI v_.Token.Num,vS v_.Token.Unit,vB v_.Token.Flag,vL g_v__0 v_.List_] H hd rfl rfl) (fun _ => rfl) fun _ _ v H3 hq => ?_
 obtain ⟨b1,rfl,hq⟩:=hq
 replace hS : SH M X w [eB b1 [vU v_.Token.Kind,vS v_.Token.Text,vI v_.Token.Num,vS v_.Token.Unit,vB v_.Token.Flag,vL g_v__0 v_.List_],eI tyValue v_.List_ g_v__0] _:=hS.join [] [0] rfl rfl hq
 refine wl_batch 1 2 [] [1] [(1,[],vP b1)] [] H3 (by decide) (by kernel_rfl) trivial fun _ _ H5 hb => ?_
 replace hS:=hS.below hb
 apply wl_end rfl
 obtain ⟨y6,hy6,hm⟩:=bindE hm
 obtain ⟨x7,hx7,hm⟩:=letE hm
 obtain ⟨y8,hy8,hm⟩:=bindE hm
 refine s_reg [(vU v_.Token.Kind),(vS v_.Token.Text),(vS y6),(vL g_v__0 v_.List_),(vB y8)] [2] [(2,[],vB (cond x7 true y8))] [rA b1 0 (vU v_.Token.Kind),fun wz => ((v_.Token.Kind == 2) = true ∧ True → V.at1 ⟨b1,1,none⟩ (vS v_.Token.Text) wz),fun wz => ((v_.Token.Kind == 2) = true ∧ True → RetB Tryz.prog 45 ⟨[vS v_.Token.Text]⟩ (vS y6) wz),fun wz => (x7 = false ∧ True → V.at1 ⟨b1,5,none⟩ (vL g_v__0 v_.List_) wz),fun wz => (x7 = false ∧ True → RetB Tryz.prog 18 ⟨[vL g_v__0 v_.List_]⟩ (vB y8) wz)] H5 (by subst hx7; kernel_rfl) ⟨((hS.bk 0 rfl).at1 rfl),fun hg => (hS.bk 0 rfl).at1 rfl,fun hg => (short_small_ok m _ _ (bT (hg.1) hy6)).b,fun hg => (hS.bk 0 rfl).at1 rfl,fun hg => retB_of (s0im s0nil (hS.im 1 rfl)) (Tryz.call18 _) (fun w' h' => hrec_short_Var (g_v__0) F0 _ _ (bF (hg.1) hy8) w' h'),trivial⟩ fun _ _ H10 hb => ?_
 replace hS:=hS.below hb
 replace hS : SH M X w [] _:=hS.sel [] rfl
 apply w_ret
 obtain rfl:=someE hm
 exact retR1 H10 rfl rfl ⟨_,rfl,rfl,(hS.sel [] rfl)⟩
theorem short_Var_1_ok {g_v__0 : Gh} (m : Nat) (rec_short_Var : (List TValue) → Option (Bool)) (hrec_short_Var : short_Var_S rec_short_Var) (v_ : TValue) (r : Bool) (hm : short_Var_1 m rec_short_Var v_ = some r) (w : World) (hL : S0 F0 [eI tyValue v_.List_ g_v__0] w ∧ fpl [eI tyValue v_.List_ g_v__0] = []) : RetB Tryz.prog 44 ⟨[vG [vU v_.Token.Kind,vS v_.Token.Text,vI v_.Token.Num,vS v_.Token.Unit,vB v_.Token.Flag,vL g_v__0 v_.List_]]⟩ (vB r) w:=retB_of hL (Tryz.call44 _) (fun w' h => short_Var_1_w F0 m rec_short_Var hrec_short_Var v_ r hm w' h)
theorem slices_IndexFunc_api_Value_api_Value_w {g_s : Gh} (M : Av) (m : Nat) (rec_short_Var : (List TValue) → Option (Bool)) (hrec_short_Var : short_Var_S rec_short_Var) (s : List TValue) (r : Int) (hm : slices_IndexFunc_api_Value_api_Value m rec_short_Var s = some r) (w : World) (hS : S0 M [eI tyValue s g_s] w) : Calls Tryz.prog 67 ⟨[vL g_s s,.func (.func 44) ⟨[]⟩ ⟨[]⟩]⟩ w (fun e w' => ∃ v,e = .returned v ∧ v = vI r ∧ SH M (fpl [eI tyValue s g_s]) w [] w'):=by
 rw [slices_IndexFunc_api_Value_api_Value] at hm
 have hS0 : SH M (fpl [eI tyValue s g_s]) w [eI tyValue s g_s] w:=hS
 generalize hX : fpl [eI tyValue s g_s] = X at hS0 ⊢
 clear hS hX
 have hS:=hS0
 clear hS0
 refine calls_entryP Tryz.func67 rfl Tryz.ntmps67 rfl fun _ H => ?_
 refine s_reg [] [0,1] (fS [0,1] [vL g_s s,.func (.func 44) ⟨[]⟩ ⟨[]⟩]) [] H (by kernel_rfl) trivial fun _ _ H2 hb => ?_
 replace hS:=hS.below hb
 obtain ⟨z3,hz,hm_z3⟩:=bindE hm
 refine w_cut (fun a' w' => ∃ s_z3 : Unit,z3 = Sum.inr s_z3 ∧ Fr 19 [] a' ∧ SH M X w [eI tyValue s g_s] w') ?_ ?_
 ·replace hm:=hz
  refine s_reg [] [0,1,7,8] (fS [0,1,7,8] [vL g_s s,.func (.func 44) ⟨[]⟩ ⟨[]⟩,vI (ln s),vI 0]) [] H2 (by kernel_rfl) trivial fun _ _ H5 hb => ?_
  replace hS:=hS.below hb
  apply w_block
  refine w_loop (fun kk a' w' => ∃ (v6 : Int),slices_IndexFunc_api_Value_api_Value_L1 m rec_short_Var s kk v6 = some _ ∧ Fr 19 (fS [0,1,7,8] [vL g_s s,.func (.func 44) ⟨[]⟩ ⟨[]⟩,vI (ln s),vI v6]) a' ∧ SH M X w [eI tyValue s g_s] w') ⟨_,0,hm,FrG.keep (ks:=[0,1,7,8]) H5 (by kernel_rfl),hS⟩ ?_
  clear hm H5 hS
  rintro kk _ _ ⟨v6,hm,H,hS⟩
  cases kk with
  | zero => exact noneE hm
  | succ kk =>
   rw [slices_IndexFunc_api_Value_api_Value_L1] at hm
   refine s_reg [] [0,1,7,8,9] (fS [0,1,7,8,9] [vL g_s s,.func (.func 44) ⟨[]⟩ ⟨[]⟩,vI (ln s),vI v6,vB (decide (v6 < (ln s)))]) [] H (by kernel_rfl) trivial fun _ _ H8 hb => ?_
   replace hS:=hS.below hb
   apply w_seq
   refine w_if H8 rfl (fun hc => ?_) (fun hc => ?c20)
   case c20 =>
    replace hm:=bF hc hm
    apply w_exit rfl
    obtain rfl:=someE hm
    exact ⟨_,rfl,FrG.keep (ks:=[]) H8 (by kernel_rfl),hS⟩
   replace hm:=bT hc hm
   apply w_skip
   apply w_seq
   apply w_block
   refine s_reg [] [0,1,5,7,8] (fS [0,1,5,7,8] [vL g_s s,.func (.func 44) ⟨[]⟩ ⟨[]⟩,vI v6,vI (ln s),vI v6]) [] H8 (by kernel_rfl) trivial fun _ _ H10 hb => ?_
   replace hS:=hS.below hb
   obtain ⟨ho11,hm⟩:=chkE hm
   obtain ⟨y12,hy12,hm⟩:=bindE hm
   refine s_reg [(vG [vU ((gi s v6).Token.Kind),vS (gi s v6).Token.Text,vI ((gi s v6).Token.Num),vS (gi s v6).Token.Unit,vB ((gi s v6).Token.Flag),.slice (g_s.s (v6).toNat 0).a (((gi s v6).List_).length) (g_s.s (v6).toNat 0).c]),(vB y12)] [0,1,5,7,8,16] (fS [0,1,5,7,8,16] [vL g_s s,.func (.func 44) ⟨[]⟩ ⟨[]⟩,vI v6,vI (ln s),vI v6,vB y12]) [fun _ => oka g_s.a ∧ 0 ≤ v6 ∧ v6 < ln s,fun wz => V.atN (ab g_s.a) (ao g_s.a + (v6).toNat * 6) [vU ((gi s v6).Token.Kind),vS (gi s v6).Token.Text,vI ((gi s v6).Token.Num),vS (gi s v6).Token.Unit,vB ((gi s v6).Token.Flag),.slice (g_s.s (v6).toNat 0).a (((gi s v6).List_).length) (g_s.s (v6).toNat 0).c] 0 wz,rB 44 [vG [vU ((gi s v6).Token.Kind),vS (gi s v6).Token.Text,vI ((gi s v6).Token.Num),vS (gi s v6).Token.Unit,vB ((gi s v6).Token.Flag),.slice (g_s.s (v6).toNat 0).a (((gi s v6).List_).length) (g_s.s (v6).toNat 0).c]] (vB y12)] H10 (by kernel_rfl) ⟨((hS.im 0 rfl).oki ho11),((hS.im 0 rfl).atA ho11 0 rfl),(short_Var_1_ok (g_v__0:=(g_s.s (v6).toNat 0)) m _ hrec_short_Var _ _ hy12 _ (s0im s0nil (tyValue_i0 ((hS.im 0 rfl).el ho11)))),trivial⟩ fun _ _ H14 hb => ?_
   replace hS:=hS.below hb
   refine w_if H14 rfl (fun hc => ?_) (fun hc => ?c19)
   case c19 =>
    replace hm:=bF hc hm
    apply w_skip
    refine w_reg [] [0,1,7,8] (fS [0,1,7,8] [vL g_s s,.func (.func 44) ⟨[]⟩ ⟨[]⟩,vI (ln s),vI (w64 (v6 + 1))]) [] H14 (by kernel_rfl) trivial fun _ _ H18 hb => ?_
    replace hS:=hS.below hb
    exact ⟨_,Nat.lt_succ_self _,w64 (v6 + 1),hm,FrG.keep (ks:=[0,1,7,8]) H18 (by kernel_rfl),hS⟩
   replace hm:=bT hc hm
   refine s_reg [] [4] [(4,[],vI v6)] [] H14 (by kernel_rfl) trivial fun _ _ H16 hb => ?_
   replace hS:=hS.below hb
   apply w_ret
   obtain rfl:=someE hm
   have hm:=hm_z3
   obtain rfl:=someE hm
   exact retR1 H16 rfl rfl ⟨_,rfl,rfl,(hS.sel [] rfl)⟩
 ·rintro _ _ ⟨s_z3,hz,H,hS⟩
  subst hz
  replace hm:=sumR hm_z3
  replace hS : SH M X w [] _:=hS.sel [] rfl
  refine s_reg [] [4] [(4,[],vI (-1))] [] H (by kernel_rfl) trivial fun _ _ H23 hb => ?_
  replace hS:=hS.below hb
  apply w_ret
  obtain rfl:=someE hm
  exact retR1 H23 rfl rfl ⟨_,rfl,rfl,(hS.sel [] rfl)⟩
theorem slices_IndexFunc_api_Value_api_Value_ok {g_s : Gh} (m : Nat) (rec_short_Var : (List TValue) → Option (Bool)) (hrec_short_Var : short_Var_S rec_short_Var) (s : List TValue) (r : Int) (hm : slices_IndexFunc_api_Value_api_Value m rec_short_Var s = some r) (w : World) (hL : S0 F0 [eI tyValue s g_s] w ∧ fpl [eI tyValue s g_s] = []) : RetB Tryz.prog 67 ⟨[vL g_s s,.func (.func 44) ⟨[]⟩ ⟨[]⟩]⟩ (vI r) w:=retB_of hL (Tryz.call67 _) (fun w' h => slices_IndexFunc_api_Value_api_Value_w F0 m rec_short_Var hrec_short_Var s r hm w' h)
theorem slices_ContainsFunc_api_Value_api_Value_w {g_s : Gh} (M : Av) (m : Nat) (rec_short_Var : (List TValue) → Option (Bool)) (hrec_short_Var : short_Var_S rec_short_Var) (s : List TValue) (r : Bool) (hm : slices_ContainsFunc_api_Value_api_Value m rec_short_Var s = some r) (w : World) (hS : S0 M [eI tyValue s g_s] w) : Calls Tryz.prog 43 ⟨[vL g_s s,.func (.func 44) ⟨[]⟩ ⟨[]⟩]⟩ w (fun e w' => ∃ v,e = .returned v ∧ v = vB r ∧ SH M (fpl [eI tyValue s g_s]) w [] w'):=by
 rw [slices_ContainsFunc_api_Value_api_Value] at hm
 have hS0 : SH M (fpl [eI tyValue s g_s]) w [eI tyValue s g_s] w:=hS
 generalize hX : fpl [eI tyValue s g_s] = X at hS0 ⊢
 clear hS hX
 have hS:=hS0
 clear hS0
 refine calls_entryP Tryz.func43 rfl Tryz.ntmps43 rfl fun _ H => ?_
 refine s_reg [] [0,1] (fS [0,1] [vL g_s s,.func (.func 44) ⟨[]⟩ ⟨[]⟩]) [] H (by kernel_rfl) trivial fun _ _ H2 hb => ?_
 replace hS:=hS.below hb
 obtain ⟨y3,hy3,hm⟩:=bindE hm
 refine s_reg [(vI y3)] [4] [(4,[],vB (decide (0 ≤ y3)))] [rB 67 [vL g_s s,.func (.func 44) ⟨[]⟩ ⟨[]⟩] (vI y3)] H2 (by kernel_rfl) ⟨(slices_IndexFunc_api_Value_api_Value_ok (g_s:=g_s) m _ hrec_short_Var _ _ hy3 _ (s0im s0nil (hS.im 0 rfl))),trivial⟩ fun _ _ H5 hb => ?_
 replace hS:=hS.below hb
 replace hS : SH M X w [] _:=hS.sel [] rfl
 apply w_ret
 obtain rfl:=someE hm
 exact retR1 H5 rfl rfl ⟨_,rfl,rfl,(hS.sel [] rfl)⟩
theorem slices_ContainsFunc_api_Value_api_Value_ok {g_s : Gh} (m : Nat) (rec_short_Var : (List TValue) → Option (Bool)) (hrec_short_Var : short_Var_S rec_short_Var) (s : List TValue) (r : Bool) (hm : slices_ContainsFunc_api_Value_api_Value m rec_short_Var s = some r) (w : World) (hL : S0 F0 [eI tyValue s g_s] w ∧ fpl [eI tyValue s g_s] = []) : RetB Tryz.prog 43 ⟨[vL g_s s,.func (.func 44) ⟨[]⟩ ⟨[]⟩]⟩ (vB r) w:=retB_of hL (Tryz.call43 _) (fun w' h => slices_ContainsFunc_api_Value_api_Value_w F0 m rec_short_Var hrec_short_Var s r hm w' h)
theorem short_Var_w (m : Nat) : ∀ (k : Nat),short_Var_S (short_Var_r m  k):=by
 intro k
 induction k with
 | zero => intro g_l_ M l_ r hm; exact noneE hm
 | succ k ih =>
  intro g_l_ M l_ r hm w hS
  rw [short_Var_r] at hm
  have hS0 : SH M (fpl [eI tyValue l_ g_l_]) w [eI tyValue l_ g_l_] w:=hS
  generalize hX : fpl [eI tyValue l_ g_l_] = X at hS0 ⊢
  clear hS hX
  have hS:=hS0
  clear hS0
  refine calls_entryP Tryz.func18 rfl Tryz.ntmps18 rfl fun _ H => ?_
  refine s_reg [] [0] [(0,[],vL g_l_ l_)] [] H (by kernel_rfl) trivial fun _ _ H2 hb => ?_
  replace hS:=hS.below hb
  obtain ⟨y3,hy3,hm⟩:=bindE hm
  refine s_reg [(vB y3)] [2] [(2,[],vB y3)] [rB 43 [vL g_l_ l_,.func (.func 44) ⟨[]⟩ ⟨[]⟩] (vB y3)] H2 (by kernel_rfl) ⟨(slices_ContainsFunc_api_Value_api_Value_ok (g_s:=g_l_) m _ ih _ _ hy3 _ (s0im s0nil (hS.im 0 rfl))),trivial⟩ fun _ _ H5 hb => ?_
  replace hS:=hS.below hb
  replace hS : SH M X w [] _:=hS.sel [] rfl
  apply w_ret
  obtain rfl:=someE hm
  exact retR1 H5 rfl rfl ⟨_,rfl,rfl,(hS.sel [] rfl)⟩
theorem short_Var_ok {g_l_ : Gh} (m : Nat) (l_ : List TValue) (r : Bool) (hm : short_Var m l_ = some r) (w : World) (hL : S0 F0 [eI tyValue l_ g_l_] w ∧ fpl [eI tyValue l_ g_l_] = []) : RetB Tryz.prog 18 ⟨[vL g_l_ l_]⟩ (vB r) w:=retB_of hL (Tryz.call18 _) (fun w' h => short_Var_w m   m g_l_ F0 l_ r hm w' h)

theorem short_Wide_w {g_l_ : Gh} (M : Av) (m : Nat) (l_ : List TValue) (r : Str) (hm : short_Wide m l_ = some r) (w : World) (hS : S0 M [eI tyValue l_ g_l_] w) : Calls Tryz.prog 25 ⟨[vL g_l_ l_]⟩ w (fun e w' => ∃ v,e = .returned v ∧ v = vS r ∧ SH M (fpl [eI tyValue l_ g_l_]) w [] w'):=by
 rw [short_Wide] at hm
 have hS0 : SH M (fpl [eI tyValue l_ g_l_]) w [eI tyValue l_ g_l_] w:=hS
 generalize hX : fpl [eI tyValue l_ g_l_] = X at hS0 ⊢
 clear hS hX
 have hS:=hS0
 clear hS0
 refine calls_entryP Tryz.func25 rfl Tryz.ntmps25 rfl fun _ H => ?_
 refine s_reg [] [0] [(0,[],vL g_l_ l_)] [] H (by kernel_rfl) trivial fun _ _ H2 hb => ?_
 replace hS:=hS.below hb
 obtain ⟨z3,hz,hm_z3⟩:=bindE hm
 refine w_cut (fun a' w' => ∃ s_z3 : Unit,z3 = Sum.inr s_z3 ∧ Fr 25 [] a' ∧ SH M X w [eI tyValue l_ g_l_] w') ?_ ?_
 ·replace hm:=hz
  obtain ⟨ho4,hm⟩:=chkE hm
  obtain ⟨x5,hx5,hm⟩:=letE hm
  refine s_reg [(vU ((gi l_ (0 : Int)).Token.Kind))] [0,14] (fS [0,14] [vL g_l_ l_,vB x5]) [fun _ => (((ln l_) == 1) = true ∧ True → oka g_l_.a ∧ 0 ≤ (0 : Int) ∧ (0 : Int) < ln l_),fun wz => (((ln l_) == 1) = true ∧ True → V.at1 ⟨ab g_l_.a,ao g_l_.a + ((0 : Int)).toNat * 6,none⟩ (vU ((gi l_ (0 : Int)).Token.Kind)) wz)] H2 (by subst hx5; kernel_rfl) ⟨fun hg => (hS.im 0 rfl).oki (ho4 hg.1),fun hg => (hS.im 0 rfl).at1 (ho4 hg.1) 0 rfl,trivial⟩ fun _ _ H7 hb => ?_
  replace hS:=hS.below hb
  refine w_if H7 rfl (fun hc => ?_) (fun hc => ?c22)
  case c22 =>
   replace hm:=bF hc hm
   apply w_skip
   obtain rfl:=someE hm
   exact ⟨_,rfl,FrG.keep (ks:=[]) H7 (by kernel_rfl),hS⟩
  replace hm:=bT hc hm
  obtain ⟨ho8,hm⟩:=chkE hm
  obtain ⟨y9,hy9,hm⟩:=bindE hm
  refine s_reg [(vS (gi l_ (0 : Int)).Token.Text),(vS y9)] [3] [(3,[],vS y9)] [fun _ => oka g_l_.a ∧ 0 ≤ (0 : Int) ∧ (0 : Int) < ln l_,fun wz => V.at1 ⟨ab g_l_.a,ao g_l_.a + ((0 : Int)).toNat * 6 + 1,none⟩ (vS (gi l_ (0 : Int)).Token.Text) wz,rB 45 [vS (gi l_ (0 : Int)).Token.Text] (vS y9)] H7 (by kernel_rfl) ⟨((hS.im 0 rfl).oki ho8),((hS.im 0 rfl).at1 ho8 1 rfl),((short_small_ok m _ _ hy9).b),trivial⟩ fun _ _ H11 hb => ?_
  replace hS:=hS.below hb
  apply w_seq
  apply wl_start
  have hd:=hS.hand [] [0] rfl rfl
  refine m_stp [21,3] [(3,[],vS y9)] H11 rfl rfl rfl rfl (o_lit (T:=tS) (E:=9) (zv:=vN) [vS [105,110,105,116,105,97,108],vS [105,110,104,101,114,105,116],vS [117,110,115,101,116],vS [114,101,118,101,114,116]] kL20 [gL [],gL [],gL [],gL []] _ H11 hd rfl (by kernel_rfl) (by kernel_rfl) (by kernel_rfl) (by kernel_rfl) (by kernel_rfl) (by kernel_rfl) (by kernel_rfl) rfl (InnL.cons trivial (InnL.cons trivial (InnL.cons trivial (InnL.cons trivial InnL.nil))))) (fun _ => rfl) fun _ _ v H15 hq => ?_
  obtain ⟨g12,rfl,hq⟩:=hq
  replace hS : SH M X w [eO 9 tS kL20 g12,eI tyValue l_ g_l_] _:=hS.join [] [0] rfl rfl hq
  obtain ⟨y16,hy16,hm⟩:=bindE hm
  refine wl_batch 1 3 [(vB y16)] [3,23] (fS [3,23] [vS y9,vB y16]) [rB 51 [vK g12 4,vS y9] (vB y16)] H15 (by decide) (by kernel_rfl) ⟨(slices_Contains_string_string_ok (g_s:=g12) 64 _ _ _ hy16 _ (s0im s0nil (hS.osl 0 rfl))),trivial⟩ fun _ _ H18 hb => ?_
  replace hS:=hS.below hb
  apply wl_end rfl
  replace hS : SH M X w [eI tyValue l_ g_l_] _:=hS.sel [1] rfl
  refine w_if H18 rfl (fun hc => ?_) (fun hc => ?c21)
  case c21 =>
   replace hm:=bF hc hm
   apply w_skip
   obtain rfl:=someE hm
   exact ⟨_,rfl,FrG.keep (ks:=[]) H18 (by kernel_rfl),hS⟩
  replace hm:=bT hc hm
  refine s_reg [] [2] [(2,[],vS y9)] [] H18 (by kernel_rfl) trivial fun _ _ H20 hb => ?_
  replace hS:=hS.below hb
  apply w_ret
  obtain rfl:=someE hm
  have hm:=hm_z3
  obtain rfl:=someE hm
  exact retR1 H20 rfl rfl ⟨_,rfl,rfl,(hS.sel [] rfl)⟩
 ·rintro _ _ ⟨s_z3,hz,H,hS⟩
  subst hz
  replace hm:=sumR hm_z3
  replace hS : SH M X w [] _:=hS.sel [] rfl
  refine s_reg [] [2] [(2,[],vN)] [] H (by kernel_rfl) trivial fun _ _ H24 hb => ?_
  replace hS:=hS.below hb
  apply w_ret
  obtain rfl:=someE hm
  exact retR1 H24 rfl rfl ⟨_,rfl,rfl,(hS.sel [] rfl)⟩
theorem short_Wide_ok {g_l_ : Gh} (m : Nat) (l_ : List TValue) (r : Str) (hm : short_Wide m l_ = some r) (w : World) (hL : S0 F0 [eI tyValue l_ g_l_] w ∧ fpl [eI tyValue l_ g_l_] = []) : RetB Tryz.prog 25 ⟨[vL g_l_ l_]⟩ (vS r) w:=retB_of hL (Tryz.call25 _) (fun w' h => short_Wide_w F0 m   l_ r hm w' h)

theorem parseval_opaque_w  (M : Av) (r_ : Int) (g_ : Int) (b_ : Int) (r : TColor) (hm : parseval_opaque r_ g_ b_ = r) (w : World) (hS : S0 M [] w) : Calls Tryz.prog 97 ⟨[vU r_,vU g_,vU b_]⟩ w (fun e w' => ∃ v,e = .returned v ∧ v = vG (cC r) ∧ SH M (fpl []) w [] w'):=by
 rw [parseval_opaque] at hm
 have hS0 : SH M (fpl []) w [] w:=hS
 generalize hX : fpl [] = X at hS0 ⊢
 clear hS hX
 have hS:=hS0
 clear hS0
 refine calls_entryP Tryz.func97 rfl Tryz.ntmps97 rfl fun _ H => ?_
 apply w_seq
 apply wl_start
 have hd:=hS.hand [] [] rfl rfl
 refine m_stp [6,0,1,2] (fS [0,1,2] [vU r_,vU g_,vU b_]) H rfl rfl rfl rfl (o_alloc [vU 0,vU 0,vU 0,vU 0] (z:=vG [vU 0,vU 0,vU 0,vU 0]) hd (by kernel_rfl) rfl) (fun _ => rfl) fun _ _ v H3 hq => ?_
 obtain ⟨b1,rfl,hq⟩:=hq
 replace hS : SH M X w [eB b1 [vU 0,vU 0,vU 0,vU 0]] _:=hS.join [] [] rfl rfl hq
 apply wl_end rfl
 apply w_seq
 apply wl_start
 refine wl_batch 0 4 [] [6,10] (fS [6,10] [vP b1,vG [vU r_,vU g_,vU b_,vU 255]]) [] H3 (by decide) (by kernel_rfl) trivial fun _ _ H5 hb => ?_
 replace hS:=hS.below hb
 have hd:=hS.hand [0] [] rfl rfl
 refine m_stp0 [6] [(6,[],vP b1)] H5 rfl rfl rfl (o_store [vU r_,vU g_,vU b_,vU 255] H5 hd rfl rfl (by kernel_rfl) rfl rfl rfl) rfl fun _ _ H7 hq => ?_
 obtain ⟨_,hq⟩:=hq
 replace hS : SH M X w [eB b1 [vU r_,vU g_,vU b_,vU 255]] _:=hS.join [0] [] rfl rfl hq
 apply wl_end rfl
 apply w_ret
 subst hm
 exact retR1 H7 rfl (oneRes_agg rfl (hS.bk 0 rfl) Tryz.underlying55 rfl (by kernel_rfl)) ⟨_,rfl,rfl,(hS.sel [] rfl)⟩
theorem parseval_opaque_ok  (r_ : Int) (g_ : Int) (b_ : Int) : Ret Tryz.prog 97 ⟨[vU r_,vU g_,vU b_]⟩ (vG (cC (parseval_opaque r_ g_ b_))):=retP_of (Tryz.call97 _) (fun w h => parseval_opaque_w F0   r_ g_ b_ _ rfl w h)

theorem parseval_small_w  (M : Av) (m : Nat) (s : Str) (r : Str) (hm : parseval_small m s = some r) (w : World) (hS : S0 M [] w) : Calls Tryz.prog 69 ⟨[vS s]⟩ w (fun e w' => ∃ v,e = .returned v ∧ v = vS r ∧ SH M (fpl []) w [] w'):=by
 rw [parseval_small] at hm
 have hS0 : SH M (fpl []) w [] w:=hS
 generalize hX : fpl [] = X at hS0 ⊢
 clear hS hX
 have hS:=hS0
 clear hS0
 refine calls_entryP Tryz.func69 rfl Tryz.ntmps69 rfl fun _ H => ?_
 refine s_reg [] [0] [(0,[],vS s)] [] H (by kernel_rfl) trivial fun _ _ H2 hb => ?_
 replace hS:=hS.below hb
 apply w_seq
 apply wl_start
 refine wl_batch 0 1 [] [6] [(6,[],vS s)] [] H2 (by decide) (by kernel_rfl) trivial fun _ _ H4 hb => ?_
 replace hS:=hS.below hb
 have hd:=hS.hand [] [] rfl rfl
 refine m_stp [7] [] H4 rfl rfl rfl rfl (o_bytes (E:=5) H4 hd rfl (by kernel_rfl) (by kernel_rfl) (by kernel_rfl)) (fun _ => rfl) fun _ _ v H8 hq => ?_
 obtain ⟨b5,c6,rfl,hc_b5,hq⟩:=hq
 replace hS : SH M X w [Ent.row .u8 b5 (ofB s) (ln (ofB s))] _:=hS.join [] [] rfl rfl hq
 refine wl_batch 2 3 [] [3] [(3,[],.slice (some ⟨b5,0,none⟩) ((ofB s).length) c6)] [] H8 (by decide) (by kernel_rfl) trivial fun _ _ H10 hb => ?_
 replace hS:=hS.below hb
 apply wl_end rfl
 obtain ⟨z11,hz,hm⟩:=bindE hm
 refine w_cut (fun a' w' => Fr 30 [(3,[],.slice (some ⟨b5,0,none⟩) ((ofB s).length) c6)] a' ∧ SH M X w [Ent.row .u8 b5 z11 (ln (ofB s))] w') ?_ ?_
 ·replace hm:=hz
  refine s_reg [] [3,8,9,10] (fS [3,8,9,10] [.slice (some ⟨b5,0,none⟩) ((ofB s).length) c6,.slice (some ⟨b5,0,none⟩) ((ofB s).length) c6,vI (ln (ofB s)),vI 0]) [] H10 (by kernel_rfl) trivial fun _ _ H13 hb => ?_
  replace hS:=hS.below hb
  apply w_block
  refine w_loop (fun kk a' w' => ∃ (v14 : Int) (v15 : List Int),parseval_small_L1 m s kk v14 v15 = some _ ∧ Fr 30 (fS [3,8,9,10] [.slice (some ⟨b5,0,none⟩) ((ofB s).length) c6,.slice (some ⟨b5,0,none⟩) ((ofB s).length) c6,vI (ln (ofB s)),vI v14]) a' ∧ SH M X w [Ent.row .u8 b5 v15 (ln (ofB s))] w') ⟨_,0,ofB s,hm,FrG.keep (ks:=[3,8,9,10]) H13 (by kernel_rfl),hS⟩ ?_
  clear hm H13 hS
  rintro kk _ _ ⟨v14,v15,hm,H,hS⟩
  cases kk with
  | zero => exact noneE hm
  | succ kk =>
   rw [parseval_small_L1] at hm
   refine s_reg [] [3,8,9,10,11] (fS [3,8,9,10,11] [.slice (some ⟨b5,0,none⟩) ((ofB s).length) c6,.slice (some ⟨b5,0,none⟩) ((ofB s).length) c6,vI (ln (ofB s)),vI v14,vB (decide (v14 < (ln (ofB s))))]) [] H (by kernel_rfl) trivial fun _ _ H17 hb => ?_
   replace hS:=hS.below hb
   apply w_seq
   refine w_if H17 rfl (fun hc => ?_) (fun hc => ?c34)
   case c34 =>
    replace hm:=bF hc hm
    apply w_exit rfl
    obtain rfl:=someE hm
    exact ⟨FrG.keep (ks:=[3]) H17 (by kernel_rfl),hS⟩
   replace hm:=bT hc hm
   apply w_skip
   obtain ⟨z18,hz,hm⟩:=bindE hm
   refine w_cut (fun a' w' => Fr 30 (fS [3,8,9,10] [.slice (some ⟨b5,0,none⟩) ((ofB s).length) c6,.slice (some ⟨b5,0,none⟩) ((ofB s).length) c6,vI (ln (ofB s)),vI v14]) a' ∧ SH M X w [Ent.row .u8 b5 z18 (ln (ofB s))] w') ?_ ?_
   ·replace hm:=hz
    apply w_block
    obtain ⟨ho19,hm⟩:=chkE hm
    refine s_reg [(vU (gi v15 v14))] [3,4,5,8,9,10] (fS [3,4,5,8,9,10] [.slice (some ⟨b5,0,none⟩) ((ofB s).length) c6,vI v14,vU (gi v15 v14),.slice (some ⟨b5,0,none⟩) ((ofB s).length) c6,vI (ln (ofB s)),vI v14]) [fun _ => oka (some ⟨b5,0,none⟩) ∧ 0 ≤ v14 ∧ v14 < ln (ofB s),fun wz => V.at1 ⟨b5,0 + (v14).toNat * 1,none⟩ (vU (gi v15 v14)) wz] H17 (by kernel_rfl) ⟨(⟨rfl,ho19⟩),(Rw.ixn (hS.rw 0 rfl) ho19),trivial⟩ fun _ _ H21 hb => ?_
    replace hS:=hS.below hb
    obtain ⟨x22,hx22,hm⟩:=letE hm
    refine s_reg [] [3,4,5,8,9,10,20] (fS [3,4,5,8,9,10,20] [.slice (some ⟨b5,0,none⟩) ((ofB s).length) c6,vI v14,vU (gi v15 v14),.slice (some ⟨b5,0,none⟩) ((ofB s).length) c6,vI (ln (ofB s)),vI v14,vB x22]) [] H21 (by subst hx22; kernel_rfl) trivial fun _ _ H24 hb => ?_
    replace hS:=hS.below hb
    refine w_if H24 rfl (fun hc => ?_) (fun hc => ?c30)
    case c30 =>
     replace hm:=bF hc hm
     apply w_skip
     obtain rfl:=someE hm
     exact ⟨FrG.keep (ks:=[3,8,9,10]) H24 (by kernel_rfl),hS⟩
    replace hm:=bT hc hm
    apply wl_start
    refine wl_batch 0 6 [] [3,8,9,10,25,26] (fS [3,8,9,10,25,26] [.slice (some ⟨b5,0,none⟩) ((ofB s).length) c6,.slice (some ⟨b5,0,none⟩) ((ofB s).length) c6,vI (ln (ofB s)),vI v14,vU (wu8 ((wu8 ((gi v15 v14) + 97)) - 65)),.pointer (some ⟨b5,0 + (v14).toNat * 1,none⟩)]) [fun _ => oka (some ⟨b5,0,none⟩) ∧ 0 ≤ v14 ∧ v14 < ln (ofB s)] H24 (by decide) (by kernel_rfl) ⟨(⟨rfl,ho19⟩),trivial⟩ fun _ _ H26 hb => ?_
    replace hS:=hS.below hb
    have hd:=hS.hand [0] [] rfl rfl
    refine m_stp0 [3,8,9,10] (fS [3,8,9,10] [.slice (some ⟨b5,0,none⟩) ((ofB s).length) c6,.slice (some ⟨b5,0,none⟩) ((ofB s).length) c6,vI (ln (ofB s)),vI v14]) H26 rfl rfl rfl (o_rstore H26 hd rfl rfl (by kernel_rfl) ho19) rfl fun _ _ H28 hq => ?_
    obtain ⟨_,hq⟩:=hq
    obtain ⟨q29,hq29,hm⟩:=letE hm
    rw [← hq29] at hq
    replace hS : SH M X w [Ent.row .u8 b5 q29 (ln (ofB s))] _:=hS.join [0] [] rfl rfl hq
    apply wl_end rfl
    obtain rfl:=someE hm
    exact ⟨FrG.keep (ks:=[3,8,9,10]) H28 (by kernel_rfl),hS⟩
   ·rintro _ _ ⟨H,hS⟩
    refine w_reg [] [3,8,9,10] (fS [3,8,9,10] [.slice (some ⟨b5,0,none⟩) ((ofB s).length) c6,.slice (some ⟨b5,0,none⟩) ((ofB s).length) c6,vI (ln (ofB s)),vI (w64 (v14 + 1))]) [] H (by kernel_rfl) trivial fun _ _ H32 hb => ?_
    replace hS:=hS.below hb
    exact ⟨_,Nat.lt_succ_self _,w64 (v14 + 1),z18,hm,FrG.keep (ks:=[3,8,9,10]) H32 (by kernel_rfl),hS⟩
 ·rintro _ _ ⟨H,hS⟩
  refine s_reg [(vS (toB z11))] [2] [(2,[],vS (toB z11))] [fun wz => ∀ w',Below wz.heap.size wz w' → (convert 98 9 (.slice (some ⟨b5,0,none⟩) ((ofB s).length) c6)).run Tryz.prog w' = .ok (vS (toB z11)) w'] H (by kernel_rfl) ⟨(conv_row (E:=5) (by kernel_rfl) (by kernel_rfl) (by kernel_rfl) (hS.rw 0 rfl).1 (hS.rw 0 rfl).2),trivial⟩ fun _ _ H37 hb => ?_
  replace hS:=hS.below hb
  replace hS : SH M X w [] _:=hS.sel [] rfl
  apply w_ret
  obtain rfl:=someE hm
  exact retR1 H37 rfl rfl ⟨_,rfl,rfl,(hS.sel [] rfl)⟩
theorem parseval_small_ok  (m : Nat) (s : Str) (r : Str) (hm : parseval_small m s = some r) : Ret Tryz.prog 69 ⟨[vS s]⟩ (vS r):=retP_of (Tryz.call69 _) (fun w h => parseval_small_w F0 m   s r hm w h)

theorem parseval_Named_w  (M : Av) (m : Nat) (name_ : Str) (r : TColor × Int) (hm : parseval_Named m name_ = some r) (w : World) (hS : S0 M [] w) : Calls Tryz.prog 86 ⟨[vS name_]⟩ w (fun e w' => ∃ v,e = .returned v ∧ v = vW [vG (cC r.1),vI r.2] ∧ SH M (fpl []) w [] w'):=by
 rw [parseval_Named] at hm
 have hS0 : SH M (fpl []) w [] w:=hS
 generalize hX : fpl [] = X at hS0 ⊢
 clear hS hX
 have hS:=hS0
 clear hS0
 refine calls_entryP Tryz.func86 rfl Tryz.ntmps86 rfl fun _ H => ?_
 apply w_seq
 apply wl_start
 have hd:=hS.hand [] [] rfl rfl
 refine m_stp [2,0] [(0,[],vS name_)] H rfl rfl rfl rfl (o_alloc [vU 0,vU 0,vU 0,vU 0] (z:=vG [vU 0,vU 0,vU 0,vU 0]) hd (by kernel_rfl) rfl) (fun _ => rfl) fun _ _ v H3 hq => ?_
 obtain ⟨b1,rfl,hq⟩:=hq
 replace hS : SH M X w [eB b1 [vU 0,vU 0,vU 0,vU 0]] _:=hS.join [] [] rfl rfl hq
 refine wl_batch 1 2 [] [0,2] (fS [0,2] [vS name_,vP b1]) [] H3 (by decide) (by kernel_rfl) trivial fun _ _ H5 hb => ?_
 replace hS:=hS.below hb
 apply wl_end rfl
 apply w_seq
 apply wl_start
 have hd:=hS.hand [] [0] rfl rfl
 refine m_stp [7,0,2] (fS [0,2] [vS name_,vP b1]) H5 rfl rfl rfl rfl (o_mkmap hd) (fun _ => rfl) fun _ _ v H8 hq => ?_
 obtain ⟨b6,rfl,hq⟩:=hq
 replace hS : SH M X w [Ent.mpo b6 [],eB b1 [vU 0,vU 0,vU 0,vU 0]] _:=hS.join [] [0] rfl rfl hq
 obtain ⟨y9,hy9,hm⟩:=letE hm
 refine wl_batch 1 2 [(vG (cC y9))] [0,2,7,8] (fS [0,2,7,8] [vS name_,vP b1,.map (some b6),vG (cC y9)]) [rB 97 [vU 0,vU 0,vU 0] (vG (cC y9))] H8 (by decide) (by subst hy9; kernel_rfl) ⟨((by rw [hy9]; exact (parseval_opaque_ok _ _ _).b)),trivial⟩ fun _ _ H11 hb => ?_
 replace hS:=hS.below hb
 have hd:=hS.hand [0] [1] rfl rfl
 refine m_stp0 [0,2,7] (fS [0,2,7] [vS name_,vP b1,.map (some b6)]) H11 rfl rfl rfl (o_ins (kt:=9) (et:=55) H11 hd rfl rfl rfl (by kernel_rfl) (by kernel_rfl) rfl) rfl fun _ _ H13 hq => ?_
 obtain ⟨_,hq⟩:=hq
 replace hS : SH M X w [Ent.mpo b6 [([98,108,97,99,107],vG (cC y9))],eB b1 [vU 0,vU 0,vU 0,vU 0]] _:=hS.join [0] [1] rfl rfl hq
 obtain ⟨y14,hy14,hm⟩:=letE hm
 refine wl_batch 3 4 [(vG (cC y14))] [0,2,7,9] (fS [0,2,7,9] [vS name_,vP b1,.map (some b6),vG (cC y14)]) [rB 97 [vU 255,vU 255,vU 255] (vG (cC y14))] H13 (by decide) (by subst hy14; kernel_rfl) ⟨((by rw [hy14]; exact (parseval_opaque_ok _ _ _).b)),trivial⟩ fun _ _ H16 hb => ?_
 replace hS:=hS.below hb
 have hd:=hS.hand [0] [1] rfl rfl
 refine m_stp0 [0,2,7] (fS [0,2,7] [vS name_,vP b1,.map (some b6)]) H16 rfl rfl rfl (o_ins (kt:=9) (et:=55) H16 hd rfl rfl rfl (by kernel_rfl) (by kernel_rfl) rfl) rfl fun _ _ H18 hq => ?_
 obtain ⟨_,hq⟩:=hq
 replace hS : SH M X w [Ent.mpo b6 [([98,108,97,99,107],vG (cC y9)),([119,104,105,116,101],vG (cC y14))],eB b1 [vU 0,vU 0,vU 0,vU 0]] _:=hS.join [0] [1] rfl rfl hq
 obtain ⟨y19,hy19,hm⟩:=letE hm
 refine wl_batch 5 6 [(vG (cC y19))] [0,2,7,10] (fS [0,2,7,10] [vS name_,vP b1,.map (some b6),vG (cC y19)]) [rB 97 [vU 255,vU 0,vU 0] (vG (cC y19))] H18 (by decide) (by subst hy19; kernel_rfl) ⟨((by rw [hy19]; exact (parseval_opaque_ok _ _ _).b)),trivial⟩ fun _ _ H21 hb => ?_
 replace hS:=hS.below hb
 have hd:=hS.hand [0] [1] rfl rfl
 refine m_stp0 [0,2,7] (fS [0,2,7] [vS name_,vP b1,.map (some b6)]) H21 rfl rfl rfl (o_ins (kt:=9) (et:=55) H21 hd rfl rfl rfl (by kernel_rfl) (by kernel_rfl) rfl) rfl fun _ _ H23 hq => ?_
 obtain ⟨_,hq⟩:=hq
 replace hS : SH M X w [Ent.mpo b6 [([98,108,97,99,107],vG (cC y9)),([119,104,105,116,101],vG (cC y14)),([114,101,100],vG (cC y19))],eB b1 [vU 0,vU 0,vU 0,vU 0]] _:=hS.join [0] [1] rfl rfl hq
 obtain ⟨y24,hy24,hm⟩:=letE hm
 refine wl_batch 7 8 [(vG (cC y24))] [0,2,7,11] (fS [0,2,7,11] [vS name_,vP b1,.map (some b6),vG (cC y24)]) [rB 97 [vU 0,vU 255,vU 0] (vG (cC y24))] H23 (by decide) (by subst hy24; kernel_rfl) ⟨((by rw [hy24]; exact (parseval_opaque_ok _ _ _).b)),trivial⟩ fun _ _ H26 hb => ?_
 replace hS:=hS.below hb
 have hd:=hS.hand [0] [1] rfl rfl
 refine m_stp0 [0,2,7] (fS [0,2,7] [vS name_,vP b1,.map (some b6)]) H26 rfl rfl rfl (o_ins (kt:=9) (et:=55) H26 hd rfl rfl rfl (by kernel_rfl) (by kernel_rfl) rfl) rfl fun _ _ H28 hq => ?_
 obtain ⟨_,hq⟩:=hq
 replace hS : SH M X w [Ent.mpo b6 [([98,108,97,99,107],vG (cC y9)),([119,104,105,116,101],vG (cC y14)),([114,101,100],vG (cC y19)),([108,105,109,101],vG (cC y24))],eB b1 [vU 0,vU 0,vU 0,vU 0]] _:=hS.join [0] [1] rfl rfl hq
 obtain ⟨y29,hy29,hm⟩:=letE hm
 refine wl_batch 9 10 [(vG (cC y29))] [0,2,7,12] (fS [0,2,7,12] [vS name_,vP b1,.map (some b6),vG (cC y29)]) [rB 97 [vU 0,vU 0,vU 255] (vG (cC y29))] H28 (by decide) (by subst hy29; kernel_rfl) ⟨((by rw [hy29]; exact (parseval_opaque_ok _ _ _).b)),trivial⟩ fun _ _ H31 hb => ?_
 replace hS:=hS.below hb
 have hd:=hS.hand [0] [1] rfl rfl
 refine m_stp0 [0,2,7] (fS [0,2,7] [vS name_,vP b1,.map (some b6)]) H31 rfl rfl rfl (o_ins (kt:=9) (et:=55) H31 hd rfl rfl rfl (by kernel_rfl) (by kernel_rfl) rfl) rfl fun _ _ H33 hq => ?_
 obtain ⟨_,hq⟩:=hq
 replace hS : SH M X w [Ent.mpo b6 [([98,108,97,99,107],vG (cC y9)),([119,104,105,116,101],vG (cC y14)),([114,101,100],vG (cC y19)),([108,105,109,101],vG (cC y24)),([98,108,117,101],vG (cC y29))],eB b1 [vU 0,vU 0,vU 0,vU 0]] _:=hS.join [0] [1] rfl rfl hq
 obtain ⟨y34,hy34,hm⟩:=letE hm
 refine wl_batch 11 12 [(vG (cC y34))] [0,2,7,13] (fS [0,2,7,13] [vS name_,vP b1,.map (some b6),vG (cC y34)]) [rB 97 [vU 255,vU 255,vU 0] (vG (cC y34))] H33 (by decide) (by subst hy34; kernel_rfl) ⟨((by rw [hy34]; exact (parseval_opaque_ok _ _ _).b)),trivial⟩ fun _ _ H36 hb => ?_
 replace hS:=hS.below hb
 have hd:=hS.hand [0] [1] rfl rfl
 refine m_stp0 [0,2,7] (fS [0,2,7] [vS name_,vP b1,.map (some b6)]) H36 rfl rfl rfl (o_ins (kt:=9) (et:=55) H36 hd rfl rfl rfl (by kernel_rfl) (by kernel_rfl) rfl) rfl fun _ _ H38 hq => ?_
 obtain ⟨_,hq⟩:=hq
 replace hS : SH M X w [Ent.mpo b6 [([98,108,97,99,107],vG (cC y9)),([119,104,105,116,101],vG (cC y14)),([114,101,100],vG (cC y19)),([108,105,109,101],vG (cC y24)),([98,108,117,101],vG (cC y29)),([121,101,108,108,111,119],vG (cC y34))],eB b1 [vU 0,vU 0,vU 0,vU 0]] _:=hS.join [0] [1] rfl rfl hq
 obtain ⟨y39,hy39,hm⟩:=letE hm
 refine wl_batch 13 14 [(vG (cC y39))] [0,2,7,14] (fS [0,2,7,14] [vS name_,vP b1,.map (some b6),vG (cC y39)]) [rB 97 [vU 128,vU 128,vU 128] (vG (cC y39))] H38 (by decide) (by subst hy39; kernel_rfl) ⟨((by rw [hy39]; exact (parseval_opaque_ok _ _ _).b)),trivial⟩ fun _ _ H41 hb => ?_
 replace hS:=hS.below hb
 have hd:=hS.hand [0] [1] rfl rfl
 refine m_stp0 [0,2,7] (fS [0,2,7] [vS name_,vP b1,.map (some b6)]) H41 rfl rfl rfl (o_ins (kt:=9) (et:=55) H41 hd rfl rfl rfl (by kernel_rfl) (by kernel_rfl) rfl) rfl fun _ _ H43 hq => ?_
 obtain ⟨_,hq⟩:=hq
 replace hS : SH M X w [Ent.mpo b6 [([98,108,97,99,107],vG (cC y9)),([119,104,105,116,101],vG (cC y14)),([114,101,100],vG (cC y19)),([108,105,109,101],vG (cC y24)),([98,108,117,101],vG (cC y29)),([121,101,108,108,111,119],vG (cC y34)),([103,114,97,121],vG (cC y39))],eB b1 [vU 0,vU 0,vU 0,vU 0]] _:=hS.join [0] [1] rfl rfl hq
 refine wl_batch 15 16 [] [0,2,7,15] (fS [0,2,7,15] [vS name_,vP b1,.map (some b6),vG [vU 0,vU 0,vU 0,vU 0]]) [] H43 (by decide) (by kernel_rfl) trivial fun _ _ H45 hb => ?_
 replace hS:=hS.below hb
 have hd:=hS.hand [0] [1] rfl rfl
 refine m_stp0 [0,2,7] (fS [0,2,7] [vS name_,vP b1,.map (some b6)]) H45 rfl rfl rfl (o_ins (kt:=9) (et:=55) H45 hd rfl rfl rfl (by kernel_rfl) (by kernel_rfl) rfl) rfl fun _ _ H47 hq => ?_
 obtain ⟨_,hq⟩:=hq
 replace hS : SH M X w [Ent.mpo b6 [([98,108,97,99,107],vG (cC y9)),([119,104,105,116,101],vG (cC y14)),([114,101,100],vG (cC y19)),([108,105,109,101],vG (cC y24)),([98,108,117,101],vG (cC y29)),([121,101,108,108,111,119],vG (cC y34)),([103,114,97,121],vG (cC y39)),([116,114,97,110,115,112,97,114,101,110,116],vG [vU 0,vU 0,vU 0,vU 0])],eB b1 [vU 0,vU 0,vU 0,vU 0]] _:=hS.join [0] [1] rfl rfl hq
 obtain ⟨y48,hy48,hm⟩:=bindE hm
 refine wl_batch 17 20 [(vS y48)] [2,16,18] (fS [2,16,18] [vP b1,.map (some b6),vS y48]) [rB 69 [vS name_] (vS y48)] H47 (by decide) (by kernel_rfl) ⟨((parseval_small_ok m _ _ hy48).b),trivial⟩ fun _ _ H50 hb => ?_
 replace hS:=hS.below hb
 obtain ⟨x51,hx51,hm⟩:=letE hm
 have hd:=hS.hand [0] [1] rfl rfl
 refine m_stp [19,2] [(2,[],vP b1)] H50 rfl rfl rfl rfl (o_look (kt:=9) (et:=55) (z:=vG [vU 0,vU 0,vU 0,vU 0]) (ix:=x51) (fun q => vG [vU (gi ([y9.Red,y14.Red,y19.Red,y24.Red,y29.Red,y34.Red,y39.Red,0,0] : List Int) q),vU (gi ([y9.Green,y14.Green,y19.Green,y24.Green,y29.Green,y34.Green,y39.Green,0,0] : List Int) q),vU (gi ([y9.Blue,y14.Blue,y19.Blue,y24.Blue,y29.Blue,y34.Blue,y39.Blue,0,0] : List Int) q),vU (gi ([y9.Alpha,y14.Alpha,y19.Alpha,y24.Alpha,y29.Alpha,y34.Alpha,y39.Alpha,0,0] : List Int) q)]) (vW [vG [vU (gi ([y9.Red,y14.Red,y19.Red,y24.Red,y29.Red,y34.Red,y39.Red,0,0] : List Int) x51),vU (gi ([y9.Green,y14.Green,y19.Green,y24.Green,y29.Green,y34.Green,y39.Green,0,0] : List Int) x51),vU (gi ([y9.Blue,y14.Blue,y19.Blue,y24.Blue,y29.Blue,y34.Blue,y39.Blue,0,0] : List Int) x51),vU (gi ([y9.Alpha,y14.Alpha,y19.Alpha,y24.Alpha,y29.Alpha,y34.Alpha,y39.Alpha,0,0] : List Int) x51)],vB (decide (x51 < 8))]) H50 hd hx51 rfl rfl rfl (by kernel_rfl) (by kernel_rfl) (by kernel_rfl) rfl) (fun _ => rfl) fun _ _ v H53 hq => ?_
 obtain ⟨rfl,hq⟩:=hq
 replace hS : SH M X w [Ent.mpo b6 [([98,108,97,99,107],vG (cC y9)),([119,104,105,116,101],vG (cC y14)),([114,101,100],vG (cC y19)),([108,105,109,101],vG (cC y24)),([98,108,117,101],vG (cC y29)),([121,101,108,108,111,119],vG (cC y34)),([103,114,97,121],vG (cC y39)),([116,114,97,110,115,112,97,114,101,110,116],vG [vU 0,vU 0,vU 0,vU 0])],eB b1 [vU 0,vU 0,vU 0,vU 0]] _:=hS.join [0] [1] rfl rfl hq
 obtain ⟨x54,hx54,hm⟩:=letE hm
 obtain ⟨x55,hx55,hm⟩:=letE hm
 obtain ⟨x56,hx56,hm⟩:=letE hm
 obtain ⟨x57,hx57,hm⟩:=letE hm
 refine wl_batch 21 24 [] [2,20,21] (fS [2,20,21] [vP b1,vG [vU x54,vU x55,vU x56,vU x57],vB (decide (x51 < 8))]) [] H53 (by decide) (by subst hx54 hx55 hx56 hx57; kernel_rfl) trivial fun _ _ H59 hb => ?_
 replace hS:=hS.below hb
 have hd:=hS.hand [] [0,1] rfl rfl
 refine m_stp [4,2,20,21] (fS [2,20,21] [vP b1,vG [vU x54,vU x55,vU x56,vU x57],vB (decide (x51 < 8))]) H59 rfl rfl rfl rfl (o_alloc [vU 0,vU 0,vU 0,vU 0] (z:=vG [vU 0,vU 0,vU 0,vU 0]) hd (by kernel_rfl) rfl) (fun _ => rfl) fun _ _ v H62 hq => ?_
 obtain ⟨b60,rfl,hq⟩:=hq
 replace hS : SH M X w [eB b60 [vU 0,vU 0,vU 0,vU 0],Ent.mpo b6 [([98,108,97,99,107],vG (cC y9)),([119,104,105,116,101],vG (cC y14)),([114,101,100],vG (cC y19)),([108,105,109,101],vG (cC y24)),([98,108,117,101],vG (cC y29)),([121,101,108,108,111,119],vG (cC y34)),([103,114,97,121],vG (cC y39)),([116,114,97,110,115,112,97,114,101,110,116],vG [vU 0,vU 0,vU 0,vU 0])],eB b1 [vU 0,vU 0,vU 0,vU 0]] _:=hS.join [] [0,1] rfl rfl hq
 have hd:=hS.hand [0] [1,2] rfl rfl
 refine m_stp0 [2,4,21] (fS [2,4,21] [vP b1,vP b60,vB (decide (x51 < 8))]) H62 rfl rfl rfl (o_store [vU x54,vU x55,vU x56,vU x57] H62 hd rfl rfl (by kernel_rfl) rfl rfl rfl) rfl fun _ _ H64 hq => ?_
 obtain ⟨_,hq⟩:=hq
 replace hS : SH M X w [eB b60 [vU x54,vU x55,vU x56,vU x57],Ent.mpo b6 [([98,108,97,99,107],vG (cC y9)),([119,104,105,116,101],vG (cC y14)),([114,101,100],vG (cC y19)),([108,105,109,101],vG (cC y24)),([98,108,117,101],vG (cC y29)),([121,101,108,108,111,119],vG (cC y34)),([103,114,97,121],vG (cC y39)),([116,114,97,110,115,112,97,114,101,110,116],vG [vU 0,vU 0,vU 0,vU 0])],eB b1 [vU 0,vU 0,vU 0,vU 0]] _:=hS.join [0] [1,2] rfl rfl hq
 refine wl_batch 26 27 [] [2,4,5] (fS [2,4,5] [vP b1,vP b60,vB (decide (x51 < 8))]) [] H64 (by decide) (by kernel_rfl) trivial fun _ _ H66 hb => ?_
 replace hS:=hS.below hb
 apply wl_end rfl
 replace hS : SH M X w [eB b60 [vU x54,vU x55,vU x56,vU x57],eB b1 [vU 0,vU 0,vU 0,vU 0]] _:=hS.sel [0,2] rfl
 apply w_seq
 refine s_reg [] [2,4,23] (fS [2,4,23] [vP b1,vP b60,vB (!(decide (x51 < 8)))]) [] H66 (by kernel_rfl) trivial fun _ _ H68 hb => ?_
 replace hS:=hS.below hb
 refine w_if H68 rfl (fun hc => ?c81) (fun hc => ?_)
 case c81 =>
  replace hm:=bT hc hm
  apply w_seq
  apply wl_start
  refine wl_batch 0 1 [] [2,24] (fS [2,24] [vP b1,vG [vU 0,vU 0,vU 0,vU 0]]) [] H68 (by decide) (by kernel_rfl) trivial fun _ _ H70 hb => ?_
  replace hS:=hS.below hb
  have hd:=hS.hand [1] [0] rfl rfl
  refine m_stp0 [2] [(2,[],vP b1)] H70 rfl rfl rfl (o_store [vU 0,vU 0,vU 0,vU 0] H70 hd rfl rfl (by kernel_rfl) rfl rfl rfl) rfl fun _ _ H72 hq => ?_
  obtain ⟨_,hq⟩:=hq
  replace hS : SH M X w [eB b1 [vU 0,vU 0,vU 0,vU 0],eB b60 [vU x54,vU x55,vU x56,vU x57]] _:=hS.join [1] [0] rfl rfl hq
  refine wl_batch 2 3 [] [2,3] (fS [2,3] [vP b1,vI 6]) [] H72 (by decide) (by kernel_rfl) trivial fun _ _ H74 hb => ?_
  replace hS:=hS.below hb
  apply wl_end rfl
  replace hS : SH M X w [eB b1 [vU 0,vU 0,vU 0,vU 0]] _:=hS.sel [0] rfl
  apply w_ret
  obtain rfl:=someE hm
  exact retR2 H74 rfl (oneRes_agg rfl (hS.bk 0 rfl) Tryz.underlying55 rfl (by kernel_rfl)) rfl ⟨_,rfl,rfl,(hS.sel [] rfl)⟩
 replace hm:=bF hc hm
 apply w_skip
 apply w_seq
 apply wl_start
 refine wl_batch 0 1 [(vG [vU x54,vU x55,vU x56,vU x57])] [2,25] (fS [2,25] [vP b1,vG [vU x54,vU x55,vU x56,vU x57]]) [rN b60 0 [vU x54,vU x55,vU x56,vU x57]] H68 (by decide) (by kernel_rfl) ⟨((hS.bk 0 rfl).atD rfl),trivial⟩ fun _ _ H76 hb => ?_
 replace hS:=hS.below hb
 have hd:=hS.hand [1] [0] rfl rfl
 refine m_stp0 [2] [(2,[],vP b1)] H76 rfl rfl rfl (o_store [vU x54,vU x55,vU x56,vU x57] H76 hd rfl rfl (by kernel_rfl) rfl rfl rfl) rfl fun _ _ H78 hq => ?_
 obtain ⟨_,hq⟩:=hq
 replace hS : SH M X w [eB b1 [vU x54,vU x55,vU x56,vU x57],eB b60 [vU x54,vU x55,vU x56,vU x57]] _:=hS.join [1] [0] rfl rfl hq
 refine wl_batch 2 3 [] [2,3] (fS [2,3] [vP b1,vI 0]) [] H78 (by decide) (by kernel_rfl) trivial fun _ _ H80 hb => ?_
 replace hS:=hS.below hb
 apply wl_end rfl
 replace hS : SH M X w [eB b1 [vU x54,vU x55,vU x56,vU x57]] _:=hS.sel [0] rfl
 apply w_ret
 obtain rfl:=someE hm
 exact retR2 H80 rfl (oneRes_agg rfl (hS.bk 0 rfl) Tryz.underlying55 rfl (by kernel_rfl)) rfl ⟨_,rfl,rfl,(hS.sel [] rfl)⟩
theorem parseval_Named_ok  (m : Nat) (name_ : Str) (r : TColor × Int) (hm : parseval_Named m name_ = some r) : Ret Tryz.prog 86 ⟨[vS name_]⟩ (vW [vG (cC r.1),vI r.2]):=retP_of (Tryz.call86 _) (fun w h => parseval_Named_w F0 m   name_ r hm w h)

theorem strconv_lower_w  (M : Av) (c_ : Int) (r : Int) (hm : strconv_lower c_ = r) (w : World) (hS : S0 M [] w) : Calls Tryz.prog 132 ⟨[vU c_]⟩ w (fun e w' => ∃ v,e = .returned v ∧ v = vU r ∧ SH M (fpl []) w [] w'):=by
 rw [strconv_lower] at hm
 have hS0 : SH M (fpl []) w [] w:=hS
 generalize hX : fpl [] = X at hS0 ⊢
 clear hS hX
 have hS:=hS0
 clear hS0
 refine calls_entryP Tryz.func132 rfl Tryz.ntmps132 rfl fun _ H => ?_
 refine s_reg [] [0] [(0,[],vU c_)] [] H (by kernel_rfl) trivial fun _ _ H2 hb => ?_
 replace hS:=hS.below hb
 refine s_reg [] [2] [(2,[],vU (ibit .or .u8 c_ 32))] [] H2 (by kernel_rfl) trivial fun _ _ H4 hb => ?_
 replace hS:=hS.below hb
 apply w_ret
 subst hm
 exact retR1 H4 rfl rfl ⟨_,rfl,rfl,(hS.sel [] rfl)⟩
theorem strconv_lower_ok  (c_ : Int) : Ret Tryz.prog 132 ⟨[vU c_]⟩ (vU (strconv_lower c_)):=retP_of (Tryz.call132 _) (fun w h => strconv_lower_w F0   c_ _ rfl w h)

theorem strconv_underscoreOK_w  (M : Av) (m : Nat) (s : Str) (r : Bool) (hm : strconv_underscoreOK m s = some r) (w : World) (hS : S0 M [] w) : Calls Tryz.prog 133 ⟨[vS s]⟩ w (fun e w' => ∃ v,e = .returned v ∧ v = vB r ∧ SH M (fpl []) w [] w'):=by
 rw [strconv_underscoreOK] at hm
 have hS0 : SH M (fpl []) w [] w:=hS
 generalize hX : fpl [] = X at hS0 ⊢
 clear hS hX
 have hS:=hS0
 clear hS0
 refine calls_entryP Tryz.func133 rfl Tryz.ntmps133 rfl fun _ H => ?_
 refine s_reg [] [0] [(0,[],vS s)] [] H (by kernel_rfl) trivial fun _ _ H2 hb => ?_
 replace hS:=hS.below hb
 refine s_reg [] [0,3] (fS [0,3] [vS s,vJ 94]) [] H2 (by kernel_rfl) trivial fun _ _ H4 hb => ?_
 replace hS:=hS.below hb
 refine s_reg [] [0,3,4] (fS [0,3,4] [vS s,vJ 94,vI 0]) [] H4 (by kernel_rfl) trivial fun _ _ H6 hb => ?_
 replace hS:=hS.below hb
 obtain ⟨z7,hz,hm⟩:=bindE hm
 refine w_cut (fun a' w' => Fr 94 (fS [3,4,0] [vJ 94,vI 0,vS z7]) a' ∧ SH M X w [] w') ?_ ?_
 ·replace hm:=hz
  obtain ⟨ho8,hm⟩:=chkE hm
  obtain ⟨ho9,hm⟩:=chkE hm
  obtain ⟨x10,hx10,hm⟩:=letE hm
  refine s_reg [] [0,3,4,18] (fS [0,3,4,18] [vS s,vJ 94,vI 0,vB x10]) [fun _ => ((decide (1 ≤ (ln s))) = true ∧ True → 0 ≤ (0 : Int) ∧ (0 : Int) < ln s),fun _ => (((bat s 0) == 45) = false ∧ (decide (1 ≤ (ln s))) = true ∧ True → 0 ≤ (0 : Int) ∧ (0 : Int) < ln s)] H6 (by subst hx10; kernel_rfl) ⟨fun hg => (ho8 hg.1),fun hg => (ho9 hg.1 hg.2.1),trivial⟩ fun _ _ H12 hb => ?_
  replace hS:=hS.below hb
  refine w_if H12 rfl (fun hc => ?_) (fun hc => ?c16)
  case c16 =>
   replace hm:=bF hc hm
   apply w_skip
   obtain rfl:=someE hm
   exact ⟨FrG.keep (ks:=[3,4,0]) H12 (by kernel_rfl),hS⟩
  replace hm:=bT hc hm
  obtain ⟨ho13,hm⟩:=chkE hm
  refine w_reg [] [0,3,4] (fS [0,3,4] [vS (sub s 1 (ln s)),vJ 94,vI 0]) [fun _ => 0 ≤ (1 : Int) ∧ (1 : Int) ≤ ln s] H12 (by kernel_rfl) ⟨ho13,trivial⟩ fun _ _ H15 hb => ?_
  replace hS:=hS.below hb
  obtain rfl:=someE hm
  exact ⟨FrG.keep (ks:=[3,4,0]) H15 (by kernel_rfl),hS⟩
 ·rintro _ _ ⟨H,hS⟩
  refine s_reg [] [0,3,4,5] (fS [0,3,4,5] [vS z7,vJ 94,vI 0,vF]) [] H (by kernel_rfl) trivial fun _ _ H18 hb => ?_
  replace hS:=hS.below hb
  obtain ⟨z19,hz,hm⟩:=bindE hm
  refine w_cut (fun a' w' => Fr 94 (fS [0,3,4,5] [vS z7,vJ z19.1,vI z19.2.1,vB z19.2.2]) a' ∧ SH M X w [] w') ?_ ?_
  ·replace hm:=hz
   obtain ⟨ho20,hm⟩:=chkE hm
   obtain ⟨x21,hx21,hm⟩:=letE hm
   obtain ⟨ho22,hm⟩:=chkE hm
   obtain ⟨ho23,hm⟩:=chkE hm
   obtain ⟨ho24,hm⟩:=chkE hm
   obtain ⟨x25,hx25,hm⟩:=letE hm
   refine s_reg [(vU (strconv_lower (bat z7 1))),(vU (strconv_lower (bat z7 1))),(vU (strconv_lower (bat z7 1)))] [0,3,4,5,46] (fS [0,3,4,5,46] [vS z7,vJ 94,vI 0,vF,vB x25]) [fun _ => ((decide (2 ≤ (ln z7))) = true ∧ True → 0 ≤ (0 : Int) ∧ (0 : Int) < ln z7),fun _ => (x21 = true ∧ True → 0 ≤ (1 : Int) ∧ (1 : Int) < ln z7),fun wz => (x21 = true ∧ True → RetB Tryz.prog 132 ⟨[vU (bat z7 1)]⟩ (vU (strconv_lower (bat z7 1))) wz),fun _ => (((strconv_lower (bat z7 1)) == 98) = false ∧ x21 = true ∧ True → 0 ≤ (1 : Int) ∧ (1 : Int) < ln z7),fun wz => (((strconv_lower (bat z7 1)) == 98) = false ∧ x21 = true ∧ True → RetB Tryz.prog 132 ⟨[vU (bat z7 1)]⟩ (vU (strconv_lower (bat z7 1))) wz),fun _ => ((cond ((strconv_lower (bat z7 1)) == 98) true ((strconv_lower (bat z7 1)) == 111)) = false ∧ x21 = true ∧ True → 0 ≤ (1 : Int) ∧ (1 : Int) < ln z7),fun wz => ((cond ((strconv_lower (bat z7 1)) == 98) true ((strconv_lower (bat z7 1)) == 111)) = false ∧ x21 = true ∧ True → RetB Tryz.prog 132 ⟨[vU (bat z7 1)]⟩ (vU (strconv_lower (bat z7 1))) wz)] H18 (by subst hx21 hx25; kernel_rfl) ⟨fun hg => (ho20 hg.1),fun hg => (ho22 hg.1),fun hg => (strconv_lower_ok _).b,fun hg => (ho23 hg.1 hg.2.1),fun hg => (strconv_lower_ok _).b,fun hg => (ho24 hg.1 hg.2.1),fun hg => (strconv_lower_ok _).b,trivial⟩ fun _ _ H27 hb => ?_
   replace hS:=hS.below hb
   refine w_if H27 rfl (fun hc => ?_) (fun hc => ?c35)
   case c35 =>
    replace hm:=bF hc hm
    apply w_skip
    obtain rfl:=someE hm
    exact ⟨FrG.keep (ks:=[0,3,4,5]) H27 (by kernel_rfl),hS⟩
   replace hm:=bT hc hm
   refine s_reg [] [0,4] (fS [0,4] [vS z7,vI 2]) [] H27 (by kernel_rfl) trivial fun _ _ H29 hb => ?_
   replace hS:=hS.below hb
   refine s_reg [] [0,3,4] (fS [0,3,4] [vS z7,vJ 48,vI 2]) [] H29 (by kernel_rfl) trivial fun _ _ H31 hb => ?_
   replace hS:=hS.below hb
   obtain ⟨ho32,hm⟩:=chkE hm
   refine w_reg [(vU (strconv_lower (bat z7 1)))] [0,3,4,5] (fS [0,3,4,5] [vS z7,vJ 48,vI 2,vB ((strconv_lower (bat z7 1)) == 120)]) [fun _ => 0 ≤ (1 : Int) ∧ (1 : Int) < ln z7,rB 132 [vU (bat z7 1)] (vU (strconv_lower (bat z7 1)))] H31 (by kernel_rfl) ⟨ho32,((strconv_lower_ok _).b),trivial⟩ fun _ _ H34 hb => ?_
   replace hS:=hS.below hb
   obtain rfl:=someE hm
   exact ⟨FrG.keep (ks:=[0,3,4,5]) H34 (by kernel_rfl),hS⟩
  ·rintro _ _ ⟨H,hS⟩
   obtain ⟨z36,hz,hm_z36⟩:=bindE hm
   refine w_cut (fun a' w' => ∃ s_z36 : Int,z36 = Sum.inr s_z36 ∧ Fr 94 [(3,[],vJ s_z36)] a' ∧ SH M X w [] w') ?_ ?_
   ·replace hm:=hz
    apply w_block
    refine w_loop (fun kk a' w' => ∃ (v37 : Int) (v38 : Int),strconv_underscoreOK_L1 m z7 z19 kk v37 v38 = some _ ∧ Fr 94 (fS [0,5,3,4] [vS z7,vB z19.2.2,vJ v37,vI v38]) a' ∧ SH M X w [] w') ⟨_,z19.1,z19.2.1,hm,FrG.keep (ks:=[0,5,3,4]) H (by kernel_rfl),hS⟩ ?_
    clear hm H hS
    rintro kk _ _ ⟨v37,v38,hm,H,hS⟩
    cases kk with
    | zero => exact noneE hm
    | succ kk =>
     rw [strconv_underscoreOK_L1] at hm
     apply w_seq
     refine s_reg [] [0,3,4,5,54] (fS [0,3,4,5,54] [vS z7,vJ v37,vI v38,vB z19.2.2,vB (decide (v38 < (ln z7)))]) [] H (by kernel_rfl) trivial fun _ _ H40 hb => ?_
     replace hS:=hS.below hb
     refine w_if H40 rfl (fun hc => ?_) (fun hc => ?c70)
     case c70 =>
      replace hm:=bF hc hm
      apply w_exit rfl
      obtain rfl:=someE hm
      exact ⟨_,rfl,FrG.keep (ks:=[3]) H40 (by kernel_rfl),hS⟩
     replace hm:=bT hc hm
     apply w_skip
     obtain ⟨z41,hz,hm_z41⟩:=bindE hm
     refine w_cut (fun a' w' => ∃ s_z41 : Int,z41 = Sum.inr s_z41 ∧ Fr 94 (fS [0,4,5,3] [vS z7,vI v38,vB z19.2.2,vJ s_z41]) a' ∧ SH M X w [] w') ?_ ?_
     ·replace hm:=hz
      apply w_block
      apply w_seq
      obtain ⟨ho42,hm⟩:=chkE hm
      obtain ⟨x43,hx43,hm⟩:=letE hm
      obtain ⟨x44,hx44,hm⟩:=letE hm
      refine s_reg [(vU (strconv_lower (bat z7 v38))),(vU (strconv_lower (bat z7 v38)))] [0,3,4,5,83] (fS [0,3,4,5,83] [vS z7,vJ v37,vI v38,vB z19.2.2,vB x44]) [fun _ => 0 ≤ v38 ∧ v38 < ln z7,fun _ => ((decide (48 ≤ (bat z7 v38))) = true ∧ True → 0 ≤ v38 ∧ v38 < ln z7),fun _ => (z19.2.2 = true ∧ x43 = false ∧ True → 0 ≤ v38 ∧ v38 < ln z7),fun wz => (z19.2.2 = true ∧ x43 = false ∧ True → RetB Tryz.prog 132 ⟨[vU (bat z7 v38)]⟩ (vU (strconv_lower (bat z7 v38))) wz),fun _ => ((cond z19.2.2 (decide (97 ≤ (strconv_lower (bat z7 v38)))) false) = true ∧ x43 = false ∧ True → 0 ≤ v38 ∧ v38 < ln z7),fun wz => ((cond z19.2.2 (decide (97 ≤ (strconv_lower (bat z7 v38)))) false) = true ∧ x43 = false ∧ True → RetB Tryz.prog 132 ⟨[vU (bat z7 v38)]⟩ (vU (strconv_lower (bat z7 v38))) wz)] H40 (by subst hx43 hx44; kernel_rfl) ⟨ho42,fun hg => ho42,fun hg => ho42,fun hg => (strconv_lower_ok _).b,fun hg => ho42,fun hg => (strconv_lower_ok _).b,trivial⟩ fun _ _ H46 hb => ?_
      replace hS:=hS.below hb
      refine w_if H46 rfl (fun hc => ?c66) (fun hc => ?_)
      case c66 =>
       replace hm:=bT hc hm
       refine s_reg [] [0,3,4,5] (fS [0,3,4,5] [vS z7,vJ 48,vI v38,vB z19.2.2]) [] H46 (by kernel_rfl) trivial fun _ _ H48 hb => ?_
       replace hS:=hS.below hb
       apply w_exit rfl
       obtain rfl:=someE hm
       exact ⟨_,rfl,FrG.keep (ks:=[0,4,5,3]) H48 (by kernel_rfl),hS⟩
      replace hm:=bF hc hm
      apply w_skip
      apply w_seq
      refine s_reg [] [0,3,4,5,87] (fS [0,3,4,5,87] [vS z7,vJ v37,vI v38,vB z19.2.2,vB ((bat z7 v38) == 95)]) [fun _ => 0 ≤ v38 ∧ v38 < ln z7] H46 (by kernel_rfl) ⟨ho42,trivial⟩ fun _ _ H50 hb => ?_
      replace hS:=hS.below hb
      refine w_if H50 rfl (fun hc => ?_) (fun hc => ?c65)
      case c65 =>
       replace hm:=bF hc hm
       apply w_skip
       apply w_seq
       refine s_reg [] [0,4,5,91] (fS [0,4,5,91] [vS z7,vI v38,vB z19.2.2,vB (v37 == 95)]) [] H50 (by kernel_rfl) trivial fun _ _ H59 hb => ?_
       replace hS:=hS.below hb
       refine w_if H59 rfl (fun hc => ?_) (fun hc => ?c64)
       case c64 =>
        replace hm:=bF hc hm
        apply w_skip
        refine w_reg [] [0,3,4,5] (fS [0,3,4,5] [vS z7,vJ 33,vI v38,vB z19.2.2]) [] H59 (by kernel_rfl) trivial fun _ _ H63 hb => ?_
        replace hS:=hS.below hb
        obtain rfl:=someE hm
        exact ⟨_,rfl,FrG.keep (ks:=[0,4,5,3]) H63 (by kernel_rfl),hS⟩
       replace hm:=bT hc hm
       refine s_reg [] [2] [(2,[],vF)] [] H59 (by kernel_rfl) trivial fun _ _ H61 hb => ?_
       replace hS:=hS.below hb
       apply w_ret
       obtain rfl:=someE hm
       have hm:=hm_z41
       obtain rfl:=someE hm
       have hm:=hm_z36
       obtain rfl:=someE hm
       exact retR1 H61 rfl rfl ⟨_,rfl,rfl,(hS.sel [] rfl)⟩
      replace hm:=bT hc hm
      apply w_seq
      refine s_reg [] [0,4,5,89] (fS [0,4,5,89] [vS z7,vI v38,vB z19.2.2,vB (v37 != 48)]) [] H50 (by kernel_rfl) trivial fun _ _ H52 hb => ?_
      replace hS:=hS.below hb
      refine w_if H52 rfl (fun hc => ?_) (fun hc => ?c57)
      case c57 =>
       replace hm:=bF hc hm
       apply w_skip
       refine s_reg [] [0,3,4,5] (fS [0,3,4,5] [vS z7,vJ 95,vI v38,vB z19.2.2]) [] H52 (by kernel_rfl) trivial fun _ _ H56 hb => ?_
       replace hS:=hS.below hb
       apply w_exit rfl
       obtain rfl:=someE hm
       exact ⟨_,rfl,FrG.keep (ks:=[0,4,5,3]) H56 (by kernel_rfl),hS⟩
      replace hm:=bT hc hm
      refine s_reg [] [2] [(2,[],vF)] [] H52 (by kernel_rfl) trivial fun _ _ H54 hb => ?_
      replace hS:=hS.below hb
      apply w_ret
      obtain rfl:=someE hm
      have hm:=hm_z41
      obtain rfl:=someE hm
      have hm:=hm_z36
      obtain rfl:=someE hm
      exact retR1 H54 rfl rfl ⟨_,rfl,rfl,(hS.sel [] rfl)⟩
     ·rintro _ _ ⟨s_z41,hz,H,hS⟩
      subst hz
      replace hm:=sumR hm_z41
      refine w_reg [] [0,3,4,5] (fS [0,3,4,5] [vS z7,vJ s_z41,vI (w64 (v38 + 1)),vB z19.2.2]) [] H (by kernel_rfl) trivial fun _ _ H68 hb => ?_
      replace hS:=hS.below hb
      exact ⟨_,Nat.lt_succ_self _,s_z41,w64 (v38 + 1),hm,FrG.keep (ks:=[0,5,3,4]) H68 (by kernel_rfl),hS⟩
   ·rintro _ _ ⟨s_z36,hz,H,hS⟩
    subst hz
    replace hm:=sumR hm_z36
    refine s_reg [] [2] [(2,[],vB (s_z36 != 95))] [] H (by kernel_rfl) trivial fun _ _ H73 hb => ?_
    replace hS:=hS.below hb
    apply w_ret
    obtain rfl:=someE hm
    exact retR1 H73 rfl rfl ⟨_,rfl,rfl,(hS.sel [] rfl)⟩
theorem strconv_underscoreOK_ok  (m : Nat) (s : Str) (r : Bool) (hm : strconv_underscoreOK m s = some r) : Ret Tryz.prog 133 ⟨[vS s]⟩ (vB r):=retP_of (Tryz.call133 _) (fun w h => strconv_underscoreOK_w F0 m   s r hm w h)

theorem strconv_ParseUint_2_w  (M : Av) (m : Nat) (s : Str) (base : Int) (bitSize : Int) (r : Int) (hm : strconv_ParseUint_2 m s base bitSize = some r) (w : World) (hS : S0 M [] w) : Calls Tryz.prog 118 ⟨[vS s,vI base,vI bitSize]⟩ w (fun e w' => ∃ v,e = .returned v ∧ v = vW [.int .u64 r,.nilIface] ∧ SH M (fpl []) w [] w'):=by
 rw [strconv_ParseUint_2] at hm
 have hS0 : SH M (fpl []) w [] w:=hS
 generalize hX : fpl [] = X at hS0 ⊢
 clear hS hX
 have hS:=hS0
 clear hS0
 refine calls_entryP Tryz.func118 rfl Tryz.ntmps118 rfl fun _ H => ?_
 refine s_reg [] [0,1,2] (fS [0,1,2] [vS s,vI base,vI bitSize]) [] H (by kernel_rfl) trivial fun _ _ H2 hb => ?_
 replace hS:=hS.below hb
 apply w_seq
 refine s_reg [] [0,1,2,19] (fS [0,1,2,19] [vS s,vI base,vI bitSize,vB (s == [])]) [] H2 (by kernel_rfl) trivial fun _ _ H4 hb => ?_
 replace hS:=hS.below hb
 refine w_if H4 rfl (fun hc => ?c185) (fun hc => ?_)
 case c185 =>
  replace hm:=bT hc hm
  refine s_reg [] [6,7] (fS [6,7] [.int .u64 0,.iface 182 (vI 2)]) [] H4 (by kernel_rfl) trivial fun _ _ H6 hb => ?_
  replace hS:=hS.below hb
  exact noneE hm
 replace hm:=bF hc hm
 apply w_skip
 refine s_reg [] [0,1,2,8] (fS [0,1,2,8] [vS s,vI base,vI bitSize,vB (base == 0)]) [] H4 (by kernel_rfl) trivial fun _ _ H8 hb => ?_
 replace hS:=hS.below hb
 refine s_reg [] [0,1,2,8,9] (fS [0,1,2,8,9] [vS s,vI base,vI bitSize,vB (base == 0),vS s]) [] H8 (by kernel_rfl) trivial fun _ _ H10 hb => ?_
 replace hS:=hS.below hb
 obtain ⟨z11,hz,hm_z11⟩:=bindE hm
 refine w_cut (fun a' w' => ∃ s_z11 : Str × Int,z11 = Sum.inr s_z11 ∧ Fr 172 (fS [2,8,9,0,1] [vI bitSize,vB (base == 0),vS s,vS s_z11.1,vI s_z11.2]) a' ∧ SH M X w [] w') ?_ ?_
 ·replace hm:=hz
  apply w_block
  obtain ⟨x12,hx12,hm⟩:=letE hm
  refine s_reg [] [0,1,2,8,9,25] (fS [0,1,2,8,9,25] [vS s,vI base,vI bitSize,vB (base == 0),vS s,vB x12]) [] H10 (by subst hx12; kernel_rfl) trivial fun _ _ H14 hb => ?_
  replace hS:=hS.below hb
  refine w_if H14 rfl (fun hc => ?c59) (fun hc => ?_)
  case c59 =>
   replace hm:=bT hc hm
   apply w_skip
   obtain rfl:=someE hm
   exact ⟨_,rfl,FrG.keep (ks:=[2,8,9,0,1]) H14 (by kernel_rfl),hS⟩
  replace hm:=bF hc hm
  refine s_reg [] [0,2,8,9,32] (fS [0,2,8,9,32] [vS s,vI bitSize,vB (base == 0),vS s,vB (base == 0)]) [] H14 (by kernel_rfl) trivial fun _ _ H16 hb => ?_
  replace hS:=hS.below hb
  refine w_if H16 rfl (fun hc => ?_) (fun hc => ?c58)
  case c58 =>
   replace hm:=bF hc hm
   refine s_reg [] [6,7] (fS [6,7] [.int .u64 0,.iface 182 (vI 3)]) [] H16 (by kernel_rfl) trivial fun _ _ H57 hb => ?_
   replace hS:=hS.below hb
   exact noneE hm
  replace hm:=bT hc hm
  refine s_reg [] [0,1,2,8,9] (fS [0,1,2,8,9] [vS s,vI 10,vI bitSize,vB (base == 0),vS s]) [] H16 (by kernel_rfl) trivial fun _ _ H18 hb => ?_
  replace hS:=hS.below hb
  obtain ⟨ho19,hm⟩:=chkE hm
  refine s_reg [] [0,1,2,8,9,37] (fS [0,1,2,8,9,37] [vS s,vI 10,vI bitSize,vB (base == 0),vS s,vB ((bat s 0) == 48)]) [fun _ => 0 ≤ (0 : Int) ∧ (0 : Int) < ln s] H18 (by kernel_rfl) ⟨ho19,trivial⟩ fun _ _ H21 hb => ?_
  replace hS:=hS.below hb
  refine w_if H21 rfl (fun hc => ?_) (fun hc => ?c55)
  case c55 =>
   replace hm:=bF hc hm
   apply w_skip
   obtain rfl:=someE hm
   exact ⟨_,rfl,FrG.keep (ks:=[2,8,9,0,1]) H21 (by kernel_rfl),hS⟩
  replace hm:=bT hc hm
  apply w_block
  obtain ⟨ho22,hm⟩:=chkE hm
  obtain ⟨x23,hx23,hm⟩:=letE hm
  refine s_reg [(vU (strconv_lower (bat s 1)))] [0,2,8,9,40] (fS [0,2,8,9,40] [vS s,vI bitSize,vB (base == 0),vS s,vB x23]) [fun _ => ((decide (3 ≤ (ln s))) = true ∧ True → 0 ≤ (1 : Int) ∧ (1 : Int) < ln s),fun wz => ((decide (3 ≤ (ln s))) = true ∧ True → RetB Tryz.prog 132 ⟨[vU (bat s 1)]⟩ (vU (strconv_lower (bat s 1))) wz)] H21 (by subst hx23; kernel_rfl) ⟨fun hg => (ho22 hg.1),fun hg => (strconv_lower_ok _).b,trivial⟩ fun _ _ H25 hb => ?_
  replace hS:=hS.below hb
  refine w_if H25 rfl (fun hc => ?c54) (fun hc => ?_)
  case c54 =>
   replace hm:=bT hc hm
   refine s_reg [] [0,1,2,8,9] (fS [0,1,2,8,9] [vS s,vI 2,vI bitSize,vB (base == 0),vS s]) [] H25 (by kernel_rfl) trivial fun _ _ H27 hb => ?_
   replace hS:=hS.below hb
   obtain ⟨ho28,hm⟩:=chkE hm
   refine w_reg [] [0,1,2,8,9] (fS [0,1,2,8,9] [vS (sub s 2 (ln s)),vI 2,vI bitSize,vB (base == 0),vS s]) [fun _ => 0 ≤ (2 : Int) ∧ (2 : Int) ≤ ln s] H27 (by kernel_rfl) ⟨ho28,trivial⟩ fun _ _ H30 hb => ?_
   replace hS:=hS.below hb
   obtain rfl:=someE hm
   exact ⟨_,rfl,FrG.keep (ks:=[2,8,9,0,1]) H30 (by kernel_rfl),hS⟩
  replace hm:=bF hc hm
  obtain ⟨x31,hx31,hm⟩:=letE hm
  refine s_reg [(vU (strconv_lower (bat s 1)))] [0,2,8,9,52] (fS [0,2,8,9,52] [vS s,vI bitSize,vB (base == 0),vS s,vB x31]) [fun _ => ((decide (3 ≤ (ln s))) = true ∧ True → 0 ≤ (1 : Int) ∧ (1 : Int) < ln s),fun wz => ((decide (3 ≤ (ln s))) = true ∧ True → RetB Tryz.prog 132 ⟨[vU (bat s 1)]⟩ (vU (strconv_lower (bat s 1))) wz)] H25 (by subst hx31; kernel_rfl) ⟨fun hg => (ho22 hg.1),fun hg => (strconv_lower_ok _).b,trivial⟩ fun _ _ H33 hb => ?_
  replace hS:=hS.below hb
  refine w_if H33 rfl (fun hc => ?c53) (fun hc => ?_)
  case c53 =>
   replace hm:=bT hc hm
   refine s_reg [] [0,1,2,8,9] (fS [0,1,2,8,9] [vS s,vI 8,vI bitSize,vB (base == 0),vS s]) [] H33 (by kernel_rfl) trivial fun _ _ H35 hb => ?_
   replace hS:=hS.below hb
   obtain ⟨ho36,hm⟩:=chkE hm
   refine w_reg [] [0,1,2,8,9] (fS [0,1,2,8,9] [vS (sub s 2 (ln s)),vI 8,vI bitSize,vB (base == 0),vS s]) [fun _ => 0 ≤ (2 : Int) ∧ (2 : Int) ≤ ln s] H35 (by kernel_rfl) ⟨ho36,trivial⟩ fun _ _ H38 hb => ?_
   replace hS:=hS.below hb
   obtain rfl:=someE hm
   exact ⟨_,rfl,FrG.keep (ks:=[2,8,9,0,1]) H38 (by kernel_rfl),hS⟩
  replace hm:=bF hc hm
  obtain ⟨x39,hx39,hm⟩:=letE hm
  refine s_reg [(vU (strconv_lower (bat s 1)))] [0,2,8,9,64] (fS [0,2,8,9,64] [vS s,vI bitSize,vB (base == 0),vS s,vB x39]) [fun _ => ((decide (3 ≤ (ln s))) = true ∧ True → 0 ≤ (1 : Int) ∧ (1 : Int) < ln s),fun wz => ((decide (3 ≤ (ln s))) = true ∧ True → RetB Tryz.prog 132 ⟨[vU (bat s 1)]⟩ (vU (strconv_lower (bat s 1))) wz)] H33 (by subst hx39; kernel_rfl) ⟨fun hg => (ho22 hg.1),fun hg => (strconv_lower_ok _).b,trivial⟩ fun _ _ H41 hb => ?_
  replace hS:=hS.below hb
  refine w_if H41 rfl (fun hc => ?_) (fun hc => ?c52)
  case c52 =>
   replace hm:=bF hc hm
   refine s_reg [] [0,1,2,8,9] (fS [0,1,2,8,9] [vS s,vI 8,vI bitSize,vB (base == 0),vS s]) [] H41 (by kernel_rfl) trivial fun _ _ H48 hb => ?_
   replace hS:=hS.below hb
   obtain ⟨ho49,hm⟩:=chkE hm
   refine w_reg [] [0,1,2,8,9] (fS [0,1,2,8,9] [vS (sub s 1 (ln s)),vI 8,vI bitSize,vB (base == 0),vS s]) [fun _ => 0 ≤ (1 : Int) ∧ (1 : Int) ≤ ln s] H48 (by kernel_rfl) ⟨ho49,trivial⟩ fun _ _ H51 hb => ?_
   replace hS:=hS.below hb
   obtain rfl:=someE hm
   exact ⟨_,rfl,FrG.keep (ks:=[2,8,9,0,1]) H51 (by kernel_rfl),hS⟩
  replace hm:=bT hc hm
  refine s_reg [] [0,1,2,8,9] (fS [0,1,2,8,9] [vS s,vI 16,vI bitSize,vB (base == 0),vS s]) [] H41 (by kernel_rfl) trivial fun _ _ H43 hb => ?_
  replace hS:=hS.below hb
  obtain ⟨ho44,hm⟩:=chkE hm
  refine w_reg [] [0,1,2,8,9] (fS [0,1,2,8,9] [vS (sub s 2 (ln s)),vI 16,vI bitSize,vB (base == 0),vS s]) [fun _ => 0 ≤ (2 : Int) ∧ (2 : Int) ≤ ln s] H43 (by kernel_rfl) ⟨ho44,trivial⟩ fun _ _ H46 hb => ?_
  replace hS:=hS.below hb
  obtain rfl:=someE hm
  exact ⟨_,rfl,FrG.keep (ks:=[2,8,9,0,1]) H46 (by kernel_rfl),hS⟩
 ·rintro _ _ ⟨s_z11,hz,H,hS⟩
  subst hz
  replace hm:=sumR hm_z11
  obtain ⟨z60,hz,hm_z60⟩:=bindE hm
  refine w_cut (fun a' w' => ∃ s_z60 : Int,z60 = Sum.inr s_z60 ∧ Fr 172 (fS [0,1,8,9,2] [vS s_z11.1,vI s_z11.2,vB (base == 0),vS s,vI s_z60]) a' ∧ SH M X w [] w') ?_ ?_
  ·replace hm:=hz
   refine s_reg [] [0,1,2,8,9,77] (fS [0,1,2,8,9,77] [vS s_z11.1,vI s_z11.2,vI bitSize,vB (base == 0),vS s,vB (bitSize == 0)]) [] H (by kernel_rfl) trivial fun _ _ H62 hb => ?_
   replace hS:=hS.below hb
   refine w_if H62 rfl (fun hc => ?c71) (fun hc => ?_)
   case c71 =>
    replace hm:=bT hc hm
    refine w_reg [] [0,1,2,8,9] (fS [0,1,2,8,9] [vS s_z11.1,vI s_z11.2,vI 64,vB (base == 0),vS s]) [] H62 (by kernel_rfl) trivial fun _ _ H64 hb => ?_
    replace hS:=hS.below hb
    obtain rfl:=someE hm
    exact ⟨_,rfl,FrG.keep (ks:=[0,1,8,9,2]) H64 (by kernel_rfl),hS⟩
   replace hm:=bF hc hm
   obtain ⟨x65,hx65,hm⟩:=letE hm
   refine s_reg [] [0,1,2,8,9,83] (fS [0,1,2,8,9,83] [vS s_z11.1,vI s_z11.2,vI bitSize,vB (base == 0),vS s,vB x65]) [] H62 (by subst hx65; kernel_rfl) trivial fun _ _ H67 hb => ?_
   replace hS:=hS.below hb
   refine w_if H67 rfl (fun hc => ?_) (fun hc => ?c70)
   case c70 =>
    replace hm:=bF hc hm
    apply w_skip
    obtain rfl:=someE hm
    exact ⟨_,rfl,FrG.keep (ks:=[0,1,8,9,2]) H67 (by kernel_rfl),hS⟩
   replace hm:=bT hc hm
   refine s_reg [] [6,7] (fS [6,7] [.int .u64 0,.iface 182 (vI 4)]) [] H67 (by kernel_rfl) trivial fun _ _ H69 hb => ?_
   replace hS:=hS.below hb
   exact noneE hm
  ·rintro _ _ ⟨s_z60,hz,H,hS⟩
   subst hz
   replace hm:=sumR hm_z60
   refine s_reg [] [0,1,2,8,9] (fS [0,1,2,8,9] [vS s_z11.1,vI s_z11.2,vI s_z60,vB (base == 0),vS s]) [] H (by kernel_rfl) trivial fun _ _ H73 hb => ?_
   replace hS:=hS.below hb
   obtain ⟨z74,hz,hm⟩:=bindE hm
   refine w_cut (fun a' w' => Fr 172 (fS [0,1,2,8,9,10] [vS s_z11.1,vI s_z11.2,vI s_z60,vB (base == 0),vS s,.int .u64 z74]) a' ∧ SH M X w [] w') ?_ ?_
   ·replace hm:=hz
    refine s_reg [] [0,1,2,8,9,85] (fS [0,1,2,8,9,85] [vS s_z11.1,vI s_z11.2,vI s_z60,vB (base == 0),vS s,vI s_z11.2]) [] H73 (by kernel_rfl) trivial fun _ _ H76 hb => ?_
    replace hS:=hS.below hb
    apply w_block
    refine s_reg [] [0,1,2,8,9,85,90] (fS [0,1,2,8,9,85,90] [vS s_z11.1,vI s_z11.2,vI s_z60,vB (base == 0),vS s,vI s_z11.2,vB (s_z11.2 == 10)]) [] H76 (by kernel_rfl) trivial fun _ _ H78 hb => ?_
    replace hS:=hS.below hb
    refine w_if H78 rfl (fun hc => ?c90) (fun hc => ?_)
    case c90 =>
     replace hm:=bT hc hm
     refine w_reg [] [0,1,2,8,9,10] (fS [0,1,2,8,9,10] [vS s_z11.1,vI s_z11.2,vI s_z60,vB (base == 0),vS s,.int .u64 1844674407370955162]) [] H78 (by kernel_rfl) trivial fun _ _ H80 hb => ?_
     replace hS:=hS.below hb
     obtain rfl:=someE hm
     exact ⟨FrG.keep (ks:=[0,1,2,8,9,10]) H80 (by kernel_rfl),hS⟩
    replace hm:=bF hc hm
    refine s_reg [] [0,1,2,8,9,92] (fS [0,1,2,8,9,92] [vS s_z11.1,vI s_z11.2,vI s_z60,vB (base == 0),vS s,vB (s_z11.2 == 16)]) [] H78 (by kernel_rfl) trivial fun _ _ H82 hb => ?_
    replace hS:=hS.below hb
    refine w_if H82 rfl (fun hc => ?c89) (fun hc => ?_)
    case c89 =>
     replace hm:=bT hc hm
     refine w_reg [] [0,1,2,8,9,10] (fS [0,1,2,8,9,10] [vS s_z11.1,vI s_z11.2,vI s_z60,vB (base == 0),vS s,.int .u64 1152921504606846976]) [] H82 (by kernel_rfl) trivial fun _ _ H84 hb => ?_
     replace hS:=hS.below hb
     obtain rfl:=someE hm
     exact ⟨FrG.keep (ks:=[0,1,2,8,9,10]) H84 (by kernel_rfl),hS⟩
    replace hm:=bF hc hm
    obtain ⟨ho85,hm⟩:=chkE hm
    obtain ⟨x86,hx86,hm⟩:=letE hm
    refine w_reg [] [0,1,2,8,9,10] (fS [0,1,2,8,9,10] [vS s_z11.1,vI s_z11.2,vI s_z60,vB (base == 0),vS s,.int .u64 (wu64 (x86 + 1))]) [fun _ => (wu64 s_z11.2) ≠ 0] H82 (by subst hx86; kernel_rfl) ⟨ho85,trivial⟩ fun _ _ H88 hb => ?_
    replace hS:=hS.below hb
    obtain rfl:=someE hm
    exact ⟨FrG.keep (ks:=[0,1,2,8,9,10]) H88 (by kernel_rfl),hS⟩
   ·rintro _ _ ⟨H,hS⟩
    obtain ⟨ho91,hm⟩:=chkE hm
    obtain ⟨x92,hx92,hm⟩:=letE hm
    refine s_reg [] [0,1,8,9,10,11] (fS [0,1,8,9,10,11] [vS s_z11.1,vI s_z11.2,vB (base == 0),vS s,.int .u64 z74,.int .u64 (wu64 (x92 - 1))]) [fun _ => 0 ≤ (wu64 s_z60)] H (by subst hx92; kernel_rfl) ⟨ho91,trivial⟩ fun _ _ H94 hb => ?_
    replace hS:=hS.below hb
    refine s_reg [] [0,1,8,9,10,11,12] (fS [0,1,8,9,10,11,12] [vS s_z11.1,vI s_z11.2,vB (base == 0),vS s,.int .u64 z74,.int .u64 (wu64 (x92 - 1)),vF]) [] H94 (by kernel_rfl) trivial fun _ _ H96 hb => ?_
    replace hS:=hS.below hb
    refine s_reg [] [0,1,8,9,10,11,12,13] (fS [0,1,8,9,10,11,12,13] [vS s_z11.1,vI s_z11.2,vB (base == 0),vS s,.int .u64 z74,.int .u64 (wu64 (x92 - 1)),vF,.int .u64 0]) [] H96 (by kernel_rfl) trivial fun _ _ H98 hb => ?_
    replace hS:=hS.below hb
    obtain ⟨z99,hz,hm_z99⟩:=bindE hm
    refine w_cut (fun a' w' => ∃ s_z99 : Bool × Int,z99 = Sum.inr s_z99 ∧ Fr 172 (fS [9,12,13] [vS s,vB s_z99.1,.int .u64 s_z99.2]) a' ∧ SH M X w [] w') ?_ ?_
    ·replace hm:=hz
     apply w_seq
     apply wl_start
     refine wl_batch 0 1 [] [1,8,9,10,11,12,13,98] (fS [1,8,9,10,11,12,13,98] [vI s_z11.2,vB (base == 0),vS s,.int .u64 z74,.int .u64 (wu64 (x92 - 1)),vF,.int .u64 0,vS s_z11.1]) [] H98 (by decide) (by kernel_rfl) trivial fun _ _ H101 hb => ?_
     replace hS:=hS.below hb
     have hd:=hS.hand [] [] rfl rfl
     refine m_stp [99,1,8,9,10,11,12,13] (fS [1,8,9,10,11,12,13] [vI s_z11.2,vB (base == 0),vS s,.int .u64 z74,.int .u64 (wu64 (x92 - 1)),vF,.int .u64 0]) H101 rfl rfl rfl rfl (o_bytes (E:=5) H101 hd rfl (by kernel_rfl) (by kernel_rfl) (by kernel_rfl)) (fun _ => rfl) fun _ _ v H105 hq => ?_
     obtain ⟨b102,c103,rfl,hc_b102,hq⟩:=hq
     replace hS : SH M X w [Ent.row .u8 b102 (ofB s_z11.1) (ln (ofB s_z11.1))] _:=hS.join [] [] rfl rfl hq
     refine wl_batch 2 4 [] [1,8,9,10,11,12,13,99,100,101] (fS [1,8,9,10,11,12,13,99,100,101] [vI s_z11.2,vB (base == 0),vS s,.int .u64 z74,.int .u64 (wu64 (x92 - 1)),vF,.int .u64 0,.slice (some ⟨b102,0,none⟩) ((ofB s_z11.1).length) c103,vI (ln (ofB s_z11.1)),vI 0]) [] H105 (by decide) (by kernel_rfl) trivial fun _ _ H107 hb => ?_
     replace hS:=hS.below hb
     apply wl_end rfl
     apply w_block
     refine w_loop (fun kk a' w' => ∃ (v108 : Bool) (v109 : Int) (v110 : Int),strconv_ParseUint_2_L1 m base s_z11 z74 x92 kk v108 v109 v110 = some _ ∧ Fr 172 (fS [1,8,9,10,11,99,100,12,13,101] [vI s_z11.2,vB (base == 0),vS s,.int .u64 z74,.int .u64 (wu64 (x92 - 1)),.slice (some ⟨b102,0,none⟩) ((ofB s_z11.1).length) c103,vI (ln (ofB s_z11.1)),vB v108,.int .u64 v109,vI v110]) a' ∧ SH M X w [Ent.row .u8 b102 (ofB s_z11.1) (ln (ofB s_z11.1))] w') ⟨_,false,0,0,hm,FrG.keep (ks:=[1,8,9,10,11,99,100,12,13,101]) H107 (by kernel_rfl),hS⟩ ?_
     clear hm H107 hS
     rintro kk _ _ ⟨v108,v109,v110,hm,H,hS⟩
     cases kk with
     | zero => exact noneE hm
     | succ kk =>
      rw [strconv_ParseUint_2_L1] at hm
      refine s_reg [] [1,8,9,10,11,12,13,99,100,101,102] (fS [1,8,9,10,11,12,13,99,100,101,102] [vI s_z11.2,vB (base == 0),vS s,.int .u64 z74,.int .u64 (wu64 (x92 - 1)),vB v108,.int .u64 v109,.slice (some ⟨b102,0,none⟩) ((ofB s_z11.1).length) c103,vI (ln (ofB s_z11.1)),vI v110,vB (decide (v110 < (ln (ofB s_z11.1))))]) [] H (by kernel_rfl) trivial fun _ _ H112 hb => ?_
      replace hS:=hS.below hb
      apply w_seq
      refine w_if H112 rfl (fun hc => ?_) (fun hc => ?c171)
      case c171 =>
       replace hm:=bF hc hm
       apply w_exit rfl
       obtain rfl:=someE hm
       replace hS : SH M X w [] _:=hS.sel [] rfl
       exact ⟨_,rfl,FrG.keep (ks:=[9,12,13]) H112 (by kernel_rfl),hS⟩
      replace hm:=bT hc hm
      apply w_skip
      obtain ⟨z113,hz,hm_z113⟩:=bindE hm
      refine w_cut (fun a' w' => ∃ s_z113 : Bool × Int,z113 = Sum.inr s_z113 ∧ Fr 172 (fS [1,8,9,10,11,99,100,101,12,13] [vI s_z11.2,vB (base == 0),vS s,.int .u64 z74,.int .u64 (wu64 (x92 - 1)),.slice (some ⟨b102,0,none⟩) ((ofB s_z11.1).length) c103,vI (ln (ofB s_z11.1)),vI v110,vB s_z113.1,.int .u64 s_z113.2]) a' ∧ SH M X w [Ent.row .u8 b102 (ofB s_z11.1) (ln (ofB s_z11.1))] w') ?_ ?_
      ·replace hm:=hz
       apply w_block
       obtain ⟨ho114,hm⟩:=chkE hm
       refine s_reg [(vU (gi (ofB s_z11.1) v110))] [1,8,9,10,11,12,13,15,99,100,101] (fS [1,8,9,10,11,12,13,15,99,100,101] [vI s_z11.2,vB (base == 0),vS s,.int .u64 z74,.int .u64 (wu64 (x92 - 1)),vB v108,.int .u64 v109,vU (gi (ofB s_z11.1) v110),.slice (some ⟨b102,0,none⟩) ((ofB s_z11.1).length) c103,vI (ln (ofB s_z11.1)),vI v110]) [fun _ => oka (some ⟨b102,0,none⟩) ∧ 0 ≤ v110 ∧ v110 < ln (ofB s_z11.1),fun wz => V.at1 ⟨b102,0 + (v110).toNat * 1,none⟩ (vU (gi (ofB s_z11.1) v110)) wz] H112 (by kernel_rfl) ⟨(⟨rfl,ho114⟩),(Rw.ixn (hS.rw 0 rfl) ho114),trivial⟩ fun _ _ H116 hb => ?_
       replace hS:=hS.below hb
       refine s_reg [] [1,8,9,10,11,12,13,15,99,100,101] (fS [1,8,9,10,11,12,13,15,99,100,101] [vI s_z11.2,vB (base == 0),vS s,.int .u64 z74,.int .u64 (wu64 (x92 - 1)),vB v108,.int .u64 v109,vU (gi (ofB s_z11.1) v110),.slice (some ⟨b102,0,none⟩) ((ofB s_z11.1).length) c103,vI (ln (ofB s_z11.1)),vI v110]) [] H116 (by kernel_rfl) trivial fun _ _ H118 hb => ?_
       replace hS:=hS.below hb
       obtain ⟨z119,hz,hm_z119⟩:=bindE hm
       refine w_cut (fun a' w' => ∃ s_z119 : Bool × Int,z119 = Sum.inr s_z119 ∧ Fr 172 (fS [1,8,9,10,11,13,99,100,101,12,16] [vI s_z11.2,vB (base == 0),vS s,.int .u64 z74,.int .u64 (wu64 (x92 - 1)),.int .u64 v109,.slice (some ⟨b102,0,none⟩) ((ofB s_z11.1).length) c103,vI (ln (ofB s_z11.1)),vI v110,vB s_z119.1,vU s_z119.2]) a' ∧ SH M X w [Ent.row .u8 b102 (ofB s_z11.1) (ln (ofB s_z11.1))] w') ?_ ?_
       ·replace hm:=hz
        apply w_block
        obtain ⟨x120,hx120,hm⟩:=letE hm
        refine s_reg [] [1,8,9,10,11,12,13,15,99,100,101,106] (fS [1,8,9,10,11,12,13,15,99,100,101,106] [vI s_z11.2,vB (base == 0),vS s,.int .u64 z74,.int .u64 (wu64 (x92 - 1)),vB v108,.int .u64 v109,vU (gi (ofB s_z11.1) v110),.slice (some ⟨b102,0,none⟩) ((ofB s_z11.1).length) c103,vI (ln (ofB s_z11.1)),vI v110,vB x120]) [] H118 (by subst hx120; kernel_rfl) trivial fun _ _ H122 hb => ?_
        replace hS:=hS.below hb
        refine w_if H122 rfl (fun hc => ?c142) (fun hc => ?_)
        case c142 =>
         replace hm:=bT hc hm
         refine s_reg [] [1,8,9,10,11,12,13,99,100,101] (fS [1,8,9,10,11,12,13,99,100,101] [vI s_z11.2,vB (base == 0),vS s,.int .u64 z74,.int .u64 (wu64 (x92 - 1)),vT,.int .u64 v109,.slice (some ⟨b102,0,none⟩) ((ofB s_z11.1).length) c103,vI (ln (ofB s_z11.1)),vI v110]) [] H122 (by kernel_rfl) trivial fun _ _ H124 hb => ?_
         replace hS:=hS.below hb
         apply w_exit rfl
         obtain ⟨r125,hr_r125,hm⟩:=bindE hm
         obtain rfl:=someE hm
         have hm:=hm_z119
         obtain rfl:=someE hm
         have hm:=hr_r125
         clear hr_r125
         obtain rfl:=someE hm
         exact ⟨_,rfl,FrG.keep (ks:=[1,8,9,10,11,99,100,101,12,13]) H124 (by kernel_rfl),hS⟩
        replace hm:=bF hc hm
        obtain ⟨x126,hx126,hm⟩:=letE hm
        refine s_reg [] [1,8,9,10,11,12,13,15,99,100,101,112] (fS [1,8,9,10,11,12,13,15,99,100,101,112] [vI s_z11.2,vB (base == 0),vS s,.int .u64 z74,.int .u64 (wu64 (x92 - 1)),vB v108,.int .u64 v109,vU (gi (ofB s_z11.1) v110),.slice (some ⟨b102,0,none⟩) ((ofB s_z11.1).length) c103,vI (ln (ofB s_z11.1)),vI v110,vB x126]) [] H122 (by subst hx126; kernel_rfl) trivial fun _ _ H128 hb => ?_
        replace hS:=hS.below hb
        refine w_if H128 rfl (fun hc => ?c141) (fun hc => ?_)
        case c141 =>
         replace hm:=bT hc hm
         refine w_reg [] [1,8,9,10,11,12,13,16,99,100,101] (fS [1,8,9,10,11,12,13,16,99,100,101] [vI s_z11.2,vB (base == 0),vS s,.int .u64 z74,.int .u64 (wu64 (x92 - 1)),vB v108,.int .u64 v109,vU (wu8 ((gi (ofB s_z11.1) v110) - 48)),.slice (some ⟨b102,0,none⟩) ((ofB s_z11.1).length) c103,vI (ln (ofB s_z11.1)),vI v110]) [] H128 (by kernel_rfl) trivial fun _ _ H130 hb => ?_
         replace hS:=hS.below hb
         obtain rfl:=someE hm
         exact ⟨_,rfl,FrG.keep (ks:=[1,8,9,10,11,13,99,100,101,12,16]) H130 (by kernel_rfl),hS⟩
        replace hm:=bF hc hm
        obtain ⟨x131,hx131,hm⟩:=letE hm
        obtain ⟨x132,hx132,hm⟩:=letE hm
        refine s_reg [(vU (strconv_lower (gi (ofB s_z11.1) v110))),(vU (strconv_lower (gi (ofB s_z11.1) v110)))] [1,8,9,10,11,12,13,15,99,100,101,121] (fS [1,8,9,10,11,12,13,15,99,100,101,121] [vI s_z11.2,vB (base == 0),vS s,.int .u64 z74,.int .u64 (wu64 (x92 - 1)),vB v108,.int .u64 v109,vU (gi (ofB s_z11.1) v110),.slice (some ⟨b102,0,none⟩) ((ofB s_z11.1).length) c103,vI (ln (ofB s_z11.1)),vI v110,vB x132]) [rB 132 [vU (gi (ofB s_z11.1) v110)] (vU (strconv_lower (gi (ofB s_z11.1) v110))),fun wz => (x131 = true ∧ True → RetB Tryz.prog 132 ⟨[vU (gi (ofB s_z11.1) v110)]⟩ (vU (strconv_lower (gi (ofB s_z11.1) v110))) wz)] H128 (by subst hx131 hx132; kernel_rfl) ⟨((strconv_lower_ok _).b),fun hg => (strconv_lower_ok _).b,trivial⟩ fun _ _ H134 hb => ?_
        replace hS:=hS.below hb
        refine w_if H134 rfl (fun hc => ?_) (fun hc => ?c140)
        case c140 =>
         replace hm:=bF hc hm
         refine s_reg [] [6,7] (fS [6,7] [.int .u64 0,.iface 182 (vI 2)]) [] H134 (by kernel_rfl) trivial fun _ _ H139 hb => ?_
         replace hS:=hS.below hb
         exact noneE hm
        replace hm:=bT hc hm
        obtain ⟨x135,hx135,hm⟩:=letE hm
        refine w_reg [(vU (strconv_lower (gi (ofB s_z11.1) v110)))] [1,8,9,10,11,12,13,16,99,100,101] (fS [1,8,9,10,11,12,13,16,99,100,101] [vI s_z11.2,vB (base == 0),vS s,.int .u64 z74,.int .u64 (wu64 (x92 - 1)),vB v108,.int .u64 v109,vU (wu8 (x135 + 10)),.slice (some ⟨b102,0,none⟩) ((ofB s_z11.1).length) c103,vI (ln (ofB s_z11.1)),vI v110]) [rB 132 [vU (gi (ofB s_z11.1) v110)] (vU (strconv_lower (gi (ofB s_z11.1) v110)))] H134 (by subst hx135; kernel_rfl) ⟨((strconv_lower_ok _).b),trivial⟩ fun _ _ H137 hb => ?_
        replace hS:=hS.below hb
        obtain rfl:=someE hm
        exact ⟨_,rfl,FrG.keep (ks:=[1,8,9,10,11,13,99,100,101,12,16]) H137 (by kernel_rfl),hS⟩
       ·rintro _ _ ⟨s_z119,hz,H,hS⟩
        subst hz
        replace hm:=sumR hm_z119
        apply w_seq
        refine s_reg [] [1,8,9,10,11,12,13,16,99,100,101,137] (fS [1,8,9,10,11,12,13,16,99,100,101,137] [vI s_z11.2,vB (base == 0),vS s,.int .u64 z74,.int .u64 (wu64 (x92 - 1)),vB s_z119.1,.int .u64 v109,vU s_z119.2,.slice (some ⟨b102,0,none⟩) ((ofB s_z11.1).length) c103,vI (ln (ofB s_z11.1)),vI v110,vB (decide ((wu8 s_z11.2) ≤ s_z119.2))]) [] H (by kernel_rfl) trivial fun _ _ H144 hb => ?_
        replace hS:=hS.below hb
        refine w_if H144 rfl (fun hc => ?c166) (fun hc => ?_)
        case c166 =>
         replace hm:=bT hc hm
         refine s_reg [] [6,7] (fS [6,7] [.int .u64 0,.iface 182 (vI 2)]) [] H144 (by kernel_rfl) trivial fun _ _ H146 hb => ?_
         replace hS:=hS.below hb
         exact noneE hm
        replace hm:=bF hc hm
        apply w_skip
        apply w_seq
        refine s_reg [] [1,8,9,10,11,12,13,16,99,100,101,141] (fS [1,8,9,10,11,12,13,16,99,100,101,141] [vI s_z11.2,vB (base == 0),vS s,.int .u64 z74,.int .u64 (wu64 (x92 - 1)),vB s_z119.1,.int .u64 v109,vU s_z119.2,.slice (some ⟨b102,0,none⟩) ((ofB s_z11.1).length) c103,vI (ln (ofB s_z11.1)),vI v110,vB (decide (z74 ≤ v109))]) [] H144 (by kernel_rfl) trivial fun _ _ H148 hb => ?_
        replace hS:=hS.below hb
        refine w_if H148 rfl (fun hc => ?c165) (fun hc => ?_)
        case c165 =>
         replace hm:=bT hc hm
         refine s_reg [] [6,7] (fS [6,7] [.int .u64 (wu64 (x92 - 1)),.iface 182 (vI 1)]) [] H148 (by kernel_rfl) trivial fun _ _ H150 hb => ?_
         replace hS:=hS.below hb
         exact noneE hm
        replace hm:=bF hc hm
        apply w_skip
        refine s_reg [] [1,8,9,10,11,12,13,16,99,100,101] (fS [1,8,9,10,11,12,13,16,99,100,101] [vI s_z11.2,vB (base == 0),vS s,.int .u64 z74,.int .u64 (wu64 (x92 - 1)),vB s_z119.1,.int .u64 (wu64 (v109 * (wu64 s_z11.2))),vU s_z119.2,.slice (some ⟨b102,0,none⟩) ((ofB s_z11.1).length) c103,vI (ln (ofB s_z11.1)),vI v110]) [] H148 (by kernel_rfl) trivial fun _ _ H152 hb => ?_
        replace hS:=hS.below hb
        obtain ⟨x153,hx153,hm⟩:=letE hm
        refine s_reg [] [1,8,9,10,11,12,13,17,99,100,101] (fS [1,8,9,10,11,12,13,17,99,100,101] [vI s_z11.2,vB (base == 0),vS s,.int .u64 z74,.int .u64 (wu64 (x92 - 1)),vB s_z119.1,.int .u64 (wu64 (v109 * (wu64 s_z11.2))),.int .u64 x153,.slice (some ⟨b102,0,none⟩) ((ofB s_z11.1).length) c103,vI (ln (ofB s_z11.1)),vI v110]) [] H152 (by subst hx153; kernel_rfl) trivial fun _ _ H155 hb => ?_
        replace hS:=hS.below hb
        apply w_seq
        obtain ⟨x156,hx156,hm⟩:=letE hm
        obtain ⟨x157,hx157,hm⟩:=letE hm
        refine s_reg [] [1,8,9,10,11,12,17,99,100,101,159] (fS [1,8,9,10,11,12,17,99,100,101,159] [vI s_z11.2,vB (base == 0),vS s,.int .u64 z74,.int .u64 (wu64 (x92 - 1)),vB s_z119.1,.int .u64 x153,.slice (some ⟨b102,0,none⟩) ((ofB s_z11.1).length) c103,vI (ln (ofB s_z11.1)),vI v110,vB x157]) [] H155 (by subst hx156 hx157; kernel_rfl) trivial fun _ _ H159 hb => ?_
        replace hS:=hS.below hb
        refine w_if H159 rfl (fun hc => ?c164) (fun hc => ?_)
        case c164 =>
         replace hm:=bT hc hm
         refine s_reg [] [6,7] (fS [6,7] [.int .u64 (wu64 (x92 - 1)),.iface 182 (vI 1)]) [] H159 (by kernel_rfl) trivial fun _ _ H161 hb => ?_
         replace hS:=hS.below hb
         exact noneE hm
        replace hm:=bF hc hm
        apply w_skip
        refine w_reg [] [1,8,9,10,11,12,13,99,100,101] (fS [1,8,9,10,11,12,13,99,100,101] [vI s_z11.2,vB (base == 0),vS s,.int .u64 z74,.int .u64 (wu64 (x92 - 1)),vB s_z119.1,.int .u64 x153,.slice (some ⟨b102,0,none⟩) ((ofB s_z11.1).length) c103,vI (ln (ofB s_z11.1)),vI v110]) [] H159 (by kernel_rfl) trivial fun _ _ H163 hb => ?_
        replace hS:=hS.below hb
        obtain rfl:=someE hm
        exact ⟨_,rfl,FrG.keep (ks:=[1,8,9,10,11,99,100,101,12,13]) H163 (by kernel_rfl),hS⟩
      ·rintro _ _ ⟨s_z113,hz,H,hS⟩
       subst hz
       replace hm:=sumR hm_z113
       refine w_reg [] [1,8,9,10,11,12,13,99,100,101] (fS [1,8,9,10,11,12,13,99,100,101] [vI s_z11.2,vB (base == 0),vS s,.int .u64 z74,.int .u64 (wu64 (x92 - 1)),vB s_z113.1,.int .u64 s_z113.2,.slice (some ⟨b102,0,none⟩) ((ofB s_z11.1).length) c103,vI (ln (ofB s_z11.1)),vI (w64 (v110 + 1))]) [] H (by kernel_rfl) trivial fun _ _ H169 hb => ?_
       replace hS:=hS.below hb
       exact ⟨_,Nat.lt_succ_self _,s_z113.1,s_z113.2,w64 (v110 + 1),hm,FrG.keep (ks:=[1,8,9,10,11,99,100,12,13,101]) H169 (by kernel_rfl),hS⟩
    ·rintro _ _ ⟨s_z99,hz,H,hS⟩
     subst hz
     replace hm:=sumR hm_z99
     apply w_seq
     obtain ⟨y173,hy173,hm⟩:=bindE hm
     refine s_reg [(vB y173)] [13,169] (fS [13,169] [.int .u64 s_z99.2,vB (cond s_z99.1 (!y173) false)]) [fun wz => (s_z99.1 = true ∧ True → RetB Tryz.prog 133 ⟨[vS s]⟩ (vB y173) wz)] H (by kernel_rfl) ⟨fun hg => (strconv_underscoreOK_ok m _ _ (bT (hg.1) hy173)).b,trivial⟩ fun _ _ H175 hb => ?_
     replace hS:=hS.below hb
     refine w_if H175 rfl (fun hc => ?c180) (fun hc => ?_)
     case c180 =>
      replace hm:=bT hc hm
      refine s_reg [] [6,7] (fS [6,7] [.int .u64 0,.iface 182 (vI 2)]) [] H175 (by kernel_rfl) trivial fun _ _ H177 hb => ?_
      replace hS:=hS.below hb
      exact noneE hm
     replace hm:=bF hc hm
     apply w_skip
     refine s_reg [] [6,7] (fS [6,7] [.int .u64 s_z99.2,.nilIface]) [] H175 (by kernel_rfl) trivial fun _ _ H179 hb => ?_
     replace hS:=hS.below hb
     apply w_ret
     obtain rfl:=someE hm
     exact retR2 H179 rfl rfl rfl ⟨_,rfl,rfl,(hS.sel [] rfl)⟩
theorem strconv_ParseUint_2_ok  (m : Nat) (s : Str) (base : Int) (bitSize : Int) (r : Int) (hm : strconv_ParseUint_2 m s base bitSize = some r) : Ret Tryz.prog 118 ⟨[vS s,vI base,vI bitSize]⟩ (vW [.int .u64 r,.nilIface]):=retP_of (Tryz.call118 _) (fun w h => strconv_ParseUint_2_w F0 m   s base bitSize r hm w h)

theorem strconv_ParseUint_w  (M : Av) (m : Nat) (s : Str) (base : Int) (bitSize : Int) (r : Int) (hm : strconv_ParseUint m s base bitSize = some r) (w : World) (hS : S0 M [] w) : Calls Tryz.prog 98 ⟨[vS s,vI base,vI bitSize]⟩ w (fun e w' => ∃ v,e = .returned v ∧ v = vW [.int .u64 r,.nilIface] ∧ SH M (fpl []) w [] w'):=by
 rw [strconv_ParseUint] at hm
 have hS0 : SH M (fpl []) w [] w:=hS
 generalize hX : fpl [] = X at hS0 ⊢
 clear hS hX
 have hS:=hS0
 clear hS0
 refine calls_entryP Tryz.func98 rfl Tryz.ntmps98 rfl fun _ H => ?_
 refine s_reg [] [0,1,2] (fS [0,1,2] [vS s,vI base,vI bitSize]) [] H (by kernel_rfl) trivial fun _ _ H2 hb => ?_
 replace hS:=hS.below hb
 obtain ⟨y3,hy3,hm⟩:=bindE hm
 refine s_reg [(vW [.int .u64 y3,.nilIface])] [0,1,2,8,9] (fS [0,1,2,8,9] [vS s,vI base,vI bitSize,.int .u64 y3,.nilIface]) [rB 118 [vS s,vI base,vI bitSize] (vW [.int .u64 y3,.nilIface])] H2 (by kernel_rfl) ⟨((strconv_ParseUint_2_ok m _ _ _ _ hy3).b),trivial⟩ fun _ _ H5 hb => ?_
 replace hS:=hS.below hb
 apply w_seq
 refine s_reg [] [0,1,2,8,9,18] (fS [0,1,2,8,9,18] [vS s,vI base,vI bitSize,.int .u64 y3,.nilIface,vF]) [] H5 (by kernel_rfl) trivial fun _ _ H7 hb => ?_
 replace hS:=hS.below hb
 refine w_if H7 rfl (fun hc => by cases hc) (fun _ => ?_)
 apply w_skip
 refine s_reg [] [6,7] (fS [6,7] [.int .u64 y3,.nilIface]) [] H7 (by kernel_rfl) trivial fun _ _ H9 hb => ?_
 replace hS:=hS.below hb
 apply w_ret
 obtain rfl:=someE hm
 exact retR2 H9 rfl rfl rfl ⟨_,rfl,rfl,(hS.sel [] rfl)⟩
theorem strconv_ParseUint_ok  (m : Nat) (s : Str) (base : Int) (bitSize : Int) (r : Int) (hm : strconv_ParseUint m s base bitSize = some r) : Ret Tryz.prog 98 ⟨[vS s,vI base,vI bitSize]⟩ (vW [.int .u64 r,.nilIface]):=retP_of (Tryz.call98 _) (fun w h => strconv_ParseUint_w F0 m   s base bitSize r hm w h)

theorem parseval_hash_w  (M : Av) (m : Nat) (s : Str) (r : TColor × Bool) (hm : parseval_hash m s = some r) (w : World) (hS : S0 M [] w) : Calls Tryz.prog 87 ⟨[vS s]⟩ w (fun e w' => ∃ v,e = .returned v ∧ v = vW [vG (cC r.1),vB r.2] ∧ SH M (fpl []) w [] w'):=by
 rw [parseval_hash] at hm
 have hS0 : SH M (fpl []) w [] w:=hS
 generalize hX : fpl [] = X at hS0 ⊢
 clear hS hX
 have hS:=hS0
 clear hS0
 refine calls_entryP Tryz.func87 rfl Tryz.ntmps87 rfl fun _ H => ?_
 apply w_seq
 apply wl_start
 have hd:=hS.hand [] [] rfl rfl
 refine m_stp [2,0] [(0,[],vS s)] H rfl rfl rfl rfl (o_alloc [vU 0,vU 0,vU 0,vU 0] (z:=vG [vU 0,vU 0,vU 0,vU 0]) hd (by kernel_rfl) rfl) (fun _ => rfl) fun _ _ v H3 hq => ?_
 obtain ⟨b1,rfl,hq⟩:=hq
 replace hS : SH M X w [eB b1 [vU 0,vU 0,vU 0,vU 0]] _:=hS.join [] [] rfl rfl hq
 refine wl_batch 1 2 [] [0,2] (fS [0,2] [vS s,vP b1]) [] H3 (by decide) (by kernel_rfl) trivial fun _ _ H5 hb => ?_
 replace hS:=hS.below hb
 apply wl_end rfl
 obtain ⟨z6,hz,hm⟩:=bindE hm
 refine w_cut (fun a' w' => Fr 98 (fS [2,0] [vP b1,vS z6]) a' ∧ SH M X w [eB b1 [vU 0,vU 0,vU 0,vU 0]] w') ?_ ?_
 ·replace hm:=hz
  refine s_reg [] [0,2,4] (fS [0,2,4] [vS s,vP b1,vI (ln s)]) [] H5 (by kernel_rfl) trivial fun _ _ H8 hb => ?_
  replace hS:=hS.below hb
  refine s_reg [] [0,2,4,18] (fS [0,2,4,18] [vS s,vP b1,vI (ln s),vB (cond ((ln s) == 3) true ((ln s) == 4))]) [] H8 (by kernel_rfl) trivial fun _ _ H10 hb => ?_
  replace hS:=hS.below hb
  refine w_if H10 rfl (fun hc => ?_) (fun hc => ?c35)
  case c35 =>
   replace hm:=bF hc hm
   apply w_skip
   obtain rfl:=someE hm
   exact ⟨FrG.keep (ks:=[2,0]) H10 (by kernel_rfl),hS⟩
  replace hm:=bT hc hm
  refine s_reg [] [0,2,4,5] (fS [0,2,4,5] [vS s,vP b1,vI (ln s),vN]) [] H10 (by kernel_rfl) trivial fun _ _ H12 hb => ?_
  replace hS:=hS.below hb
  obtain ⟨z13,hz,hm⟩:=bindE hm
  refine w_cut (fun a' w' => Fr 98 (fS [2,5] [vP b1,vS z13]) a' ∧ SH M X w [eB b1 [vU 0,vU 0,vU 0,vU 0]] w') ?_ ?_
  ·replace hm:=hz
   refine s_reg [] [0,2,5,19,20] (fS [0,2,5,19,20] [vS s,vP b1,vN,vI (ln s),vI 0]) [] H12 (by kernel_rfl) trivial fun _ _ H15 hb => ?_
   replace hS:=hS.below hb
   apply w_block
   refine w_loop (fun kk a' w' => ∃ (v16 : Str) (v17 : Int),parseval_hash_L1 m s kk v16 v17 = some _ ∧ Fr 98 (fS [0,2,19,5,20] [vS s,vP b1,vI (ln s),vS v16,vI v17]) a' ∧ SH M X w [eB b1 [vU 0,vU 0,vU 0,vU 0]] w') ⟨_,[],0,hm,FrG.keep (ks:=[0,2,19,5,20]) H15 (by kernel_rfl),hS⟩ ?_
   clear hm H15 hS
   rintro kk _ _ ⟨v16,v17,hm,H,hS⟩
   cases kk with
   | zero => exact noneE hm
   | succ kk =>
    rw [parseval_hash_L1] at hm
    refine s_reg [] [0,2,5,19,20,21] (fS [0,2,5,19,20,21] [vS s,vP b1,vS v16,vI (ln s),vI v17,vB (decide (v17 < (ln s)))]) [] H (by kernel_rfl) trivial fun _ _ H19 hb => ?_
    replace hS:=hS.below hb
    apply w_seq
    refine w_if H19 rfl (fun hc => ?_) (fun hc => ?c30)
    case c30 =>
     replace hm:=bF hc hm
     apply w_exit rfl
     obtain rfl:=someE hm
     exact ⟨FrG.keep (ks:=[2,5]) H19 (by kernel_rfl),hS⟩
    replace hm:=bT hc hm
    apply w_skip
    apply w_seq
    apply w_block
    refine s_reg [] [0,2,5,6,19,20] (fS [0,2,5,6,19,20] [vS s,vP b1,vS v16,vI v17,vI (ln s),vI v17]) [] H19 (by kernel_rfl) trivial fun _ _ H21 hb => ?_
    replace hS:=hS.below hb
    obtain ⟨ho22,hm⟩:=chkE hm
    obtain ⟨ho23,hm⟩:=chkE hm
    obtain ⟨x24,hx24,hm⟩:=letE hm
    obtain ⟨ho25,hm⟩:=chkE hm
    refine w_draw [] [0,2,5,19,20] (fS [0,2,5,19,20] [vS s,vP b1,vS (v16 ++ x24),vI (ln s),vI v17]) [fun _ => 0 ≤ v17 ∧ v17 ≤ (w64 (v17 + 1)) ∧ (w64 (v17 + 1)) ≤ ln s,fun _ => 0 ≤ v17 ∧ v17 ≤ (w64 (v17 + 1)) ∧ (w64 (v17 + 1)) ≤ ln s,fun _ => ln (sub s v17 (w64 (v17 + 1))) + ln (sub s v17 (w64 (v17 + 1))) ≤ 9223372036854775807,fun _ => ln v16 + ln x24 ≤ 9223372036854775807] H21 (by kernel_rfl) (by kernel_rfl) (by subst hx24; kernel_rfl) ⟨ho22,ho22,ho23,ho25,trivial⟩ fun _ _ H27 hb => ?_
    replace hS:=hS.below hb
    refine w_reg [] [0,2,5,19,20] (fS [0,2,5,19,20] [vS s,vP b1,vS (v16 ++ x24),vI (ln s),vI (w64 (v17 + 1))]) [] H27 (by kernel_rfl) trivial fun _ _ H29 hb => ?_
    replace hS:=hS.below hb
    exact ⟨_,Nat.lt_succ_self _,v16 ++ x24,w64 (v17 + 1),hm,FrG.keep (ks:=[0,2,19,5,20]) H29 (by kernel_rfl),hS⟩
  ·rintro _ _ ⟨H,hS⟩
   refine w_reg [] [0,2] (fS [0,2] [vS z13,vP b1]) [] H (by kernel_rfl) trivial fun _ _ H33 hb => ?_
   replace hS:=hS.below hb
   obtain rfl:=someE hm
   exact ⟨FrG.keep (ks:=[2,0]) H33 (by kernel_rfl),hS⟩
 ·rintro _ _ ⟨H,hS⟩
  obtain ⟨z36,hz,hm⟩:=bindE hm
  refine w_cut (fun a' w' => Fr 98 (fS [2,0] [vP b1,vS z36]) a' ∧ SH M X w [eB b1 [vU 0,vU 0,vU 0,vU 0]] w') ?_ ?_
  ·replace hm:=hz
   refine s_reg [] [0,2,40] (fS [0,2,40] [vS z6,vP b1,vB ((ln z6) == 6)]) [] H (by kernel_rfl) trivial fun _ _ H38 hb => ?_
   replace hS:=hS.below hb
   refine w_if H38 rfl (fun hc => ?_) (fun hc => ?c42)
   case c42 =>
    replace hm:=bF hc hm
    apply w_skip
    obtain rfl:=someE hm
    exact ⟨FrG.keep (ks:=[2,0]) H38 (by kernel_rfl),hS⟩
   replace hm:=bT hc hm
   obtain ⟨ho39,hm⟩:=chkE hm
   refine w_reg [] [0,2] (fS [0,2] [vS (z6 ++ [102,102]),vP b1]) [fun _ => ln z6 + ln [102,102] ≤ 9223372036854775807] H38 (by kernel_rfl) ⟨ho39,trivial⟩ fun _ _ H41 hb => ?_
   replace hS:=hS.below hb
   obtain rfl:=someE hm
   exact ⟨FrG.keep (ks:=[2,0]) H41 (by kernel_rfl),hS⟩
  ·rintro _ _ ⟨H,hS⟩
   apply w_seq
   refine s_reg [] [0,2,45] (fS [0,2,45] [vS z36,vP b1,vB ((ln z36) != 8)]) [] H (by kernel_rfl) trivial fun _ _ H44 hb => ?_
   replace hS:=hS.below hb
   refine w_if H44 rfl (fun hc => ?c86) (fun hc => ?_)
   case c86 =>
    replace hm:=bT hc hm
    apply w_seq
    apply wl_start
    refine wl_batch 0 1 [] [2,46] (fS [2,46] [vP b1,vG [vU 0,vU 0,vU 0,vU 0]]) [] H44 (by decide) (by kernel_rfl) trivial fun _ _ H46 hb => ?_
    replace hS:=hS.below hb
    have hd:=hS.hand [0] [] rfl rfl
    refine m_stp0 [2] [(2,[],vP b1)] H46 rfl rfl rfl (o_store [vU 0,vU 0,vU 0,vU 0] H46 hd rfl rfl (by kernel_rfl) rfl rfl rfl) rfl fun _ _ H48 hq => ?_
    obtain ⟨_,hq⟩:=hq
    replace hS : SH M X w [eB b1 [vU 0,vU 0,vU 0,vU 0]] _:=hS.join [0] [] rfl rfl hq
    refine wl_batch 2 3 [] [2,3] (fS [2,3] [vP b1,vF]) [] H48 (by decide) (by kernel_rfl) trivial fun _ _ H50 hb => ?_
    replace hS:=hS.below hb
    apply wl_end rfl
    apply w_ret
    obtain rfl:=someE hm
    exact retR2 H50 rfl (oneRes_agg rfl (hS.bk 0 rfl) Tryz.underlying55 rfl (by kernel_rfl)) rfl ⟨_,rfl,rfl,(hS.sel [] rfl)⟩
   replace hm:=bF hc hm
   apply w_skip
   obtain ⟨z51,hz,hm_z51⟩:=bindE hm
   refine w_cut (fun a' w' => ∃ s_z51 : Unit,z51 = Sum.inr s_z51 ∧ Fr 98 (fS [0,2] [vS z36,vP b1]) a' ∧ SH M X w [eB b1 [vU 0,vU 0,vU 0,vU 0]] w') ?_ ?_
   ·replace hm:=hz
    refine s_reg [] [0,2,48,49] (fS [0,2,48,49] [vS z36,vP b1,vI (ln z36),vI 0]) [] H44 (by kernel_rfl) trivial fun _ _ H53 hb => ?_
    replace hS:=hS.below hb
    apply w_block
    refine w_loop (fun kk a' w' => ∃ (v54 : Int),parseval_hash_L2 m z36 kk v54 = some _ ∧ Fr 98 (fS [0,2,48,49] [vS z36,vP b1,vI (ln z36),vI v54]) a' ∧ SH M X w [eB b1 [vU 0,vU 0,vU 0,vU 0]] w') ⟨_,0,hm,FrG.keep (ks:=[0,2,48,49]) H53 (by kernel_rfl),hS⟩ ?_
    clear hm H53 hS
    rintro kk _ _ ⟨v54,hm,H,hS⟩
    cases kk with
    | zero => exact noneE hm
    | succ kk =>
     rw [parseval_hash_L2] at hm
     refine s_reg [] [0,2,48,49,50] (fS [0,2,48,49,50] [vS z36,vP b1,vI (ln z36),vI v54,vB (decide (v54 < (ln z36)))]) [] H (by kernel_rfl) trivial fun _ _ H56 hb => ?_
     replace hS:=hS.below hb
     apply w_seq
     refine w_if H56 rfl (fun hc => ?_) (fun hc => ?c76)
     case c76 =>
      replace hm:=bF hc hm
      apply w_exit rfl
      obtain rfl:=someE hm
      exact ⟨_,rfl,FrG.keep (ks:=[0,2]) H56 (by kernel_rfl),hS⟩
     replace hm:=bT hc hm
     apply w_skip
     apply w_seq
     apply w_block
     refine s_reg [] [0,2,7,48,49] (fS [0,2,7,48,49] [vS z36,vP b1,vI v54,vI (ln z36),vI v54]) [] H56 (by kernel_rfl) trivial fun _ _ H58 hb => ?_
     replace hS:=hS.below hb
     obtain ⟨ho59,hm⟩:=chkE hm
     refine s_reg [] [0,2,8,48,49] (fS [0,2,8,48,49] [vS z36,vP b1,vU (bat z36 v54),vI (ln z36),vI v54]) [fun _ => 0 ≤ v54 ∧ v54 < ln z36] H58 (by kernel_rfl) ⟨ho59,trivial⟩ fun _ _ H61 hb => ?_
     replace hS:=hS.below hb
     obtain ⟨x62,hx62,hm⟩:=letE hm
     obtain ⟨x63,hx63,hm⟩:=letE hm
     obtain ⟨x64,hx64,hm⟩:=letE hm
     refine s_reg [] [0,2,48,49,76] (fS [0,2,48,49,76] [vS z36,vP b1,vI (ln z36),vI v54,vB x64]) [] H61 (by subst hx62 hx63 hx64; kernel_rfl) trivial fun _ _ H66 hb => ?_
     replace hS:=hS.below hb
     refine w_if H66 rfl (fun hc => ?_) (fun hc => ?c75)
     case c75 =>
      replace hm:=bF hc hm
      apply w_skip
      refine w_reg [] [0,2,48,49] (fS [0,2,48,49] [vS z36,vP b1,vI (ln z36),vI (w64 (v54 + 1))]) [] H66 (by kernel_rfl) trivial fun _ _ H74 hb => ?_
      replace hS:=hS.below hb
      exact ⟨_,Nat.lt_succ_self _,w64 (v54 + 1),hm,FrG.keep (ks:=[0,2,48,49]) H74 (by kernel_rfl),hS⟩
     replace hm:=bT hc hm
     apply w_seq
     apply wl_start
     refine wl_batch 0 1 [] [2,77] (fS [2,77] [vP b1,vG [vU 0,vU 0,vU 0,vU 0]]) [] H66 (by decide) (by kernel_rfl) trivial fun _ _ H68 hb => ?_
     replace hS:=hS.below hb
     have hd:=hS.hand [0] [] rfl rfl
     refine m_stp0 [2] [(2,[],vP b1)] H68 rfl rfl rfl (o_store [vU 0,vU 0,vU 0,vU 0] H68 hd rfl rfl (by kernel_rfl) rfl rfl rfl) rfl fun _ _ H70 hq => ?_
     obtain ⟨_,hq⟩:=hq
     replace hS : SH M X w [eB b1 [vU 0,vU 0,vU 0,vU 0]] _:=hS.join [0] [] rfl rfl hq
     refine wl_batch 2 3 [] [2,3] (fS [2,3] [vP b1,vF]) [] H70 (by decide) (by kernel_rfl) trivial fun _ _ H72 hb => ?_
     replace hS:=hS.below hb
     apply wl_end rfl
     apply w_ret
     obtain rfl:=someE hm
     have hm:=hm_z51
     obtain rfl:=someE hm
     exact retR2 H72 rfl (oneRes_agg rfl (hS.bk 0 rfl) Tryz.underlying55 rfl (by kernel_rfl)) rfl ⟨_,rfl,rfl,(hS.sel [] rfl)⟩
   ·rintro _ _ ⟨s_z51,hz,H,hS⟩
    subst hz
    replace hm:=sumR hm_z51
    obtain ⟨y78,hy78,hm⟩:=bindE hm
    refine s_reg [(vW [.int .u64 y78,.nilIface])] [2,9,10] (fS [2,9,10] [vP b1,.int .u64 y78,.nilIface]) [rB 98 [vS z36,vI 16,vI 32] (vW [.int .u64 y78,.nilIface])] H (by kernel_rfl) ⟨((strconv_ParseUint_ok m _ _ _ _ hy78).b),trivial⟩ fun _ _ H80 hb => ?_
    replace hS:=hS.below hb
    refine s_drawS (base:=(fS [2,9,10] [vP b1,.int .u64 y78,.nilIface])) (L:=[eB b1 [vU 0,vU 0,vU 0,vU 0]]) 16 1 (fun yg81 => [.int .u64 y78,.int .u64 (Int.fdiv y78 (2 ^ 24)),vU (wu8 (Int.fdiv y78 (2 ^ 24))),.int .u64 y78,.int .u64 (Int.fdiv y78 (2 ^ 16)),vU (wu8 (Int.fdiv y78 (2 ^ 16))),.int .u64 y78,.int .u64 (Int.fdiv y78 (2 ^ 8)),vU (wu8 (Int.fdiv y78 (2 ^ 8))),.int .u64 y78,vU (wu8 y78),vG [vU (wu8 (Int.fdiv y78 (2 ^ 24))),vU (wu8 (Int.fdiv y78 (2 ^ 16))),vU (wu8 (Int.fdiv y78 (2 ^ 8))),vU (wu8 y78)],.nilIface,vT,undef,vT]) (fun yg81 => [[],[],[],[],[],[],[],[],[],[],[],[],[],[],[eB b1 [vU (wu8 (Int.fdiv y78 (2 ^ 24))),vU (wu8 (Int.fdiv y78 (2 ^ 16))),vU (wu8 (Int.fdiv y78 (2 ^ 8))),vU (wu8 y78)]],[]]) [[],[],[],[],[],[],[],[],[],[],[],[],[],[],[16],[]] [[],[],[],[],[],[],[],[],[],[],[],[],[],[],[16],[]] [[0],[0,1],[0,1,2],[3],[3,4],[3,4,5],[6],[6,7],[6,7,8],[9],[9,10],[0,1,2,3,4,5,6,7,8,9,10,11],[12],[12,13],[0,1,2,3,4,5,6,7,8,9,10,11,14],[12,13,15]] [] (FrG.keep (ks:=[2,9,10]) H80 (by kernel_rfl)) (fun _ _ h => by cases h) (by kernel_rfl) hS (by kernel_rfl) rfl rfl (by kernel_rfl) (by kernel_rfl) (by kernel_rfl) (gd_none (by kernel_rfl) _ _) ?hloc_yg81 ?hstep_yg81 fun _ _ yg81 H83 hv hS => ?hK_yg81
    case hloc_yg81 => exact ⟨(fun _ _ _ _ => ⟨rfl,rfl⟩),(fun _ _ _ _ => ⟨rfl,rfl⟩),(fun _ _ _ _ => ⟨rfl,rfl⟩),(fun _ _ _ _ => ⟨rfl,rfl⟩),(fun _ _ _ _ => ⟨rfl,rfl⟩),(fun _ _ _ _ => ⟨rfl,rfl⟩),(fun _ _ _ _ => ⟨rfl,rfl⟩),(fun _ _ _ _ => ⟨rfl,rfl⟩),(fun _ _ _ _ => ⟨rfl,rfl⟩),(fun _ _ _ _ => ⟨rfl,rfl⟩),(fun _ _ _ _ => ⟨rfl,rfl⟩),(fun _ _ _ _ => ⟨rfl,rfl⟩),(fun _ _ _ _ => ⟨rfl,rfl⟩),(fun _ _ _ _ => ⟨rfl,rfl⟩),(fun _ _ _ _ => ⟨rfl,rfl⟩),(fun _ _ _ _ => ⟨rfl,rfl⟩),trivial⟩
    case hstep_yg81 =>
     refine ⟨?_,?_,?_,?_,?_,?_,?_,?_,?_,?_,?_,?_,?_,?_,?_,?_,trivial⟩
     ·intro o ho a w yg81 M Hb hv hO hS
      obtain rfl:=someE ho
      exact Stp.mono (o_evs [] (.int .u64 y78) none [] Hb rfl (by kernel_rfl) (fun q e => by cases e)) fun _ _ hq => ⟨gL [],fun _ _ => hq.1,(hS.below hq.2.below).sel [] rfl⟩
     ·intro o ho a w yg81 M Hb hv hO hS
      obtain rfl:=someE ho
      exact Stp.mono (o_evs [] (.int .u64 (Int.fdiv y78 (2 ^ 24))) (some (fun _ => (0 : Int) ≤ 24)) [] ((Hb).add (hv 0 (by decide) (by decide) 84 rfl)) rfl (by kernel_rfl) (fun q e => by cases e; exact (by show (0 : Int) ≤ 24; decide))) fun _ _ hq => ⟨gL [],fun _ _ => hq.1,(hS.below hq.2.below).sel [] rfl⟩
     ·intro o ho a w yg81 M Hb hv hO hS
      obtain rfl:=someE ho
      exact Stp.mono (o_evs [] (vU (wu8 (Int.fdiv y78 (2 ^ 24)))) none [] ((Hb).add (hv 1 (by decide) (by decide) 85 rfl)) rfl (by kernel_rfl) (fun q e => by cases e)) fun _ _ hq => ⟨gL [],fun _ _ => hq.1,(hS.below hq.2.below).sel [] rfl⟩
     ·intro o ho a w yg81 M Hb hv hO hS
      obtain rfl:=someE ho
      exact Stp.mono (o_evs [] (.int .u64 y78) none [] Hb rfl (by kernel_rfl) (fun q e => by cases e)) fun _ _ hq => ⟨gL [],fun _ _ => hq.1,(hS.below hq.2.below).sel [] rfl⟩
     ·intro o ho a w yg81 M Hb hv hO hS
      obtain rfl:=someE ho
      exact Stp.mono (o_evs [] (.int .u64 (Int.fdiv y78 (2 ^ 16))) (some (fun _ => (0 : Int) ≤ 16)) [] ((Hb).add (hv 3 (by decide) (by decide) 87 rfl)) rfl (by kernel_rfl) (fun q e => by cases e; exact (by show (0 : Int) ≤ 16; decide))) fun _ _ hq => ⟨gL [],fun _ _ => hq.1,(hS.below hq.2.below).sel [] rfl⟩
     ·intro o ho a w yg81 M Hb hv hO hS
      obtain rfl:=someE ho
      exact Stp.mono (o_evs [] (vU (wu8 (Int.fdiv y78 (2 ^ 16)))) none [] ((Hb).add (hv 4 (by decide) (by decide) 88 rfl)) rfl (by kernel_rfl) (fun q e => by cases e)) fun _ _ hq => ⟨gL [],fun _ _ => hq.1,(hS.below hq.2.below).sel [] rfl⟩
     ·intro o ho a w yg81 M Hb hv hO hS
      obtain rfl:=someE ho
      exact Stp.mono (o_evs [] (.int .u64 y78) none [] Hb rfl (by kernel_rfl) (fun q e => by cases e)) fun _ _ hq => ⟨gL [],fun _ _ => hq.1,(hS.below hq.2.below).sel [] rfl⟩
     ·intro o ho a w yg81 M Hb hv hO hS
      obtain rfl:=someE ho
      exact Stp.mono (o_evs [] (.int .u64 (Int.fdiv y78 (2 ^ 8))) (some (fun _ => (0 : Int) ≤ 8)) [] ((Hb).add (hv 6 (by decide) (by decide) 90 rfl)) rfl (by kernel_rfl) (fun q e => by cases e; exact (by show (0 : Int) ≤ 8; decide))) fun _ _ hq => ⟨gL [],fun _ _ => hq.1,(hS.below hq.2.below).sel [] rfl⟩
     ·intro o ho a w yg81 M Hb hv hO hS
      obtain rfl:=someE ho
      exact Stp.mono (o_evs [] (vU (wu8 (Int.fdiv y78 (2 ^ 8)))) none [] ((Hb).add (hv 7 (by decide) (by decide) 91 rfl)) rfl (by kernel_rfl) (fun q e => by cases e)) fun _ _ hq => ⟨gL [],fun _ _ => hq.1,(hS.below hq.2.below).sel [] rfl⟩
     ·intro o ho a w yg81 M Hb hv hO hS
      obtain rfl:=someE ho
      exact Stp.mono (o_evs [] (.int .u64 y78) none [] Hb rfl (by kernel_rfl) (fun q e => by cases e)) fun _ _ hq => ⟨gL [],fun _ _ => hq.1,(hS.below hq.2.below).sel [] rfl⟩
     ·intro o ho a w yg81 M Hb hv hO hS
      obtain rfl:=someE ho
      exact Stp.mono (o_evs [] (vU (wu8 y78)) none [] ((Hb).add (hv 9 (by decide) (by decide) 93 rfl)) rfl (by kernel_rfl) (fun q e => by cases e)) fun _ _ hq => ⟨gL [],fun _ _ => hq.1,(hS.below hq.2.below).sel [] rfl⟩
     ·intro o ho a w yg81 M Hb hv hO hS
      obtain rfl:=someE ho
      exact Stp.mono (o_evs [] (vG [vU (wu8 (Int.fdiv y78 (2 ^ 24))),vU (wu8 (Int.fdiv y78 (2 ^ 16))),vU (wu8 (Int.fdiv y78 (2 ^ 8))),vU (wu8 y78)]) none [] (((((Hb).add (hv 2 (by decide) (by decide) 86 rfl)).add (hv 5 (by decide) (by decide) 89 rfl)).add (hv 8 (by decide) (by decide) 92 rfl)).add (hv 10 (by decide) (by decide) 94 rfl)) rfl (by kernel_rfl) (fun q e => by cases e)) fun _ _ hq => ⟨gL [],fun _ _ => hq.1,(hS.below hq.2.below).sel [] rfl⟩
     ·intro o ho a w yg81 M Hb hv hO hS
      obtain rfl:=someE ho
      exact Stp.mono (o_evs [] (.nilIface) none [] Hb rfl (by kernel_rfl) (fun q e => by cases e)) fun _ _ hq => ⟨gL [],fun _ _ => hq.1,(hS.below hq.2.below).sel [] rfl⟩
     ·intro o ho a w yg81 M Hb hv hO hS
      obtain rfl:=someE ho
      exact Stp.mono (o_evs [] (vT) none [] ((Hb).add (hv 12 (by decide) (by decide) 96 rfl)) rfl (by kernel_rfl) (fun q e => by cases e)) fun _ _ hq => ⟨gL [],fun _ _ => hq.1,(hS.below hq.2.below).sel [] rfl⟩
     ·intro o ho a w yg81 M Hb hv hO hS0
      obtain rfl:=someE ho
      have H : Fr 98 ([(95,[],vG [vU (wu8 (Int.fdiv y78 (2 ^ 24))),vU (wu8 (Int.fdiv y78 (2 ^ 16))),vU (wu8 (Int.fdiv y78 (2 ^ 8))),vU (wu8 y78)])] ++ (fS [2,9,10] [vP b1,.int .u64 y78,.nilIface])) _:=(Hb).add (hv 11 (by decide) (by decide) 95 rfl)
      obtain ⟨X,hX⟩ : ∃ X,X = fpl [eB b1 [vU 0,vU 0,vU 0,vU 0]]:=⟨_,rfl⟩
      have hS : SH M X w [eB b1 [vU 0,vU 0,vU 0,vU 0]] w:=by rw [hX]; exact hS0
      have hd:=hS.hand [0] [] rfl rfl
      refine Stp.mono (o_store [vU (wu8 (Int.fdiv y78 (2 ^ 24))),vU (wu8 (Int.fdiv y78 (2 ^ 16))),vU (wu8 (Int.fdiv y78 (2 ^ 8))),vU (wu8 y78)] H hd rfl rfl (by kernel_rfl) rfl rfl rfl) ?_
      rintro v w2 hq
      replace hS : SH M X w [eB b1 [vU (wu8 (Int.fdiv y78 (2 ^ 24))),vU (wu8 (Int.fdiv y78 (2 ^ 16))),vU (wu8 (Int.fdiv y78 (2 ^ 8))),vU (wu8 y78)]] _:=hS.join [0] [] rfl rfl hq
      rw [hX] at hS
      exact ⟨gL [],(fun _ h => by cases h),hS.sel [0] rfl⟩
     ·intro o ho a w yg81 M Hb hv hO hS
      obtain rfl:=someE ho
      exact Stp.mono (o_evs [] (vT) none [] ((Hb).add (hv 13 (by decide) (by decide) 97 rfl)) rfl (by kernel_rfl) (fun q e => by cases e)) fun _ _ hq => ⟨gL [],fun _ _ => hq.1,(hS.below hq.2.below).sel [] rfl⟩
    have H84 : Fr 98 (fS [3,2] [vT,vP b1]) _:=(FrG.add (FrG.keep (ks:=[2]) H83 (by kernel_rfl)) (hv 15 3 rfl))
    replace hS : SH M X w [eB b1 [vU (wu8 (Int.fdiv y78 (2 ^ 24))),vU (wu8 (Int.fdiv y78 (2 ^ 16))),vU (wu8 (Int.fdiv y78 (2 ^ 8))),vU (wu8 y78)]] _:=hS
    clear hv H83
    apply w_ret
    obtain rfl:=someE hm
    exact retR2 H84 rfl (oneRes_agg rfl (hS.bk 0 rfl) Tryz.underlying55 rfl (by kernel_rfl)) rfl ⟨_,rfl,rfl,(hS.sel [] rfl)⟩
theorem parseval_hash_ok  (m : Nat) (s : Str) (r : TColor × Bool) (hm : parseval_hash m s = some r) : Ret Tryz.prog 87 ⟨[vS s]⟩ (vW [vG (cC r.1),vB r.2]):=retP_of (Tryz.call87 _) (fun w h => parseval_hash_w F0 m   s r hm w h)

theorem parseval_rgb_1_w {b_u0 : Nat} {b_u1 : Nat} {g_u1 : Gh} (M : Av) (t_ : TToken) (u0 : Str) (u1 : List Int) (r : Str × (List Int)) (hm : parseval_rgb_1 t_ u0 u1 = some r) (w : World) (hS : S0 M [eB b_u0 [vS u0],eB b_u1 [vL g_u1 u1],eO 2 (tI .i64) u1 g_u1] w) : Calls Tryz.prog 99 ⟨[vG (cT t_),vP b_u0,vP b_u1]⟩ w (fun e w' => ∃ v,e = .returned v ∧ ∃ (g901 : Gh),v = vW [] ∧ SH M (fpl [eB b_u0 [vS u0],eB b_u1 [vL g_u1 u1],eO 2 (tI .i64) u1 g_u1]) w [eB b_u0 [vS r.1],eB b_u1 [vL g901 r.2],eO 2 (tI .i64) r.2 g901] w'):=by
 rw [parseval_rgb_1] at hm
 have hS0 : SH M (fpl [eB b_u0 [vS u0],eB b_u1 [vL g_u1 u1],eO 2 (tI .i64) u1 g_u1]) w [eB b_u0 [vS u0],eB b_u1 [vL g_u1 u1],eO 2 (tI .i64) u1 g_u1] w:=hS
 generalize hX : fpl [eB b_u0 [vS u0],eB b_u1 [vL g_u1 u1],eO 2 (tI .i64) u1 g_u1] = X at hS0 ⊢
 clear hS hX
 have hS:=hS0
 clear hS0
 refine calls_entryP Tryz.func99 rfl Tryz.ntmps99 rfl fun _ H => ?_
 apply w_seq
 apply wl_start
 have hd:=hS.hand [] [0,1,2] rfl rfl
 refine m_stp [3,1,2] (fS [1,2] [vP b_u0,vP b_u1]) H rfl rfl rfl rfl (o_box (cT t_) H hd rfl rfl) (fun _ => rfl) fun _ _ v H3 hq => ?_
 obtain ⟨b1,rfl,hq⟩:=hq
 replace hS : SH M X w [eB b1 (cT t_),eB b_u0 [vS u0],eB b_u1 [vL g_u1 u1],eO 2 (tI .i64) u1 g_u1] _:=hS.join [] [0,1,2] rfl rfl hq
 apply wl_end rfl
 apply w_block
 refine s_reg [(vU t_.Kind)] [1,2,3,6] (fS [1,2,3,6] [vP b_u0,vP b_u1,vP b1,vB (t_.Kind == 13)]) [rA b1 0 (vU t_.Kind)] H3 (by kernel_rfl) ⟨((hS.bk 0 rfl).at1 rfl),trivial⟩ fun _ _ H5 hb => ?_
 replace hS:=hS.below hb
 refine w_if H5 rfl (fun hc => ?c49) (fun hc => ?_)
 case c49 =>
  replace hm:=bT hc hm
  apply w_skip
  obtain rfl:=someE hm
  try dsimp only
  exact retR0 H5 rfl ⟨_,rfl,g_u1,rfl,(hS.sel [1,2,3] rfl)⟩
 replace hm:=bF hc hm
 refine s_reg [(vU t_.Kind)] [1,2,3,10] (fS [1,2,3,10] [vP b_u0,vP b_u1,vP b1,vB (t_.Kind == 10)]) [rA b1 0 (vU t_.Kind)] H5 (by kernel_rfl) ⟨((hS.bk 0 rfl).at1 rfl),trivial⟩ fun _ _ H7 hb => ?_
 replace hS:=hS.below hb
 refine w_if H7 rfl (fun hc => ?c48) (fun hc => ?_)
 case c48 =>
  replace hm:=bT hc hm
  apply w_seq
  apply wl_start
  obtain ⟨ho8,hm⟩:=chkE hm
  refine wl_batch 0 2 [(vS u0)] [1,2,3,15] (fS [1,2,3,15] [vP b_u0,vP b_u1,vP b1,vS (u0 ++ [110])]) [rA b_u0 0 (vS u0),fun _ => ln u0 + ln [110] ≤ 9223372036854775807] H7 (by decide) (by kernel_rfl) ⟨((hS.bk 1 rfl).at1 rfl),ho8,trivial⟩ fun _ _ H10 hb => ?_
  replace hS:=hS.below hb
  have hd:=hS.hand [1] [0,2,3] rfl rfl
  refine m_stp0 [2,3] (fS [2,3] [vP b_u1,vP b1]) H10 rfl rfl rfl (o_store [vS (u0 ++ [110])] H10 hd rfl rfl (by kernel_rfl) rfl rfl rfl) rfl fun _ _ H12 hq => ?_
  obtain ⟨_,hq⟩:=hq
  replace hS : SH M X w [eB b_u0 [vS (u0 ++ [110])],eB b1 (cT t_),eB b_u1 [vL g_u1 u1],eO 2 (tI .i64) u1 g_u1] _:=hS.join [1] [0,2,3] rfl rfl hq
  apply wl_end rfl
  apply wl_start
  refine wl_batch 0 3 [(vL g_u1 u1),(vI t_.Num)] [2,16,18] (fS [2,16,18] [vP b_u1,vL g_u1 u1,vI t_.Num]) [rA b_u1 0 (vL g_u1 u1),rA b1 2 (vI t_.Num)] H12 (by decide) (by kernel_rfl) ⟨((hS.bk 2 rfl).at1 rfl),((hS.bk 1 rfl).at1 rfl),trivial⟩ fun _ _ H14 hb => ?_
  replace hS:=hS.below hb
  have hd:=hS.hand [] [0,1,2,3] rfl rfl
  refine m_stp [19,2,16] (fS [2,16] [vP b_u1,vL g_u1 u1]) H14 rfl rfl rfl rfl (o_lit (T:=(tI .i64)) (E:=2) (zv:=vI 0) [vI t_.Num] ([t_.Num] : List Int) [gL []] _ H14 hd rfl (by kernel_rfl) (by kernel_rfl) (by kernel_rfl) (by kernel_rfl) (by kernel_rfl) (by kernel_rfl) (by kernel_rfl) rfl (InnL.cons trivial InnL.nil)) (fun _ => rfl) fun _ _ v H18 hq => ?_
  obtain ⟨g15,rfl,hq⟩:=hq
  replace hS : SH M X w [eO 2 (tI .i64) ([t_.Num] : List Int) g15,eB b_u0 [vS (u0 ++ [110])],eB b1 (cT t_),eB b_u1 [vL g_u1 u1],eO 2 (tI .i64) u1 g_u1] _:=hS.join [] [0,1,2,3] rfl rfl hq
  obtain ⟨ho19,hm⟩:=chkE hm
  obtain ⟨q20,hq20,hm⟩:=letE hm
  have hd:=hS.hand [4,0] [1,2,3] rfl rfl
  refine m_stp [20,2] [(2,[],vP b_u1)] H18 rfl rfl rfl rfl (o_app2 (T:=(tI .i64)) (zv:=vI 0) (g1:=g_u1) (g2:=g15) (l1:=u1) (l2:=([t_.Num] : List Int)) q20 hq20.symm H18 hd rfl rfl rfl rfl rfl rfl rfl (by kernel_rfl) (by kernel_rfl) rfl rfl ho19) (fun _ => rfl) fun _ _ v H22 hq => ?_
  obtain ⟨g23,rfl,hq⟩:=hq
  replace hS : SH M X w [eO 2 (tI .i64) q20 g23,eO 2 (tI .i64) ([t_.Num] : List Int) g15,eB b_u0 [vS (u0 ++ [110])],eB b1 (cT t_),eB b_u1 [vL g_u1 u1]] _:=hS.join [4,0] [1,2,3] rfl rfl hq
  have hd:=hS.hand [4] [0,1,2,3] rfl rfl
  refine m_stp0 [] [] H22 rfl rfl rfl (o_store [vL g23 q20] H22 hd rfl rfl (by kernel_rfl) rfl rfl rfl) rfl fun _ _ H25 hq => ?_
  obtain ⟨_,hq⟩:=hq
  replace hS : SH M X w [eB b_u1 [vL g23 q20],eO 2 (tI .i64) q20 g23,eO 2 (tI .i64) ([t_.Num] : List Int) g15,eB b_u0 [vS (u0 ++ [110])],eB b1 (cT t_)] _:=hS.join [4] [0,1,2,3] rfl rfl hq
  apply wl_end rfl
  replace hS : SH M X w [eB b_u1 [vL g23 q20],eO 2 (tI .i64) q20 g23,eB b_u0 [vS (u0 ++ [110])]] _:=hS.sel [0,1,3] rfl
  obtain rfl:=someE hm
  try dsimp only
  exact retR0 H25 rfl ⟨_,rfl,g23,rfl,(hS.sel [2,0,1] rfl)⟩
 replace hm:=bF hc hm
 refine s_reg [(vU t_.Kind)] [1,3,21] (fS [1,3,21] [vP b_u0,vP b1,vB (t_.Kind == 18)]) [rA b1 0 (vU t_.Kind)] H7 (by kernel_rfl) ⟨((hS.bk 0 rfl).at1 rfl),trivial⟩ fun _ _ H27 hb => ?_
 replace hS:=hS.below hb
 refine w_if H27 rfl (fun hc => ?c47) (fun hc => ?_)
 case c47 =>
  replace hm:=bT hc hm
  apply wl_start
  obtain ⟨ho28,hm⟩:=chkE hm
  refine wl_batch 0 2 [(vS u0)] [1,26] (fS [1,26] [vP b_u0,vS (u0 ++ [44])]) [rA b_u0 0 (vS u0),fun _ => ln u0 + ln [44] ≤ 9223372036854775807] H27 (by decide) (by kernel_rfl) ⟨((hS.bk 1 rfl).at1 rfl),ho28,trivial⟩ fun _ _ H30 hb => ?_
  replace hS:=hS.below hb
  have hd:=hS.hand [1] [0,2,3] rfl rfl
  refine m_stp0 [] [] H30 rfl rfl rfl (o_store [vS (u0 ++ [44])] H30 hd rfl rfl (by kernel_rfl) rfl rfl rfl) rfl fun _ _ H32 hq => ?_
  obtain ⟨_,hq⟩:=hq
  replace hS : SH M X w [eB b_u0 [vS (u0 ++ [44])],eB b1 (cT t_),eB b_u1 [vL g_u1 u1],eO 2 (tI .i64) u1 g_u1] _:=hS.join [1] [0,2,3] rfl rfl hq
  apply wl_end rfl
  replace hS : SH M X w [eB b_u0 [vS (u0 ++ [44])],eB b_u1 [vL g_u1 u1],eO 2 (tI .i64) u1 g_u1] _:=hS.sel [0,2,3] rfl
  obtain rfl:=someE hm
  try dsimp only
  exact retR0 H32 rfl ⟨_,rfl,g_u1,rfl,(hS.sel [0,1,2] rfl)⟩
 replace hm:=bF hc hm
 obtain ⟨x33,hx33,hm⟩:=letE hm
 refine s_reg [(vU t_.Kind),(vS t_.Text)] [1,27] (fS [1,27] [vP b_u0,vB x33]) [rA b1 0 (vU t_.Kind),fun wz => ((t_.Kind == 9) = true ∧ True → V.at1 ⟨b1,1,none⟩ (vS t_.Text) wz)] H27 (by subst hx33; kernel_rfl) ⟨((hS.bk 0 rfl).at1 rfl),fun hg => (hS.bk 0 rfl).at1 rfl,trivial⟩ fun _ _ H35 hb => ?_
 replace hS:=hS.below hb
 replace hS : SH M X w [eB b_u0 [vS u0],eB b_u1 [vL g_u1 u1],eO 2 (tI .i64) u1 g_u1] _:=hS.sel [1,2,3] rfl
 refine w_if H35 rfl (fun hc => ?_) (fun hc => ?c46)
 case c46 =>
  replace hm:=bF hc hm
  apply wl_start
  obtain ⟨ho41,hm⟩:=chkE hm
  refine wl_batch 0 2 [(vS u0)] [1,5] (fS [1,5] [vP b_u0,vS (u0 ++ [120])]) [rA b_u0 0 (vS u0),fun _ => ln u0 + ln [120] ≤ 9223372036854775807] H35 (by decide) (by kernel_rfl) ⟨((hS.bk 0 rfl).at1 rfl),ho41,trivial⟩ fun _ _ H43 hb => ?_
  replace hS:=hS.below hb
  have hd:=hS.hand [0] [1,2] rfl rfl
  refine m_stp0 [] [] H43 rfl rfl rfl (o_store [vS (u0 ++ [120])] H43 hd rfl rfl (by kernel_rfl) rfl rfl rfl) rfl fun _ _ H45 hq => ?_
  obtain ⟨_,hq⟩:=hq
  replace hS : SH M X w [eB b_u0 [vS (u0 ++ [120])],eB b_u1 [vL g_u1 u1],eO 2 (tI .i64) u1 g_u1] _:=hS.join [0] [1,2] rfl rfl hq
  apply wl_end rfl
  obtain rfl:=someE hm
  try dsimp only
  exact retR0 H45 rfl ⟨_,rfl,g_u1,rfl,(hS.sel [0,1,2] rfl)⟩
 replace hm:=bT hc hm
 apply wl_start
 obtain ⟨ho36,hm⟩:=chkE hm
 refine wl_batch 0 2 [(vS u0)] [1,37] (fS [1,37] [vP b_u0,vS (u0 ++ [47])]) [rA b_u0 0 (vS u0),fun _ => ln u0 + ln [47] ≤ 9223372036854775807] H35 (by decide) (by kernel_rfl) ⟨((hS.bk 0 rfl).at1 rfl),ho36,trivial⟩ fun _ _ H38 hb => ?_
 replace hS:=hS.below hb
 have hd:=hS.hand [0] [1,2] rfl rfl
 refine m_stp0 [] [] H38 rfl rfl rfl (o_store [vS (u0 ++ [47])] H38 hd rfl rfl (by kernel_rfl) rfl rfl rfl) rfl fun _ _ H40 hq => ?_
 obtain ⟨_,hq⟩:=hq
 replace hS : SH M X w [eB b_u0 [vS (u0 ++ [47])],eB b_u1 [vL g_u1 u1],eO 2 (tI .i64) u1 g_u1] _:=hS.join [0] [1,2] rfl rfl hq
 apply wl_end rfl
 obtain rfl:=someE hm
 try dsimp only
 exact retR0 H40 rfl ⟨_,rfl,g_u1,rfl,(hS.sel [0,1,2] rfl)⟩
theorem parseval_rgb_1_ok {b_u0 : Nat} {b_u1 : Nat} {g_u1 : Gh} (t_ : TToken) (u0 : Str) (u1 : List Int) (r : Str × (List Int)) (hm : parseval_rgb_1 t_ u0 u1 = some r) (M : Av) (w : World) (hS : S0 M [eB b_u0 [vS u0],eB b_u1 [vL g_u1 u1],eO 2 (tI .i64) u1 g_u1] w) : DoesX Tryz.prog 99 ⟨[vG (cT t_),vP b_u0,vP b_u1]⟩ w (fun v w' => ∃ (g901 : Gh),v = vW [] ∧ SH M (fpl [eB b_u0 [vS u0],eB b_u1 [vL g_u1 u1],eO 2 (tI .i64) u1 g_u1]) w [eB b_u0 [vS r.1],eB b_u1 [vL g901 r.2],eO 2 (tI .i64) r.2 g901] w'):=⟨Tryz.call99 _,parseval_rgb_1_w M   t_ u0 u1 r hm w hS⟩

theorem parseval_rgb_2_w {b_u0 : Nat} {g_u0 : Gh} (M : Av) (i : Int) (u0 : List Int) (r : Int) (hm : parseval_rgb_2 i u0 = some r) (w : World) (hS : S0 M [Ent.ro b_u0 [vL g_u0 u0],eI (tI .i64) u0 g_u0] w) : Calls Tryz.prog 100 ⟨[vI i,vP b_u0]⟩ w (fun e w' => ∃ v,e = .returned v ∧ v = vU r ∧ SH M (fpl [Ent.ro b_u0 [vL g_u0 u0],eI (tI .i64) u0 g_u0]) w [] w'):=by
 rw [parseval_rgb_2] at hm
 have hS0 : SH M (fpl [Ent.ro b_u0 [vL g_u0 u0],eI (tI .i64) u0 g_u0]) w [Ent.ro b_u0 [vL g_u0 u0],eI (tI .i64) u0 g_u0] w:=hS
 generalize hX : fpl [Ent.ro b_u0 [vL g_u0 u0],eI (tI .i64) u0 g_u0] = X at hS0 ⊢
 clear hS hX
 have hS:=hS0
 clear hS0
 refine calls_entryP Tryz.func100 rfl Tryz.ntmps100 rfl fun _ H => ?_
 refine s_reg [] [0,1] (fS [0,1] [vI i,vP b_u0]) [] H (by kernel_rfl) trivial fun _ _ H2 hb => ?_
 replace hS:=hS.below hb
 obtain ⟨ho3,hm⟩:=chkE hm
 obtain ⟨x4,hx4,hm⟩:=letE hm
 refine s_reg [(vL g_u0 u0),(vI (gi u0 i))] [3] [(3,[],vU (wu8 (if 0 < x4 then x4 else 0)))] [rA b_u0 0 (vL g_u0 u0),fun _ => oka g_u0.a ∧ 0 ≤ i ∧ i < ln u0,fun wz => V.at1 ⟨ab g_u0.a,ao g_u0.a + (i).toNat * 1,none⟩ (vI (gi u0 i)) wz,fun _ => (1000 : Int) ≠ 0] H2 (by subst hx4; kernel_rfl) ⟨((hS.ro 0 rfl).at1 rfl),((hS.im 1 rfl).oki ho3),((hS.im 1 rfl).at1 ho3 0 rfl),(by show (1000 : Int) ≠ 0; decide),trivial⟩ fun _ _ H6 hb => ?_
 replace hS:=hS.below hb
 replace hS : SH M X w [] _:=hS.sel [] rfl
 apply w_ret
 obtain rfl:=someE hm
 exact retR1 H6 rfl rfl ⟨_,rfl,rfl,(hS.sel [] rfl)⟩
theorem parseval_rgb_2_ok {b_u0 : Nat} {g_u0 : Gh} (i : Int) (u0 : List Int) (r : Int) (hm : parseval_rgb_2 i u0 = some r) (w : World) (hL : S0 F0 [Ent.ro b_u0 [vL g_u0 u0],eI (tI .i64) u0 g_u0] w ∧ fpl [Ent.ro b_u0 [vL g_u0 u0],eI (tI .i64) u0 g_u0] = []) : RetB Tryz.prog 100 ⟨[vI i,vP b_u0]⟩ (vU r) w:=retB_of hL (Tryz.call100 _) (fun w' h => parseval_rgb_2_w F0   i u0 r hm w' h)

theorem parseval_rgb_w {g_l_ : Gh} (M : Av) (m : Nat) (l_ : List TValue) (r : TColor × Bool) (hm : parseval_rgb m l_ = some r) (w : World) (hS : S0 M [eI tyValue l_ g_l_] w) : Calls Tryz.prog 88 ⟨[vL g_l_ l_]⟩ w (fun e w' => ∃ v,e = .returned v ∧ v = vW [vG (cC r.1),vB r.2] ∧ SH M (fpl [eI tyValue l_ g_l_]) w [] w'):=by
 rw [parseval_rgb] at hm
 have hS0 : SH M (fpl [eI tyValue l_ g_l_]) w [eI tyValue l_ g_l_] w:=hS
 generalize hX : fpl [eI tyValue l_ g_l_] = X at hS0 ⊢
 clear hS hX
 have hS:=hS0
 clear hS0
 refine calls_entryP Tryz.func88 rfl Tryz.ntmps88 rfl fun _ H => ?_
 apply w_seq
 apply wl_start
 have hd:=hS.hand [] [0] rfl rfl
 refine m_stp [2,0] [(0,[],vL g_l_ l_)] H rfl rfl rfl rfl (o_alloc [vU 0,vU 0,vU 0,vU 0] (z:=vG [vU 0,vU 0,vU 0,vU 0]) hd (by kernel_rfl) rfl) (fun _ => rfl) fun _ _ v H3 hq => ?_
 obtain ⟨b1,rfl,hq⟩:=hq
 replace hS : SH M X w [eB b1 [vU 0,vU 0,vU 0,vU 0],eI tyValue l_ g_l_] _:=hS.join [] [0] rfl rfl hq
 refine wl_batch 1 2 [] [0,2] (fS [0,2] [vL g_l_ l_,vP b1]) [] H3 (by decide) (by kernel_rfl) trivial fun _ _ H5 hb => ?_
 replace hS:=hS.below hb
 apply wl_end rfl
 apply w_seq
 apply wl_start
 have hd:=hS.hand [] [0,1] rfl rfl
 refine m_stp [4,0,2] (fS [0,2] [vL g_l_ l_,vP b1]) H5 rfl rfl rfl rfl (o_alloc [vN] (z:=vN) hd (by kernel_rfl) rfl) (fun _ => rfl) fun _ _ v H8 hq => ?_
 obtain ⟨b6,rfl,hq⟩:=hq
 replace hS : SH M X w [eB b6 [vN],eB b1 [vU 0,vU 0,vU 0,vU 0],eI tyValue l_ g_l_] _:=hS.join [] [0,1] rfl rfl hq
 have hd:=hS.hand [0] [1,2] rfl rfl
 refine m_stp0 [0,2,4] (fS [0,2,4] [vL g_l_ l_,vP b1,vP b6]) H8 rfl rfl rfl (o_store [vN] H8 hd rfl rfl (by kernel_rfl) rfl rfl rfl) rfl fun _ _ H10 hq => ?_
 obtain ⟨_,hq⟩:=hq
 replace hS : SH M X w [eB b6 [vN],eB b1 [vU 0,vU 0,vU 0,vU 0],eI tyValue l_ g_l_] _:=hS.join [0] [1,2] rfl rfl hq
 apply wl_end rfl
 apply w_seq
 apply wl_start
 have hd:=hS.hand [] [0,1,2] rfl rfl
 refine m_stp [5,0,2,4] (fS [0,2,4] [vL g_l_ l_,vP b1,vP b6]) H10 rfl rfl rfl rfl (o_alloc [vO] (z:=vO) hd (by kernel_rfl) rfl) (fun _ => rfl) fun _ _ v H13 hq => ?_
 obtain ⟨b11,rfl,hq⟩:=hq
 replace hS : SH M X w [eB b11 [vO],eB b6 [vN],eB b1 [vU 0,vU 0,vU 0,vU 0],eI tyValue l_ g_l_] _:=hS.join [] [0,1,2] rfl rfl hq
 apply wl_end rfl
 refine s_reg [] [0,2,4,5,6] (fS [0,2,4,5,6] [vL g_l_ l_,vP b1,vP b6,vP b11,.func (.func 99) ⟨[]⟩ ⟨[vP b6,vP b11]⟩]) [] H13 (by kernel_rfl) trivial fun _ _ H15 hb => ?_
 replace hS:=hS.below hb
 obtain ⟨z16,hz,hm⟩:=bindE hm
 refine w_cut (fun a' w' => ∃ (g45 : Gh),Fr 49 (fS [2,4,5] [vP b1,vP b6,vP b11]) a' ∧ SH M X w [eO 2 (tI .i64) z16.2 g45,eB b11 [vL g45 z16.2],eB b6 [vS z16.1],eB b1 [vU 0,vU 0,vU 0,vU 0],eI tyValue l_ g_l_] w') ?_ ?_
 ·replace hm:=hz
  refine s_reg [] [2,4,5,6,11,12,13] (fS [2,4,5,6,11,12,13] [vP b1,vP b6,vP b11,.func (.func 99) ⟨[]⟩ ⟨[vP b6,vP b11]⟩,vL g_l_ l_,vI (ln l_),vI 0]) [] H15 (by kernel_rfl) trivial fun _ _ H18 hb => ?_
  replace hS:=hS.below hb
  apply w_block
  replace hS : SH M X w [eO 2 (tI .i64) ([] : List Int) (.nil),eB b11 [vO],eB b6 [vN],eB b1 [vU 0,vU 0,vU 0,vU 0],eI tyValue l_ g_l_] _:=hS.addNil 2 (tI .i64)
  refine w_loop (fun kk a' w' => ∃ (v20 : Int) (v21 : List Int) (v23 : Str) (g22 : Gh),parseval_rgb_L1 m l_ kk v20 v21 v23 = some _ ∧ Fr 49 (fS [2,4,5,6,11,12,13] [vP b1,vP b6,vP b11,.func (.func 99) ⟨[]⟩ ⟨[vP b6,vP b11]⟩,vL g_l_ l_,vI (ln l_),vI v20]) a' ∧ SH M X w [eO 2 (tI .i64) v21 g22,eB b11 [vL g22 v21],eB b6 [vS v23],eB b1 [vU 0,vU 0,vU 0,vU 0],eI tyValue l_ g_l_] w') ⟨_,0,([] : List Int),[],Gh.nil,hm,FrG.keep (ks:=[2,4,5,6,11,12,13]) H18 (by kernel_rfl),hS⟩ ?_
  clear hm H18 hS
  rintro kk _ _ ⟨v20,v21,v23,g22,hm,H,hS⟩
  cases kk with
  | zero => exact noneE hm
  | succ kk =>
   rw [parseval_rgb_L1] at hm
   refine s_reg [] [2,4,5,6,11,12,13,14] (fS [2,4,5,6,11,12,13,14] [vP b1,vP b6,vP b11,.func (.func 99) ⟨[]⟩ ⟨[vP b6,vP b11]⟩,vL g_l_ l_,vI (ln l_),vI v20,vB (decide (v20 < (ln l_)))]) [] H (by kernel_rfl) trivial fun _ _ H25 hb => ?_
   replace hS:=hS.below hb
   apply w_seq
   refine w_if H25 rfl (fun hc => ?_) (fun hc => ?c43)
   case c43 =>
    replace hm:=bF hc hm
    apply w_exit rfl
    obtain rfl:=someE hm
    exact ⟨g22,FrG.keep (ks:=[2,4,5]) H25 (by kernel_rfl),hS⟩
   replace hm:=bT hc hm
   apply w_skip
   apply w_seq
   apply w_block
   apply w_seq
   apply wl_start
   obtain ⟨ho26,hm⟩:=chkE hm
   refine wl_batch 0 2 [(vG [vU ((gi l_ v20).Token.Kind),vS (gi l_ v20).Token.Text,vI ((gi l_ v20).Token.Num),vS (gi l_ v20).Token.Unit,vB ((gi l_ v20).Token.Flag),.slice (g_l_.s (v20).toNat 0).a (((gi l_ v20).List_).length) (g_l_.s (v20).toNat 0).c])] [2,4,5,6,11,12,13,16] (fS [2,4,5,6,11,12,13,16] [vP b1,vP b6,vP b11,.func (.func 99) ⟨[]⟩ ⟨[vP b6,vP b11]⟩,vL g_l_ l_,vI (ln l_),vI v20,vG [vU ((gi l_ v20).Token.Kind),vS (gi l_ v20).Token.Text,vI ((gi l_ v20).Token.Num),vS (gi l_ v20).Token.Unit,vB ((gi l_ v20).Token.Flag),.slice (g_l_.s (v20).toNat 0).a (((gi l_ v20).List_).length) (g_l_.s (v20).toNat 0).c]]) [fun _ => oka g_l_.a ∧ 0 ≤ v20 ∧ v20 < ln l_,fun wz => V.atN (ab g_l_.a) (ao g_l_.a + (v20).toNat * 6) [vU ((gi l_ v20).Token.Kind),vS (gi l_ v20).Token.Text,vI ((gi l_ v20).Token.Num),vS (gi l_ v20).Token.Unit,vB ((gi l_ v20).Token.Flag),.slice (g_l_.s (v20).toNat 0).a (((gi l_ v20).List_).length) (g_l_.s (v20).toNat 0).c] 0 wz] H25 (by decide) (by kernel_rfl) ⟨((hS.im 4 rfl).oki ho26),((hS.im 4 rfl).atA ho26 0 rfl),trivial⟩ fun _ _ H28 hb => ?_
   replace hS:=hS.below hb
   have hd:=hS.hand [] [0,1,2,3,4] rfl rfl
   refine m_stp [8,2,4,5,6,11,12,13,16] (fS [2,4,5,6,11,12,13,16] [vP b1,vP b6,vP b11,.func (.func 99) ⟨[]⟩ ⟨[vP b6,vP b11]⟩,vL g_l_ l_,vI (ln l_),vI v20,vG [vU ((gi l_ v20).Token.Kind),vS (gi l_ v20).Token.Text,vI ((gi l_ v20).Token.Num),vS (gi l_ v20).Token.Unit,vB ((gi l_ v20).Token.Flag),.slice (g_l_.s (v20).toNat 0).a (((gi l_ v20).List_).length) (g_l_.s (v20).toNat 0).c]]) H28 rfl rfl rfl rfl (o_alloc [vU 0,vN,vI 0,vN,vF,vO] (z:=vG [vU 0,vN,vI 0,vN,vF,vO]) hd (by kernel_rfl) rfl) (fun _ => rfl) fun _ _ v H31 hq => ?_
   obtain ⟨b29,rfl,hq⟩:=hq
   replace hS : SH M X w [eB b29 [vU 0,vN,vI 0,vN,vF,vO],eO 2 (tI .i64) v21 g22,eB b11 [vL g22 v21],eB b6 [vS v23],eB b1 [vU 0,vU 0,vU 0,vU 0],eI tyValue l_ g_l_] _:=hS.join [] [0,1,2,3,4] rfl rfl hq
   have hd:=hS.hand [0] [1,2,3,4,5] rfl rfl
   refine m_stp0 [2,4,5,6,8,11,12,13] (fS [2,4,5,6,8,11,12,13] [vP b1,vP b6,vP b11,.func (.func 99) ⟨[]⟩ ⟨[vP b6,vP b11]⟩,vP b29,vL g_l_ l_,vI (ln l_),vI v20]) H31 rfl rfl rfl (o_store [vU ((gi l_ v20).Token.Kind),vS (gi l_ v20).Token.Text,vI ((gi l_ v20).Token.Num),vS (gi l_ v20).Token.Unit,vB ((gi l_ v20).Token.Flag),.slice (g_l_.s (v20).toNat 0).a (((gi l_ v20).List_).length) (g_l_.s (v20).toNat 0).c] H31 hd rfl rfl (by kernel_rfl) rfl rfl rfl) rfl fun _ _ H33 hq => ?_
   obtain ⟨_,hq⟩:=hq
   replace hS : SH M X w [eB b29 [vU ((gi l_ v20).Token.Kind),vS (gi l_ v20).Token.Text,vI ((gi l_ v20).Token.Num),vS (gi l_ v20).Token.Unit,vB ((gi l_ v20).Token.Flag),.slice (g_l_.s (v20).toNat 0).a (((gi l_ v20).List_).length) (g_l_.s (v20).toNat 0).c],eO 2 (tI .i64) v21 g22,eB b11 [vL g22 v21],eB b6 [vS v23],eB b1 [vU 0,vU 0,vU 0,vU 0],eI tyValue l_ g_l_] _:=hS.join [0] [1,2,3,4,5] rfl rfl hq
   apply wl_end rfl
   apply wl_start
   refine wl_batch 0 3 [(vG [vU ((gi l_ v20).Token.Kind),vS (gi l_ v20).Token.Text,vI ((gi l_ v20).Token.Num),vS (gi l_ v20).Token.Unit,vB ((gi l_ v20).Token.Flag)])] [2,4,5,6,11,12,13,17,19] (fS [2,4,5,6,11,12,13,17,19] [vP b1,vP b6,vP b11,.func (.func 99) ⟨[]⟩ ⟨[vP b6,vP b11]⟩,vL g_l_ l_,vI (ln l_),vI v20,.func (.func 99) ⟨[]⟩ ⟨[vP b6,vP b11]⟩,vG [vU ((gi l_ v20).Token.Kind),vS (gi l_ v20).Token.Text,vI ((gi l_ v20).Token.Num),vS (gi l_ v20).Token.Unit,vB ((gi l_ v20).Token.Flag)]]) [rN b29 0 [vU ((gi l_ v20).Token.Kind),vS (gi l_ v20).Token.Text,vI ((gi l_ v20).Token.Num),vS (gi l_ v20).Token.Unit,vB ((gi l_ v20).Token.Flag)]] H33 (by decide) (by kernel_rfl) ⟨((hS.bk 0 rfl).atD rfl),trivial⟩ fun _ _ H35 hb => ?_
   replace hS:=hS.below hb
   obtain ⟨y36,hy36,hm⟩:=bindE hm
   have hd:=hS.hand [3,2,1] [0,4,5] rfl rfl
   refine m_stp [20,2,4,5,6,11,12,13] (fS [2,4,5,6,11,12,13] [vP b1,vP b6,vP b11,.func (.func 99) ⟨[]⟩ ⟨[vP b6,vP b11]⟩,vL g_l_ l_,vI (ln l_),vI v20]) H35 rfl rfl rfl rfl (o_callx H35 rfl rfl (parseval_rgb_1_ok (b_u0:=b6) (b_u1:=b11) (g_u1:=g22) _ _ _ _ hy36 _ _ hd)) (fun _ => rfl) fun _ _ v H40 hq => ?_
   obtain ⟨g37,rfl,hq⟩:=hq
   replace hS : SH M X w [eB b6 [vS y36.1],eB b11 [vL g37 y36.2],eO 2 (tI .i64) y36.2 g37,eB b29 [vU ((gi l_ v20).Token.Kind),vS (gi l_ v20).Token.Text,vI ((gi l_ v20).Token.Num),vS (gi l_ v20).Token.Unit,vB ((gi l_ v20).Token.Flag),.slice (g_l_.s (v20).toNat 0).a (((gi l_ v20).List_).length) (g_l_.s (v20).toNat 0).c],eB b1 [vU 0,vU 0,vU 0,vU 0],eI tyValue l_ g_l_] _:=hS.join [3,2,1] [0,4,5] rfl rfl hq
   apply wl_end rfl
   replace hS : SH M X w [eB b6 [vS y36.1],eB b11 [vL g37 y36.2],eO 2 (tI .i64) y36.2 g37,eB b1 [vU 0,vU 0,vU 0,vU 0],eI tyValue l_ g_l_] _:=hS.sel [0,1,2,4,5] rfl
   refine w_reg [] [2,4,5,6,11,12,13] (fS [2,4,5,6,11,12,13] [vP b1,vP b6,vP b11,.func (.func 99) ⟨[]⟩ ⟨[vP b6,vP b11]⟩,vL g_l_ l_,vI (ln l_),vI (w64 (v20 + 1))]) [] H40 (by kernel_rfl) trivial fun _ _ H42 hb => ?_
   replace hS:=hS.below hb
   replace hS : SH M X w [eO 2 (tI .i64) y36.2 g37,eB b11 [vL g37 y36.2],eB b6 [vS y36.1],eB b1 [vU 0,vU 0,vU 0,vU 0],eI tyValue l_ g_l_] _:=hS.sel [2,1,0,3,4] rfl
   exact ⟨_,Nat.lt_succ_self _,w64 (v20 + 1),y36.2,y36.1,g37,hm,FrG.keep (ks:=[2,4,5,6,11,12,13]) H42 (by kernel_rfl),hS⟩
 ·rintro _ _ ⟨g45,H,hS⟩
  replace hS : SH M X w [eO 2 (tI .i64) z16.2 g45,eB b11 [vL g45 z16.2],eB b6 [vS z16.1],eB b1 [vU 0,vU 0,vU 0,vU 0]] _:=hS.sel [0,1,2,3] rfl
  obtain ⟨z47,hz,hm_z47⟩:=bindE hm
  refine w_cut (fun a' w' => ∃ s_z47 : List Int,z47 = Sum.inr s_z47 ∧ ∃ (g86 : Gh),Fr 49 (fS [2,5] [vP b1,vP b11]) a' ∧ SH M X w [eO 2 (tI .i64) s_z47 g86,eB b11 [vL g86 s_z47],eB b6 [vS z16.1],eB b1 [vU 0,vU 0,vU 0,vU 0]] w') ?_ ?_
  ·replace hm:=hz
   refine s_reg [(vS z16.1)] [2,5,22] (fS [2,5,22] [vP b1,vP b11,vS z16.1]) [rA b6 0 (vS z16.1)] H (by kernel_rfl) ⟨((hS.bk 2 rfl).at1 rfl),trivial⟩ fun _ _ H49 hb => ?_
   replace hS:=hS.below hb
   apply w_block
   obtain ⟨z50,hz,hm⟩:=bindE hm
   refine w_cut (fun a' w' => Fr 49 (fS [2,5,22,24] [vP b1,vP b11,vS z16.1,vB z50]) a' ∧ SH M X w [eO 2 (tI .i64) z16.2 g45,eB b11 [vL g45 z16.2],eB b6 [vS z16.1],eB b1 [vU 0,vU 0,vU 0,vU 0]] w') ?_ ?_
   ·replace hm:=hz
    refine s_reg [] [2,5,22,24] (fS [2,5,22,24] [vP b1,vP b11,vS z16.1,vB (z16.1 == [110,110,110])]) [] H49 (by kernel_rfl) trivial fun _ _ H52 hb => ?_
    replace hS:=hS.below hb
    refine w_if H52 rfl (fun hc => ?c55) (fun hc => ?_)
    case c55 =>
     replace hm:=bT hc hm
     apply w_skip
     obtain rfl:=someE hm
     exact ⟨FrG.keep (ks:=[2,5,22,24]) H52 (by kernel_rfl),hS⟩
    replace hm:=bF hc hm
    refine w_reg [] [2,5,22,24] (fS [2,5,22,24] [vP b1,vP b11,vS z16.1,vB (z16.1 == [110,44,110,44,110])]) [] H52 (by kernel_rfl) trivial fun _ _ H54 hb => ?_
    replace hS:=hS.below hb
    obtain rfl:=someE hm
    exact ⟨FrG.keep (ks:=[2,5,22,24]) H54 (by kernel_rfl),hS⟩
   ·rintro _ _ ⟨H,hS⟩
    refine w_if H rfl (fun hc => ?c84) (fun hc => ?_)
    case c84 =>
     replace hm:=bT hc hm
     apply wl_start
     refine wl_batch 0 1 [(vL g45 z16.2)] [2,5,27] (fS [2,5,27] [vP b1,vP b11,vL g45 z16.2]) [rA b11 0 (vL g45 z16.2)] H (by decide) (by kernel_rfl) ⟨((hS.bk 1 rfl).at1 rfl),trivial⟩ fun _ _ H57 hb => ?_
     replace hS:=hS.below hb
     have hd:=hS.hand [] [0,1,2,3] rfl rfl
     refine m_stp [28,2,5,27] (fS [2,5,27] [vP b1,vP b11,vL g45 z16.2]) H57 rfl rfl rfl rfl (o_lit (T:=(tI .i64)) (E:=2) (zv:=vI 0) [vI 1000] ([1000] : List Int) [gL []] _ H57 hd rfl (by kernel_rfl) (by kernel_rfl) (by kernel_rfl) (by kernel_rfl) (by kernel_rfl) (by kernel_rfl) (by kernel_rfl) rfl (InnL.cons trivial InnL.nil)) (fun _ => rfl) fun _ _ v H61 hq => ?_
     obtain ⟨g58,rfl,hq⟩:=hq
     replace hS : SH M X w [eO 2 (tI .i64) ([1000] : List Int) g58,eO 2 (tI .i64) z16.2 g45,eB b11 [vL g45 z16.2],eB b6 [vS z16.1],eB b1 [vU 0,vU 0,vU 0,vU 0]] _:=hS.join [] [0,1,2,3] rfl rfl hq
     obtain ⟨ho62,hm⟩:=chkE hm
     obtain ⟨q63,hq63,hm⟩:=letE hm
     have hd:=hS.hand [1,0] [2,3,4] rfl rfl
     refine m_stp [29,2,5] (fS [2,5] [vP b1,vP b11]) H61 rfl rfl rfl rfl (o_app2 (T:=(tI .i64)) (zv:=vI 0) (g1:=g45) (g2:=g58) (l1:=z16.2) (l2:=([1000] : List Int)) q63 hq63.symm H61 hd rfl rfl rfl rfl rfl rfl rfl (by kernel_rfl) (by kernel_rfl) rfl rfl ho62) (fun _ => rfl) fun _ _ v H65 hq => ?_
     obtain ⟨g66,rfl,hq⟩:=hq
     replace hS : SH M X w [eO 2 (tI .i64) q63 g66,eO 2 (tI .i64) ([1000] : List Int) g58,eB b11 [vL g45 z16.2],eB b6 [vS z16.1],eB b1 [vU 0,vU 0,vU 0,vU 0]] _:=hS.join [1,0] [2,3,4] rfl rfl hq
     have hd:=hS.hand [2] [0,1,3,4] rfl rfl
     refine m_stp0 [2,5] (fS [2,5] [vP b1,vP b11]) H65 rfl rfl rfl (o_store [vL g66 q63] H65 hd rfl rfl (by kernel_rfl) rfl rfl rfl) rfl fun _ _ H68 hq => ?_
     obtain ⟨_,hq⟩:=hq
     replace hS : SH M X w [eB b11 [vL g66 q63],eO 2 (tI .i64) q63 g66,eO 2 (tI .i64) ([1000] : List Int) g58,eB b6 [vS z16.1],eB b1 [vU 0,vU 0,vU 0,vU 0]] _:=hS.join [2] [0,1,3,4] rfl rfl hq
     apply wl_end rfl
     replace hS : SH M X w [eB b11 [vL g66 q63],eO 2 (tI .i64) q63 g66,eB b6 [vS z16.1],eB b1 [vU 0,vU 0,vU 0,vU 0]] _:=hS.sel [0,1,3,4] rfl
     obtain rfl:=someE hm
     replace hS : SH M X w [eO 2 (tI .i64) q63 g66,eB b11 [vL g66 q63],eB b6 [vS z16.1],eB b1 [vU 0,vU 0,vU 0,vU 0]] _:=hS.sel [1,0,2,3] rfl
     exact ⟨_,rfl,g66,FrG.keep (ks:=[2,5]) H68 (by kernel_rfl),hS⟩
    replace hm:=bF hc hm
    obtain ⟨z69,hz,hm⟩:=bindE hm
    refine w_cut (fun a' w' => Fr 49 (fS [2,5,30] [vP b1,vP b11,vB z69]) a' ∧ SH M X w [eO 2 (tI .i64) z16.2 g45,eB b11 [vL g45 z16.2],eB b6 [vS z16.1],eB b1 [vU 0,vU 0,vU 0,vU 0]] w') ?_ ?_
    ·replace hm:=hz
     refine s_reg [] [2,5,22,30] (fS [2,5,22,30] [vP b1,vP b11,vS z16.1,vB (z16.1 == [110,110,110,47,110])]) [] H (by kernel_rfl) trivial fun _ _ H71 hb => ?_
     replace hS:=hS.below hb
     refine w_if H71 rfl (fun hc => ?c75) (fun hc => ?_)
     case c75 =>
      replace hm:=bT hc hm
      apply w_skip
      obtain rfl:=someE hm
      exact ⟨FrG.keep (ks:=[2,5,30]) H71 (by kernel_rfl),hS⟩
     replace hm:=bF hc hm
     obtain ⟨x72,hx72,hm⟩:=letE hm
     refine w_reg [] [2,5,30] (fS [2,5,30] [vP b1,vP b11,vB x72]) [] H71 (by subst hx72; kernel_rfl) trivial fun _ _ H74 hb => ?_
     replace hS:=hS.below hb
     obtain rfl:=someE hm
     exact ⟨FrG.keep (ks:=[2,5,30]) H74 (by kernel_rfl),hS⟩
    ·rintro _ _ ⟨H,hS⟩
     refine w_if H rfl (fun hc => ?c82) (fun hc => ?_)
     case c82 =>
      replace hm:=bT hc hm
      apply w_skip
      obtain rfl:=someE hm
      exact ⟨_,rfl,g45,FrG.keep (ks:=[2,5]) H (by kernel_rfl),hS⟩
     replace hm:=bF hc hm
     apply w_seq
     apply wl_start
     refine wl_batch 0 1 [] [2,23] (fS [2,23] [vP b1,vG [vU 0,vU 0,vU 0,vU 0]]) [] H (by decide) (by kernel_rfl) trivial fun _ _ H77 hb => ?_
     replace hS:=hS.below hb
     have hd:=hS.hand [3] [0,1,2] rfl rfl
     refine m_stp0 [2] [(2,[],vP b1)] H77 rfl rfl rfl (o_store [vU 0,vU 0,vU 0,vU 0] H77 hd rfl rfl (by kernel_rfl) rfl rfl rfl) rfl fun _ _ H79 hq => ?_
     obtain ⟨_,hq⟩:=hq
     replace hS : SH M X w [eB b1 [vU 0,vU 0,vU 0,vU 0],eO 2 (tI .i64) z16.2 g45,eB b11 [vL g45 z16.2],eB b6 [vS z16.1]] _:=hS.join [3] [0,1,2] rfl rfl hq
     refine wl_batch 2 3 [] [2,3] (fS [2,3] [vP b1,vF]) [] H79 (by decide) (by kernel_rfl) trivial fun _ _ H81 hb => ?_
     replace hS:=hS.below hb
     apply wl_end rfl
     apply w_ret
     obtain rfl:=someE hm
     have hm:=hm_z47
     obtain rfl:=someE hm
     exact retR2 H81 rfl (oneRes_agg rfl (hS.bk 0 rfl) Tryz.underlying55 rfl (by kernel_rfl)) rfl ⟨_,rfl,rfl,(hS.sel [] rfl)⟩
  ·rintro _ _ ⟨s_z47,hz,g86,H,hS⟩
   subst hz
   replace hm:=sumR hm_z47
   replace hS : SH M X w [eO 2 (tI .i64) s_z47 g86,eB b11 [vL g86 s_z47],eB b1 [vU 0,vU 0,vU 0,vU 0]] _:=hS.sel [0,1,3] rfl
   refine s_reg [] [2,5,9] (fS [2,5,9] [vP b1,vP b11,.func (.func 100) ⟨[]⟩ ⟨[vP b11]⟩]) [] H (by kernel_rfl) trivial fun _ _ H88 hb => ?_
   replace hS:=hS.below hb
   obtain ⟨y90,hy90,hm⟩:=bindE hm
   obtain ⟨y91,hy91,hm⟩:=bindE hm
   obtain ⟨y92,hy92,hm⟩:=bindE hm
   obtain ⟨ho93,hm⟩:=chkE hm
   obtain ⟨x94,hx94,hm⟩:=letE hm
   obtain ⟨x95,hx95,hm⟩:=letE hm
   refine s_drawS (base:=(fS [2,5,9] [vP b1,vP b11,.func (.func 100) ⟨[]⟩ ⟨[vP b11]⟩])) (L:=[eO 2 (tI .i64) s_z47 g86,eB b11 [vL g86 s_z47],eB b1 [vU 0,vU 0,vU 0,vU 0]]) 17 3 (fun yg89 => [.func (.func 100) ⟨[]⟩ ⟨[vP b11]⟩,vU y90,.func (.func 100) ⟨[]⟩ ⟨[vP b11]⟩,vU y91,.func (.func 100) ⟨[]⟩ ⟨[vP b11]⟩,vU y92,vL g86 s_z47,.pointer (some ⟨ab g86.a,ao g86.a + ((3 : Int)).toNat * 1,none⟩),vI (gi s_z47 (3 : Int)),vI x94,vI (if 0 < x94 then x94 else 0),vI (w64 ((if 0 < x94 then x94 else 0) * 255)),vI x95,vU (wu8 x95),vG [vU y90,vU y91,vU y92,vU (wu8 x95)],undef,vT]) (fun yg89 => [[],[],[],[],[],[],[],[],[],[],[],[],[],[],[],[eB b1 [vU y90,vU y91,vU y92,vU (wu8 x95)]],[]]) [[],[17,18],[],[17,18],[],[17,18],[17,18],[17],[17],[],[],[],[],[],[],[19],[]] [[],[],[],[],[],[],[],[],[],[],[],[],[],[],[],[19],[]] [[0],[0,1],[2],[2,3],[4],[4,5],[6],[6,7],[6,7,8],[6,7,8,9],[6,7,8,9,10],[6,7,8,9,10,11],[6,7,8,9,10,11,12],[6,7,8,9,10,11,12,13],[0,1,2,3,4,5,6,7,8,9,10,11,12,13,14],[0,1,2,3,4,5,6,7,8,9,10,11,12,13,14,15],[16]] [] (FrG.keep (ks:=[2,5,9]) H88 (by kernel_rfl)) (fun _ _ h => by cases h) (by kernel_rfl) hS (by kernel_rfl) rfl rfl (by kernel_rfl) (by kernel_rfl) (by kernel_rfl) (gd_none (by kernel_rfl) _ _) ?hloc_yg89 ?hstep_yg89 fun _ _ yg89 H97 hv hS => ?hK_yg89
   case hloc_yg89 => exact ⟨(fun _ _ _ _ => ⟨rfl,rfl⟩),(fun _ _ _ _ => ⟨rfl,rfl⟩),(fun _ _ _ _ => ⟨rfl,rfl⟩),(fun _ _ _ _ => ⟨rfl,rfl⟩),(fun _ _ _ _ => ⟨rfl,rfl⟩),(fun _ _ _ _ => ⟨rfl,rfl⟩),(fun _ _ _ _ => ⟨rfl,rfl⟩),(fun _ _ _ _ => ⟨rfl,rfl⟩),(fun _ _ _ _ => ⟨rfl,rfl⟩),(fun _ _ _ _ => ⟨rfl,rfl⟩),(fun _ _ _ _ => ⟨rfl,rfl⟩),(fun _ _ _ _ => ⟨rfl,rfl⟩),(fun _ _ _ _ => ⟨rfl,rfl⟩),(fun _ _ _ _ => ⟨rfl,rfl⟩),(fun _ _ _ _ => ⟨rfl,rfl⟩),(fun _ _ _ _ => ⟨rfl,rfl⟩),(fun _ _ _ _ => ⟨rfl,rfl⟩),trivial⟩
   case hstep_yg89 =>
    refine ⟨?_,?_,?_,?_,?_,?_,?_,?_,?_,?_,?_,?_,?_,?_,?_,?_,?_,trivial⟩
    ·intro o ho a w yg89 M Hb hv hO hS
     obtain rfl:=someE ho
     exact Stp.mono (o_evs [] (.func (.func 100) ⟨[]⟩ ⟨[vP b11]⟩) none [] Hb rfl (by kernel_rfl) (fun q e => by cases e)) fun _ _ hq => ⟨gL [],fun _ _ => hq.1,(hS.below hq.2.below).sel [] rfl⟩
    ·intro o ho a w yg89 M Hb hv hO hS
     obtain rfl:=someE ho
     exact Stp.mono (o_evs [(vU y90)] (vU y90) (some (rB 100 [vI 0,vP b11] (vU y90))) [] ((Hb).add (hv 0 (by decide) (by decide) 34 rfl)) rfl (by kernel_rfl) (fun q e => by cases e; exact (parseval_rgb_2_ok (b_u0:=b11) (g_u0:=g86) _ _ _ hy90 _ (s0ro (s0im s0nil (hS.osl 0 rfl)) (hS.bk 1 rfl))))) fun _ _ hq => ⟨gL [],fun _ _ => hq.1,(hS.below hq.2.below).sel [0,1] rfl⟩
    ·intro o ho a w yg89 M Hb hv hO hS
     obtain rfl:=someE ho
     exact Stp.mono (o_evs [] (.func (.func 100) ⟨[]⟩ ⟨[vP b11]⟩) none [] Hb rfl (by kernel_rfl) (fun q e => by cases e)) fun _ _ hq => ⟨gL [],fun _ _ => hq.1,(hS.below hq.2.below).sel [] rfl⟩
    ·intro o ho a w yg89 M Hb hv hO hS
     obtain rfl:=someE ho
     exact Stp.mono (o_evs [(vU y91)] (vU y91) (some (rB 100 [vI 1,vP b11] (vU y91))) [] ((Hb).add (hv 2 (by decide) (by decide) 36 rfl)) rfl (by kernel_rfl) (fun q e => by cases e; exact (parseval_rgb_2_ok (b_u0:=b11) (g_u0:=g86) _ _ _ hy91 _ (s0ro (s0im s0nil (hS.osl 0 rfl)) (hS.bk 1 rfl))))) fun _ _ hq => ⟨gL [],fun _ _ => hq.1,(hS.below hq.2.below).sel [0,1] rfl⟩
    ·intro o ho a w yg89 M Hb hv hO hS
     obtain rfl:=someE ho
     exact Stp.mono (o_evs [] (.func (.func 100) ⟨[]⟩ ⟨[vP b11]⟩) none [] Hb rfl (by kernel_rfl) (fun q e => by cases e)) fun _ _ hq => ⟨gL [],fun _ _ => hq.1,(hS.below hq.2.below).sel [] rfl⟩
    ·intro o ho a w yg89 M Hb hv hO hS
     obtain rfl:=someE ho
     exact Stp.mono (o_evs [(vU y92)] (vU y92) (some (rB 100 [vI 2,vP b11] (vU y92))) [] ((Hb).add (hv 4 (by decide) (by decide) 38 rfl)) rfl (by kernel_rfl) (fun q e => by cases e; exact (parseval_rgb_2_ok (b_u0:=b11) (g_u0:=g86) _ _ _ hy92 _ (s0ro (s0im s0nil (hS.osl 0 rfl)) (hS.bk 1 rfl))))) fun _ _ hq => ⟨gL [],fun _ _ => hq.1,(hS.below hq.2.below).sel [0,1] rfl⟩
    ·intro o ho a w yg89 M Hb hv hO hS
     obtain rfl:=someE ho
     exact Stp.mono (o_evs [(vL g86 s_z47)] (vL g86 s_z47) (some (rA b11 0 (vL g86 s_z47))) [] Hb rfl (by kernel_rfl) (fun q e => by cases e; exact ((hS.bk 1 rfl).at1 rfl))) fun _ _ hq => ⟨gL [],fun _ _ => hq.1,(hS.below hq.2.below).sel [0,1] rfl⟩
    ·intro o ho a w yg89 M Hb hv hO hS
     obtain rfl:=someE ho
     exact Stp.mono (o_evs [] (.pointer (some ⟨ab g86.a,ao g86.a + ((3 : Int)).toNat * 1,none⟩)) (some (fun _ => oka g86.a ∧ 0 ≤ (3 : Int) ∧ (3 : Int) < ln s_z47)) [] ((Hb).add (hv 6 (by decide) (by decide) 40 rfl)) rfl (by kernel_rfl) (fun q e => by cases e; exact ((hS.osl 0 rfl).oki ho93))) fun _ _ hq => ⟨gL [],fun _ _ => hq.1,(hS.below hq.2.below).sel [0] rfl⟩
    ·intro o ho a w yg89 M Hb hv hO hS
     obtain rfl:=someE ho
     exact Stp.mono (o_evs [(vI (gi s_z47 (3 : Int)))] (vI (gi s_z47 (3 : Int))) (some (fun wz => V.at1 ⟨ab g86.a,ao g86.a + ((3 : Int)).toNat * 1,none⟩ (vI (gi s_z47 (3 : Int))) wz)) [] ((Hb).add (hv 7 (by decide) (by decide) 41 rfl)) rfl (by kernel_rfl) (fun q e => by cases e; exact ((hS.osl 0 rfl).at1 ho93 0 rfl))) fun _ _ hq => ⟨gL [],fun _ _ => hq.1,(hS.below hq.2.below).sel [0] rfl⟩
    ·intro o ho a w yg89 M Hb hv hO hS
     obtain rfl:=someE ho
     exact Stp.mono (o_evs [] (vI x94) none [] ((Hb).add (hv 8 (by decide) (by decide) 42 rfl)) rfl (by subst hx94; kernel_rfl) (fun q e => by cases e)) fun _ _ hq => ⟨gL [],fun _ _ => hq.1,(hS.below hq.2.below).sel [] rfl⟩
    ·intro o ho a w yg89 M Hb hv hO hS
     obtain rfl:=someE ho
     exact Stp.mono (o_evs [] (vI (if 0 < x94 then x94 else 0)) none [] ((Hb).add (hv 9 (by decide) (by decide) 43 rfl)) rfl (by kernel_rfl) (fun q e => by cases e)) fun _ _ hq => ⟨gL [],fun _ _ => hq.1,(hS.below hq.2.below).sel [] rfl⟩
    ·intro o ho a w yg89 M Hb hv hO hS
     obtain rfl:=someE ho
     exact Stp.mono (o_evs [] (vI (w64 ((if 0 < x94 then x94 else 0) * 255))) none [] ((Hb).add (hv 10 (by decide) (by decide) 44 rfl)) rfl (by kernel_rfl) (fun q e => by cases e)) fun _ _ hq => ⟨gL [],fun _ _ => hq.1,(hS.below hq.2.below).sel [] rfl⟩
    ·intro o ho a w yg89 M Hb hv hO hS
     obtain rfl:=someE ho
     exact Stp.mono (o_evs [] (vI x95) (some (fun _ => (1000 : Int) ≠ 0)) [] ((Hb).add (hv 11 (by decide) (by decide) 45 rfl)) rfl (by subst hx95; kernel_rfl) (fun q e => by cases e; exact (by show (1000 : Int) ≠ 0; decide))) fun _ _ hq => ⟨gL [],fun _ _ => hq.1,(hS.below hq.2.below).sel [] rfl⟩
    ·intro o ho a w yg89 M Hb hv hO hS
     obtain rfl:=someE ho
     exact Stp.mono (o_evs [] (vU (wu8 x95)) none [] ((Hb).add (hv 12 (by decide) (by decide) 46 rfl)) rfl (by kernel_rfl) (fun q e => by cases e)) fun _ _ hq => ⟨gL [],fun _ _ => hq.1,(hS.below hq.2.below).sel [] rfl⟩
    ·intro o ho a w yg89 M Hb hv hO hS
     obtain rfl:=someE ho
     exact Stp.mono (o_evs [] (vG [vU y90,vU y91,vU y92,vU (wu8 x95)]) none [] (((((Hb).add (hv 1 (by decide) (by decide) 35 rfl)).add (hv 3 (by decide) (by decide) 37 rfl)).add (hv 5 (by decide) (by decide) 39 rfl)).add (hv 13 (by decide) (by decide) 47 rfl)) rfl (by kernel_rfl) (fun q e => by cases e)) fun _ _ hq => ⟨gL [],fun _ _ => hq.1,(hS.below hq.2.below).sel [] rfl⟩
    ·intro o ho a w yg89 M Hb hv hO hS0
     obtain rfl:=someE ho
     have H : Fr 49 ([(48,[],vG [vU y90,vU y91,vU y92,vU (wu8 x95)])] ++ (fS [2,5,9] [vP b1,vP b11,.func (.func 100) ⟨[]⟩ ⟨[vP b11]⟩])) _:=(Hb).add (hv 14 (by decide) (by decide) 48 rfl)
     obtain ⟨X,hX⟩ : ∃ X,X = fpl [eB b1 [vU 0,vU 0,vU 0,vU 0]]:=⟨_,rfl⟩
     have hS : SH M X w [eB b1 [vU 0,vU 0,vU 0,vU 0]] w:=by rw [hX]; exact hS0
     have hd:=hS.hand [0] [] rfl rfl
     refine Stp.mono (o_store [vU y90,vU y91,vU y92,vU (wu8 x95)] H hd rfl rfl (by kernel_rfl) rfl rfl rfl) ?_
     rintro v w2 hq
     replace hS : SH M X w [eB b1 [vU y90,vU y91,vU y92,vU (wu8 x95)]] _:=hS.join [0] [] rfl rfl hq
     rw [hX] at hS
     exact ⟨gL [],(fun _ h => by cases h),hS.sel [0] rfl⟩
    ·intro o ho a w yg89 M Hb hv hO hS
     obtain rfl:=someE ho
     exact Stp.mono (o_evs [] (vT) none [] Hb rfl (by kernel_rfl) (fun q e => by cases e)) fun _ _ hq => ⟨gL [],fun _ _ => hq.1,(hS.below hq.2.below).sel [] rfl⟩
   have H98 : Fr 49 (fS [3,2] [vT,vP b1]) _:=(FrG.add (FrG.keep (ks:=[2]) H97 (by kernel_rfl)) (hv 16 3 rfl))
   replace hS : SH M X w [eB b1 [vU y90,vU y91,vU y92,vU (wu8 x95)],eO 2 (tI .i64) s_z47 g86,eB b11 [vL g86 s_z47]] _:=hS
   clear hv H97
   replace hS : SH M X w [eB b1 [vU y90,vU y91,vU y92,vU (wu8 x95)]] _:=hS.sel [0] rfl
   apply w_ret
   obtain rfl:=someE hm
   exact retR2 H98 rfl (oneRes_agg rfl (hS.bk 0 rfl) Tryz.underlying55 rfl (by kernel_rfl)) rfl ⟨_,rfl,rfl,(hS.sel [] rfl)⟩
theorem parseval_rgb_ok {g_l_ : Gh} (m : Nat) (l_ : List TValue) (r : TColor × Bool) (hm : parseval_rgb m l_ = some r) (w : World) (hL : S0 F0 [eI tyValue l_ g_l_] w ∧ fpl [eI tyValue l_ g_l_] = []) : RetB Tryz.prog 88 ⟨[vL g_l_ l_]⟩ (vW [vG (cC r.1),vB r.2]) w:=retB_of hL (Tryz.call88 _) (fun w' h => parseval_rgb_w F0 m   l_ r hm w' h)

end Go.Proofs.YtpgflfjmjppmeaaGreatDoor
