/-
  What the Go functions compute, as Lean functions, and that a call returns just that. Printed by a program.
-/
import Derived.Test.YtehlikdeobajcaaGreatDoorRows
import Derived.Test.YtehlikdeobajcaaGreatDoorRF
import Derived.Test.YtehlikdeobajcaaGreatDoorAF
import Derived.Test.YtehlikdeobajcaaGreatDoorM
import Derived.Test.YtehlikdeobajcaaGreatDoorW31lb
set_option linter.unusedVariables false
set_option maxRecDepth 20000
set_option maxHeartbeats 4000000
namespace Go.Proofs.YtehlikdeobajcaaGreatDoor
open Go.V Go.RowKit

def r04_Size_S (rec_ : (List TValue) → Int → Option (Int)) : Prop:=∀ (g_v_ : Gh) (M : Av) (v_ : List TValue) (most : Int) (r : Int),rec_ v_ most = some r → ∀ w,S0 M [eI tyValue v_ g_v_] w → Calls Tryz.prog 22 ⟨[vL g_v_ v_,vI most]⟩ w (fun e w' => ∃ v,e = .returned v ∧ v = vI r ∧ SH M (fpl [eI tyValue v_ g_v_]) w [] w')
theorem r04_Size_w (m : Nat) : ∀ (k : Nat),r04_Size_S (r04_Size_r m  k):=by
 intro k
 induction k with
 | zero => intro g_v_ M v_ most r hm; exact noneE hm
 | succ k ih =>
  intro g_v_ M v_ most r hm w hS
  rw [r04_Size_r] at hm
  have hS0 : SH M (fpl [eI tyValue v_ g_v_]) w [eI tyValue v_ g_v_] w:=hS
  generalize hX : fpl [eI tyValue v_ g_v_] = X at hS0 ⊢
  clear hS hX
  have hS:=hS0
  clear hS0
  refine calls_entryP Tryz.func22 rfl Tryz.ntmps22 rfl fun _ H => ?_
  refine s_reg [] [0,1] (fS [0,1] [vL g_v_ v_,vI most]) [] H (by kernel_rfl) trivial fun _ _ H2 hb => ?_
  replace hS:=hS.below hb
  refine s_reg [] [0,1,5] (fS [0,1,5] [vL g_v_ v_,vI most,vI 0]) [] H2 (by kernel_rfl) trivial fun _ _ H4 hb => ?_
  replace hS:=hS.below hb
  obtain ⟨z5,hz,hm⟩:=bindE hm
  refine w_cut (fun a' w' => Fr 47 [(5,[],vI z5)] a' ∧ SH M X w [eI tyValue v_ g_v_] w') ?_ ?_
  ·replace hm:=hz
   refine s_reg [] [0,1,5,6] (fS [0,1,5,6] [vL g_v_ v_,vI most,vI 0,vI 0]) [] H4 (by kernel_rfl) trivial fun _ _ H7 hb => ?_
   replace hS:=hS.below hb
   apply w_block
   refine w_loop (fun kk a' w' => ∃ (v8 : Int) (v9 : Int),r04_Size_L1 m v_ most (r04_Size_r m k) kk v8 v9 = some _ ∧ Fr 47 (fS [0,1,5,6] [vL g_v_ v_,vI most,vI v8,vI v9]) a' ∧ SH M X w [eI tyValue v_ g_v_] w') ⟨_,0,0,hm,FrG.keep (ks:=[0,1,5,6]) H7 (by kernel_rfl),hS⟩ ?_
   clear hm H7 hS
   rintro kk _ _ ⟨v8,v9,hm,H,hS⟩
   cases kk with
   | zero => exact noneE hm
   | succ kk =>
    rw [r04_Size_L1] at hm
    apply w_seq
    obtain ⟨x10,hx10,hm⟩:=letE hm
    refine s_reg [] [0,1,5,6,15] (fS [0,1,5,6,15] [vL g_v_ v_,vI most,vI v8,vI v9,vB x10]) [] H (by subst hx10; kernel_rfl) trivial fun _ _ H12 hb => ?_
    replace hS:=hS.below hb
    refine w_if H12 rfl (fun hc => ?_) (fun hc => ?c20)
    case c20 =>
     replace hm:=bF hc hm
     apply w_exit rfl
     obtain rfl:=someE hm
     exact ⟨FrG.keep (ks:=[5]) H12 (by kernel_rfl),hS⟩
    replace hm:=bT hc hm
    apply w_skip
    apply w_seq
    apply w_block
    obtain ⟨ho13,hm⟩:=chkE hm
    obtain ⟨x14,hx14,hm⟩:=letE hm
    obtain ⟨y15,hy15,hm⟩:=bindE hm
    refine w_draw [(vS (gi v_ v9).Token.Text),(vS (gi v_ v9).Token.Unit),(.slice (g_v_.s (v9).toNat 0).a (((gi v_ v9).List_).length) (g_v_.s (v9).toNat 0).c),(vI y15)] [0,1,5,6] (fS [0,1,5,6] [vL g_v_ v_,vI most,vI (w64 (v8 + (w64 (x14 + y15)))),vI v9]) [fun _ => oka g_v_.a ∧ 0 ≤ v9 ∧ v9 < ln v_,fun wz => V.at1 ⟨ab g_v_.a,ao g_v_.a + (v9).toNat * 6 + 1,none⟩ (vS (gi v_ v9).Token.Text) wz,fun _ => oka g_v_.a ∧ 0 ≤ v9 ∧ v9 < ln v_,fun wz => V.at1 ⟨ab g_v_.a,ao g_v_.a + (v9).toNat * 6 + 3,none⟩ (vS (gi v_ v9).Token.Unit) wz,fun _ => oka g_v_.a ∧ 0 ≤ v9 ∧ v9 < ln v_,fun wz => V.at1 ⟨ab g_v_.a,ao g_v_.a + (v9).toNat * 6 + 5,none⟩ (.slice (g_v_.s (v9).toNat 0).a (((gi v_ v9).List_).length) (g_v_.s (v9).toNat 0).c) wz,rB 22 [.slice (g_v_.s (v9).toNat 0).a (((gi v_ v9).List_).length) (g_v_.s (v9).toNat 0).c,vI (w64 (most - v8))] (vI y15)] H12 (by kernel_rfl) (by kernel_rfl) (by subst hx14; kernel_rfl) ⟨((hS.im 0 rfl).oki ho13),((hS.im 0 rfl).at1 ho13 1 rfl),((hS.im 0 rfl).oki ho13),((hS.im 0 rfl).at1 ho13 3 rfl),((hS.im 0 rfl).oki ho13),((hS.im 0 rfl).at1 ho13 5 rfl),(retB_of (s0im s0nil (tyValue_i0 ((hS.im 0 rfl).el ho13))) (Tryz.call22 _) (fun w' h' => ih ((g_v_.s (v9).toNat 0)) F0 _ _ _ hy15 w' h')),trivial⟩ fun _ _ H17 hb => ?_
    replace hS:=hS.below hb
    refine w_reg [] [0,1,5,6] (fS [0,1,5,6] [vL g_v_ v_,vI most,vI (w64 (v8 + (w64 (x14 + y15)))),vI (w64 (v9 + 1))]) [] H17 (by kernel_rfl) trivial fun _ _ H19 hb => ?_
    replace hS:=hS.below hb
    exact ⟨_,Nat.lt_succ_self _,w64 (v8 + (w64 (x14 + y15))),w64 (v9 + 1),hm,FrG.keep (ks:=[0,1,5,6]) H19 (by kernel_rfl),hS⟩
  ·rintro _ _ ⟨H,hS⟩
   replace hS : SH M X w [] _:=hS.sel [] rfl
   refine s_reg [] [4] [(4,[],vI z5)] [] H (by kernel_rfl) trivial fun _ _ H23 hb => ?_
   replace hS:=hS.below hb
   apply w_ret
   obtain rfl:=someE hm
   exact retR1 H23 rfl rfl ⟨_,rfl,rfl,(hS.sel [] rfl)⟩
theorem r04_Size_ok {g_v_ : Gh} (m : Nat) (v_ : List TValue) (most : Int) (r : Int) (hm : r04_Size m v_ most = some r) (w : World) (hL : S0 F0 [eI tyValue v_ g_v_] w ∧ fpl [eI tyValue v_ g_v_] = []) : RetB Tryz.prog 22 ⟨[vL g_v_ v_,vI most]⟩ (vI r) w:=retB_of hL (Tryz.call22 _) (fun w' h => r04_Size_w m   m g_v_ F0 v_ most r hm w' h)

def r04_Deep_S (rec_ : (List TValue) → Option (Int)) : Prop:=∀ (g_v_ : Gh) (M : Av) (v_ : List TValue) (r : Int),rec_ v_ = some r → ∀ w,S0 M [eI tyValue v_ g_v_] w → Calls Tryz.prog 42 ⟨[vL g_v_ v_]⟩ w (fun e w' => ∃ v,e = .returned v ∧ v = vI r ∧ SH M (fpl [eI tyValue v_ g_v_]) w [] w')
theorem r04_Deep_w (m : Nat) : ∀ (k : Nat),r04_Deep_S (r04_Deep_r m  k):=by
 intro k
 induction k with
 | zero => intro g_v_ M v_ r hm; exact noneE hm
 | succ k ih =>
  intro g_v_ M v_ r hm w hS
  rw [r04_Deep_r] at hm
  have hS0 : SH M (fpl [eI tyValue v_ g_v_]) w [eI tyValue v_ g_v_] w:=hS
  generalize hX : fpl [eI tyValue v_ g_v_] = X at hS0 ⊢
  clear hS hX
  have hS:=hS0
  clear hS0
  refine calls_entryP Tryz.func42 rfl Tryz.ntmps42 rfl fun _ H => ?_
  refine s_reg [] [0] [(0,[],vL g_v_ v_)] [] H (by kernel_rfl) trivial fun _ _ H2 hb => ?_
  replace hS:=hS.below hb
  refine s_reg [] [0,3] (fS [0,3] [vL g_v_ v_,vI 0]) [] H2 (by kernel_rfl) trivial fun _ _ H4 hb => ?_
  replace hS:=hS.below hb
  obtain ⟨z5,hz,hm⟩:=bindE hm
  refine w_cut (fun a' w' => Fr 29 [(3,[],vI z5)] a' ∧ SH M X w [eI tyValue v_ g_v_] w') ?_ ?_
  ·replace hm:=hz
   refine s_reg [] [0,3,4] (fS [0,3,4] [vL g_v_ v_,vI 0,vI 0]) [] H4 (by kernel_rfl) trivial fun _ _ H7 hb => ?_
   replace hS:=hS.below hb
   apply w_block
   refine w_loop (fun kk a' w' => ∃ (v8 : Int) (v9 : Int),r04_Deep_L1 m v_ (r04_Deep_r m k) kk v8 v9 = some _ ∧ Fr 29 (fS [0,3,4] [vL g_v_ v_,vI v8,vI v9]) a' ∧ SH M X w [eI tyValue v_ g_v_] w') ⟨_,0,0,hm,FrG.keep (ks:=[0,3,4]) H7 (by kernel_rfl),hS⟩ ?_
   clear hm H7 hS
   rintro kk _ _ ⟨v8,v9,hm,H,hS⟩
   cases kk with
   | zero => exact noneE hm
   | succ kk =>
    rw [r04_Deep_L1] at hm
    apply w_seq
    refine s_reg [] [0,3,4,8] (fS [0,3,4,8] [vL g_v_ v_,vI v8,vI v9,vB (decide (v9 < (ln v_)))]) [] H (by kernel_rfl) trivial fun _ _ H11 hb => ?_
    replace hS:=hS.below hb
    refine w_if H11 rfl (fun hc => ?_) (fun hc => ?c25)
    case c25 =>
     replace hm:=bF hc hm
     apply w_exit rfl
     obtain rfl:=someE hm
     exact ⟨FrG.keep (ks:=[3]) H11 (by kernel_rfl),hS⟩
    replace hm:=bT hc hm
    apply w_skip
    obtain ⟨z12,hz,hm⟩:=bindE hm
    refine w_cut (fun a' w' => Fr 29 (fS [0,4,3] [vL g_v_ v_,vI v9,vI z12]) a' ∧ SH M X w [eI tyValue v_ g_v_] w') ?_ ?_
    ·replace hm:=hz
     apply w_block
     obtain ⟨ho13,hm⟩:=chkE hm
     obtain ⟨x14,hx14,hm⟩:=letE hm
     refine s_reg [(vU ((gi v_ v9).Token.Kind)),(vU (r04_Closer ((gi v_ v9).Token.Kind)))] [0,3,4,18] (fS [0,3,4,18] [vL g_v_ v_,vI v8,vI v9,vB x14]) [fun _ => oka g_v_.a ∧ 0 ≤ v9 ∧ v9 < ln v_,fun wz => V.at1 ⟨ab g_v_.a,ao g_v_.a + (v9).toNat * 6,none⟩ (vU ((gi v_ v9).Token.Kind)) wz,rB 66 [vU ((gi v_ v9).Token.Kind)] (vU (r04_Closer ((gi v_ v9).Token.Kind)))] H11 (by subst hx14; kernel_rfl) ⟨((hS.im 0 rfl).oki ho13),((hS.im 0 rfl).at1 ho13 0 rfl),((r04_Closer_ok _).b),trivial⟩ fun _ _ H16 hb => ?_
     replace hS:=hS.below hb
     refine w_if H16 rfl (fun hc => ?_) (fun hc => ?c21)
     case c21 =>
      replace hm:=bF hc hm
      apply w_skip
      obtain rfl:=someE hm
      exact ⟨FrG.keep (ks:=[0,4,3]) H16 (by kernel_rfl),hS⟩
     replace hm:=bT hc hm
     obtain ⟨y17,hy17,hm⟩:=bindE hm
     obtain ⟨x18,hx18,hm⟩:=letE hm
     refine w_reg [(.slice (g_v_.s (v9).toNat 0).a (((gi v_ v9).List_).length) (g_v_.s (v9).toNat 0).c),(vI y17)] [0,3,4] (fS [0,3,4] [vL g_v_ v_,vI x18,vI v9]) [fun _ => oka g_v_.a ∧ 0 ≤ v9 ∧ v9 < ln v_,fun wz => V.at1 ⟨ab g_v_.a,ao g_v_.a + (v9).toNat * 6 + 5,none⟩ (.slice (g_v_.s (v9).toNat 0).a (((gi v_ v9).List_).length) (g_v_.s (v9).toNat 0).c) wz,rB 42 [.slice (g_v_.s (v9).toNat 0).a (((gi v_ v9).List_).length) (g_v_.s (v9).toNat 0).c] (vI y17)] H16 (by subst hx18; kernel_rfl) ⟨((hS.im 0 rfl).oki ho13),((hS.im 0 rfl).at1 ho13 5 rfl),(retB_of (s0im s0nil (tyValue_i0 ((hS.im 0 rfl).el ho13))) (Tryz.call42 _) (fun w' h' => ih ((g_v_.s (v9).toNat 0)) F0 _ _ hy17 w' h')),trivial⟩ fun _ _ H20 hb => ?_
     replace hS:=hS.below hb
     obtain rfl:=someE hm
     exact ⟨FrG.keep (ks:=[0,4,3]) H20 (by kernel_rfl),hS⟩
    ·rintro _ _ ⟨H,hS⟩
     refine w_reg [] [0,3,4] (fS [0,3,4] [vL g_v_ v_,vI z12,vI (w64 (v9 + 1))]) [] H (by kernel_rfl) trivial fun _ _ H23 hb => ?_
     replace hS:=hS.below hb
     exact ⟨_,Nat.lt_succ_self _,z12,w64 (v9 + 1),hm,FrG.keep (ks:=[0,3,4]) H23 (by kernel_rfl),hS⟩
  ·rintro _ _ ⟨H,hS⟩
   replace hS : SH M X w [] _:=hS.sel [] rfl
   refine s_reg [] [2] [(2,[],vI z5)] [] H (by kernel_rfl) trivial fun _ _ H28 hb => ?_
   replace hS:=hS.below hb
   apply w_ret
   obtain rfl:=someE hm
   exact retR1 H28 rfl rfl ⟨_,rfl,rfl,(hS.sel [] rfl)⟩
theorem r04_Deep_ok {g_v_ : Gh} (m : Nat) (v_ : List TValue) (r : Int) (hm : r04_Deep m v_ = some r) (w : World) (hL : S0 F0 [eI tyValue v_ g_v_] w ∧ fpl [eI tyValue v_ g_v_] = []) : RetB Tryz.prog 42 ⟨[vL g_v_ v_]⟩ (vI r) w:=retB_of hL (Tryz.call42 _) (fun w' h => r04_Deep_w m   m g_v_ F0 v_ r hm w' h)

theorem r04_Great_w {g_v_ : Gh} (M : Av) (m : Nat) (v_ : List TValue) (r : Bool) (hm : r04_Great m v_ = some r) (w : World) (hS : S0 M [eI tyValue v_ g_v_] w) : Calls Tryz.prog 21 ⟨[vL g_v_ v_]⟩ w (fun e w' => ∃ v,e = .returned v ∧ v = vB r ∧ SH M (fpl [eI tyValue v_ g_v_]) w [] w'):=by
 rw [r04_Great] at hm
 have hS0 : SH M (fpl [eI tyValue v_ g_v_]) w [eI tyValue v_ g_v_] w:=hS
 generalize hX : fpl [eI tyValue v_ g_v_] = X at hS0 ⊢
 clear hS hX
 have hS:=hS0
 clear hS0
 refine calls_entryP Tryz.func21 rfl Tryz.ntmps21 rfl fun _ H => ?_
 refine s_reg [] [0] [(0,[],vL g_v_ v_)] [] H (by kernel_rfl) trivial fun _ _ H2 hb => ?_
 replace hS:=hS.below hb
 obtain ⟨y3,hy3,hm⟩:=bindE hm
 obtain ⟨y4,hy4,hm⟩:=bindE hm
 obtain ⟨x5,hx5,hm⟩:=letE hm
 refine s_reg [(vI y3),(vI y4)] [2] [(2,[],vB x5)] [rB 22 [vL g_v_ v_,vI 300] (vI y3),fun wz => ((decide (300 < y3)) = false ∧ True → RetB Tryz.prog 42 ⟨[vL g_v_ v_]⟩ (vI y4) wz)] H2 (by subst hx5; kernel_rfl) ⟨(r04_Size_ok (g_v_:=g_v_) m _ _ _ hy3 _ (s0im s0nil (hS.im 0 rfl))),fun hg => r04_Deep_ok (g_v_:=g_v_) m _ _ (bF (hg.1) hy4) _ (s0im s0nil (hS.im 0 rfl)),trivial⟩ fun _ _ H7 hb => ?_
 replace hS:=hS.below hb
 replace hS : SH M X w [] _:=hS.sel [] rfl
 apply w_ret
 obtain rfl:=someE hm
 exact retR1 H7 rfl rfl ⟨_,rfl,rfl,(hS.sel [] rfl)⟩
theorem r04_Great_ok {g_v_ : Gh} (m : Nat) (v_ : List TValue) (r : Bool) (hm : r04_Great m v_ = some r) (w : World) (hL : S0 F0 [eI tyValue v_ g_v_] w ∧ fpl [eI tyValue v_ g_v_] = []) : RetB Tryz.prog 21 ⟨[vL g_v_ v_]⟩ (vB r) w:=retB_of hL (Tryz.call21 _) (fun w' h => r04_Great_w F0 m   v_ r hm w' h)

theorem r29_Great_w {g_l_ : Gh} (M : Av) (m : Nat) (l_ : List TDeclared) (r : Bool) (hm : r29_Great m l_ = some r) (w : World) (hS : S0 M [eI tyDeclared l_ g_l_] w) : Calls Tryz.prog 7 ⟨[vL g_l_ l_]⟩ w (fun e w' => ∃ v,e = .returned v ∧ v = vB r ∧ SH M (fpl [eI tyDeclared l_ g_l_]) w [] w'):=by
 rw [r29_Great] at hm
 have hS0 : SH M (fpl [eI tyDeclared l_ g_l_]) w [eI tyDeclared l_ g_l_] w:=hS
 generalize hX : fpl [eI tyDeclared l_ g_l_] = X at hS0 ⊢
 clear hS hX
 have hS:=hS0
 clear hS0
 refine calls_entryP Tryz.func7 rfl Tryz.ntmps7 rfl fun _ H => ?_
 refine s_reg [] [0] [(0,[],vL g_l_ l_)] [] H (by kernel_rfl) trivial fun _ _ H2 hb => ?_
 replace hS:=hS.below hb
 refine s_reg [] [0,3] (fS [0,3] [vL g_l_ l_,vI 0]) [] H2 (by kernel_rfl) trivial fun _ _ H4 hb => ?_
 replace hS:=hS.below hb
 obtain ⟨z5,hz,hm_z5⟩:=bindE hm
 refine w_cut (fun a' w' => ∃ s_z5 : Int,z5 = Sum.inr s_z5 ∧ Fr 58 (fS [0,3] [vL g_l_ l_,vI s_z5]) a' ∧ SH M X w [eI tyDeclared l_ g_l_] w') ?_ ?_
 ·replace hm:=hz
  refine s_reg [] [0,3,4] (fS [0,3,4] [vL g_l_ l_,vI 0,vI 0]) [] H4 (by kernel_rfl) trivial fun _ _ H7 hb => ?_
  replace hS:=hS.below hb
  apply w_block
  refine w_loop (fun kk a' w' => ∃ (v8 : Int) (v9 : Int),r29_Great_L1 m l_ kk v8 v9 = some _ ∧ Fr 58 (fS [0,3,4] [vL g_l_ l_,vI v8,vI v9]) a' ∧ SH M X w [eI tyDeclared l_ g_l_] w') ⟨_,0,0,hm,FrG.keep (ks:=[0,3,4]) H7 (by kernel_rfl),hS⟩ ?_
  clear hm H7 hS
  rintro kk _ _ ⟨v8,v9,hm,H,hS⟩
  cases kk with
  | zero => exact noneE hm
  | succ kk =>
   rw [r29_Great_L1] at hm
   apply w_seq
   obtain ⟨x10,hx10,hm⟩:=letE hm
   refine s_reg [] [0,3,4,12] (fS [0,3,4,12] [vL g_l_ l_,vI v8,vI v9,vB x10]) [] H (by subst hx10; kernel_rfl) trivial fun _ _ H12 hb => ?_
   replace hS:=hS.below hb
   refine w_if H12 rfl (fun hc => ?_) (fun hc => ?c27)
   case c27 =>
    replace hm:=bF hc hm
    apply w_exit rfl
    obtain rfl:=someE hm
    exact ⟨_,rfl,FrG.keep (ks:=[0,3]) H12 (by kernel_rfl),hS⟩
   replace hm:=bT hc hm
   apply w_skip
   apply w_seq
   apply w_block
   apply w_seq
   obtain ⟨ho13,hm⟩:=chkE hm
   obtain ⟨y14,hy14,hm⟩:=bindE hm
   obtain ⟨x15,hx15,hm⟩:=letE hm
   obtain ⟨x16,hx16,hm⟩:=letE hm
   refine s_reg [(.slice (g_l_.s (v9).toNat 0).a (((gi l_ v9).Long.Value).length) (g_l_.s (v9).toNat 0).c),(vB y14),(vS (gi l_ v9).Long.Name),(vS (gi l_ v9).Long.Whole)] [0,3,4,41] (fS [0,3,4,41] [vL g_l_ l_,vI v8,vI v9,vB x16]) [fun _ => oka g_l_.a ∧ 0 ≤ v9 ∧ v9 < ln l_,fun wz => V.at1 ⟨ab g_l_.a,ao g_l_.a + (v9).toNat * 11 + 1,none⟩ (.slice (g_l_.s (v9).toNat 0).a (((gi l_ v9).Long.Value).length) (g_l_.s (v9).toNat 0).c) wz,rB 21 [.slice (g_l_.s (v9).toNat 0).a (((gi l_ v9).Long.Value).length) (g_l_.s (v9).toNat 0).c] (vB y14),fun _ => (y14 = false ∧ True → oka g_l_.a ∧ 0 ≤ v9 ∧ v9 < ln l_),fun wz => (y14 = false ∧ True → V.at1 ⟨ab g_l_.a,ao g_l_.a + (v9).toNat * 11,none⟩ (vS (gi l_ v9).Long.Name) wz),fun _ => (x15 = false ∧ True → oka g_l_.a ∧ 0 ≤ v9 ∧ v9 < ln l_),fun wz => (x15 = false ∧ True → V.at1 ⟨ab g_l_.a,ao g_l_.a + (v9).toNat * 11 + 2,none⟩ (vS (gi l_ v9).Long.Whole) wz)] H12 (by subst hx15 hx16; kernel_rfl) ⟨((hS.im 0 rfl).oki ho13),((hS.im 0 rfl).at1 ho13 1 rfl),(r04_Great_ok (g_v_:=(g_l_.s (v9).toNat 0)) m _ _ hy14 _ (s0im s0nil (tyDeclared_i0 ((hS.im 0 rfl).el ho13)))),fun hg => (hS.im 0 rfl).oki ho13,fun hg => (hS.im 0 rfl).at1 ho13 0 rfl,fun hg => (hS.im 0 rfl).oki ho13,fun hg => (hS.im 0 rfl).at1 ho13 2 rfl,trivial⟩ fun _ _ H18 hb => ?_
   replace hS:=hS.below hb
   refine w_if H18 rfl (fun hc => ?c26) (fun hc => ?_)
   case c26 =>
    replace hm:=bT hc hm
    refine s_reg [] [2] [(2,[],vT)] [] H18 (by kernel_rfl) trivial fun _ _ H20 hb => ?_
    replace hS:=hS.below hb
    apply w_ret
    obtain rfl:=someE hm
    have hm:=hm_z5
    obtain rfl:=someE hm
    exact retR1 H20 rfl rfl ⟨_,rfl,rfl,(hS.sel [] rfl)⟩
   replace hm:=bF hc hm
   apply w_skip
   obtain ⟨y21,hy21,hm⟩:=bindE hm
   refine w_reg [(.slice (g_l_.s (v9).toNat 0).a (((gi l_ v9).Long.Value).length) (g_l_.s (v9).toNat 0).c),(vI y21)] [0,3,4] (fS [0,3,4] [vL g_l_ l_,vI (w64 (v8 + y21)),vI v9]) [fun _ => oka g_l_.a ∧ 0 ≤ v9 ∧ v9 < ln l_,fun wz => V.at1 ⟨ab g_l_.a,ao g_l_.a + (v9).toNat * 11 + 1,none⟩ (.slice (g_l_.s (v9).toNat 0).a (((gi l_ v9).Long.Value).length) (g_l_.s (v9).toNat 0).c) wz,rB 22 [.slice (g_l_.s (v9).toNat 0).a (((gi l_ v9).Long.Value).length) (g_l_.s (v9).toNat 0).c,vI 300] (vI y21)] H18 (by kernel_rfl) ⟨((hS.im 0 rfl).oki ho13),((hS.im 0 rfl).at1 ho13 1 rfl),(r04_Size_ok (g_v_:=(g_l_.s (v9).toNat 0)) m _ _ _ hy21 _ (s0im s0nil (tyDeclared_i0 ((hS.im 0 rfl).el ho13)))),trivial⟩ fun _ _ H23 hb => ?_
   replace hS:=hS.below hb
   refine w_reg [] [0,3,4] (fS [0,3,4] [vL g_l_ l_,vI (w64 (v8 + y21)),vI (w64 (v9 + 1))]) [] H23 (by kernel_rfl) trivial fun _ _ H25 hb => ?_
   replace hS:=hS.below hb
   exact ⟨_,Nat.lt_succ_self _,w64 (v8 + y21),w64 (v9 + 1),hm,FrG.keep (ks:=[0,3,4]) H25 (by kernel_rfl),hS⟩
 ·rintro _ _ ⟨s_z5,hz,H,hS⟩
  subst hz
  replace hm:=sumR hm_z5
  obtain ⟨x29,hx29,hm⟩:=letE hm
  refine s_reg [] [2] [(2,[],vB x29)] [] H (by subst hx29; kernel_rfl) trivial fun _ _ H31 hb => ?_
  replace hS:=hS.below hb
  replace hS : SH M X w [] _:=hS.sel [] rfl
  apply w_ret
  obtain rfl:=someE hm
  exact retR1 H31 rfl rfl ⟨_,rfl,rfl,(hS.sel [] rfl)⟩
theorem r29_Great_ok {g_l_ : Gh} (m : Nat) (l_ : List TDeclared) (r : Bool) (hm : r29_Great m l_ = some r) (w : World) (hL : S0 F0 [eI tyDeclared l_ g_l_] w ∧ fpl [eI tyDeclared l_ g_l_] = []) : RetB Tryz.prog 7 ⟨[vL g_l_ l_]⟩ (vB r) w:=retB_of hL (Tryz.call7 _) (fun w' h => r29_Great_w F0 m   l_ r hm w' h)

theorem r25_Custom_w  (M : Av) (s : Str) (r : Bool) (hm : r25_Custom s = some r) (w : World) (hS : S0 M [] w) : Calls Tryz.prog 50 ⟨[vS s]⟩ w (fun e w' => ∃ v,e = .returned v ∧ v = vB r ∧ SH M (fpl []) w [] w'):=by
 rw [r25_Custom] at hm
 have hS0 : SH M (fpl []) w [] w:=hS
 generalize hX : fpl [] = X at hS0 ⊢
 clear hS hX
 have hS:=hS0
 clear hS0
 refine calls_entryP Tryz.func50 rfl Tryz.ntmps50 rfl fun _ H => ?_
 refine s_reg [] [0] [(0,[],vS s)] [] H (by kernel_rfl) trivial fun _ _ H2 hb => ?_
 replace hS:=hS.below hb
 obtain ⟨x3,hx3,hm⟩:=letE hm
 obtain ⟨ho4,hm⟩:=chkE hm
 refine s_reg [] [2] [(2,[],vB (cond x3 ((sub s 0 2) == [45,45]) false))] [fun _ => (x3 = true ∧ True → 0 ≤ (2 : Int) ∧ (2 : Int) ≤ ln s)] H2 (by subst hx3; kernel_rfl) ⟨fun hg => (ho4 hg.1),trivial⟩ fun _ _ H6 hb => ?_
 replace hS:=hS.below hb
 apply w_ret
 obtain rfl:=someE hm
 exact retR1 H6 rfl rfl ⟨_,rfl,rfl,(hS.sel [] rfl)⟩
theorem r25_Custom_ok  (s : Str) (r : Bool) (hm : r25_Custom s = some r) : Ret Tryz.prog 50 ⟨[vS s]⟩ (vB r):=retP_of (Tryz.call50 _) (fun w h => r25_Custom_w F0   s r hm w h)

theorem r25_word_w  (M : Av) (s : Str) (r : TVal) (hm : r25_word s = r) (w : World) (hS : S0 M [] w) : Calls Tryz.prog 74 ⟨[vS s]⟩ w (fun e w' => ∃ v,e = .returned v ∧ v = vG (cV r) ∧ SH M (fpl []) w [] w'):=by
 rw [r25_word] at hm
 have hS0 : SH M (fpl []) w [] w:=hS
 generalize hX : fpl [] = X at hS0 ⊢
 clear hS hX
 have hS:=hS0
 clear hS0
 refine calls_entryP Tryz.func74 rfl Tryz.ntmps74 rfl fun _ H => ?_
 apply w_seq
 apply wl_start
 have hd:=hS.hand [] [] rfl rfl
 refine m_stp [2,0] [(0,[],vS s)] H rfl rfl rfl rfl (o_alloc [vU 0,vN,vI 0,vU 0,vU 0,vU 0,vU 0] (z:=vG [vU 0,vN,vI 0,vU 0,vU 0,vU 0,vU 0]) hd (by kernel_rfl) rfl) (fun _ => rfl) fun _ _ v H3 hq => ?_
 obtain ⟨b1,rfl,hq⟩:=hq
 replace hS : SH M X w [eB b1 [vU 0,vN,vI 0,vU 0,vU 0,vU 0,vU 0]] _:=hS.join [] [] rfl rfl hq
 apply wl_end rfl
 apply w_seq
 apply wl_start
 refine wl_batch 0 2 [] [2,4] (fS [2,4] [vP b1,vG [vU 1,vS s,vI 0,vU 0,vU 0,vU 0,vU 0]]) [] H3 (by decide) (by kernel_rfl) trivial fun _ _ H5 hb => ?_
 replace hS:=hS.below hb
 have hd:=hS.hand [0] [] rfl rfl
 refine m_stp0 [2] [(2,[],vP b1)] H5 rfl rfl rfl (o_store [vU 1,vS s,vI 0,vU 0,vU 0,vU 0,vU 0] H5 hd rfl rfl (by kernel_rfl) rfl rfl rfl) rfl fun _ _ H7 hq => ?_
 obtain ⟨_,hq⟩:=hq
 replace hS : SH M X w [eB b1 [vU 1,vS s,vI 0,vU 0,vU 0,vU 0,vU 0]] _:=hS.join [0] [] rfl rfl hq
 apply wl_end rfl
 apply w_ret
 subst hm
 exact retR1 H7 rfl (oneRes_agg rfl (hS.bk 0 rfl) Tryz.underlying74 rfl (by kernel_rfl)) ⟨_,rfl,rfl,(hS.sel [] rfl)⟩
theorem r25_word_ok  (s : Str) : Ret Tryz.prog 74 ⟨[vS s]⟩ (vG (cV (r25_word s))):=retP_of (Tryz.call74 _) (fun w h => r25_word_w F0   s _ rfl w h)

theorem r25_px_w  (M : Av) (n_ : Int) (r : TVal) (hm : r25_px n_ = r) (w : World) (hS : S0 M [] w) : Calls Tryz.prog 75 ⟨[vI n_]⟩ w (fun e w' => ∃ v,e = .returned v ∧ v = vG (cV r) ∧ SH M (fpl []) w [] w'):=by
 rw [r25_px] at hm
 have hS0 : SH M (fpl []) w [] w:=hS
 generalize hX : fpl [] = X at hS0 ⊢
 clear hS hX
 have hS:=hS0
 clear hS0
 refine calls_entryP Tryz.func75 rfl Tryz.ntmps75 rfl fun _ H => ?_
 apply w_seq
 apply wl_start
 have hd:=hS.hand [] [] rfl rfl
 refine m_stp [2,0] [(0,[],vI n_)] H rfl rfl rfl rfl (o_alloc [vU 0,vN,vI 0,vU 0,vU 0,vU 0,vU 0] (z:=vG [vU 0,vN,vI 0,vU 0,vU 0,vU 0,vU 0]) hd (by kernel_rfl) rfl) (fun _ => rfl) fun _ _ v H3 hq => ?_
 obtain ⟨b1,rfl,hq⟩:=hq
 replace hS : SH M X w [eB b1 [vU 0,vN,vI 0,vU 0,vU 0,vU 0,vU 0]] _:=hS.join [] [] rfl rfl hq
 apply wl_end rfl
 apply w_seq
 apply wl_start
 refine wl_batch 0 2 [] [2,4] (fS [2,4] [vP b1,vG [vU 2,vN,vI n_,vU 0,vU 0,vU 0,vU 0]]) [] H3 (by decide) (by kernel_rfl) trivial fun _ _ H5 hb => ?_
 replace hS:=hS.below hb
 have hd:=hS.hand [0] [] rfl rfl
 refine m_stp0 [2] [(2,[],vP b1)] H5 rfl rfl rfl (o_store [vU 2,vN,vI n_,vU 0,vU 0,vU 0,vU 0] H5 hd rfl rfl (by kernel_rfl) rfl rfl rfl) rfl fun _ _ H7 hq => ?_
 obtain ⟨_,hq⟩:=hq
 replace hS : SH M X w [eB b1 [vU 2,vN,vI n_,vU 0,vU 0,vU 0,vU 0]] _:=hS.join [0] [] rfl rfl hq
 apply wl_end rfl
 apply w_ret
 subst hm
 exact retR1 H7 rfl (oneRes_agg rfl (hS.bk 0 rfl) Tryz.underlying74 rfl (by kernel_rfl)) ⟨_,rfl,rfl,(hS.sel [] rfl)⟩
theorem r25_px_ok  (n_ : Int) : Ret Tryz.prog 75 ⟨[vI n_]⟩ (vG (cV (r25_px n_))):=retP_of (Tryz.call75 _) (fun w h => r25_px_w F0   n_ _ rfl w h)

theorem r25_Table_w  (M : Av)  (r : List TProp) (hm : r25_Table = some r) (w : World) (hS : S0 M [] w) : Calls Tryz.prog 52 ⟨[]⟩ w (fun e w' => ∃ v,e = .returned v ∧ ∃ (g901 : Gh),v = vL g901 r ∧ SH M (fpl []) w [eO 77 tyProp r g901] w'):=by
 rw [r25_Table] at hm
 have hS0 : SH M (fpl []) w [] w:=hS
 generalize hX : fpl [] = X at hS0 ⊢
 clear hS hX
 have hS:=hS0
 clear hS0
 refine calls_entryP Tryz.func52 rfl Tryz.ntmps52 rfl fun _ H => ?_
 refine s_reg [] [] [] [] H (by kernel_rfl) trivial fun _ _ H2 hb => ?_
 replace hS:=hS.below hb
 apply w_seq
 apply wl_start
 refine wl_batch 0 1 [] [5] [(5,[],vG [vU 8,vN,vI 0,vU 0,vU 0,vU 0,vU 0])] [] H2 (by decide) (by kernel_rfl) trivial fun _ _ H4 hb => ?_
 replace hS:=hS.below hb
 have hd:=hS.hand [] [] rfl rfl
 refine m_stp [1,5] [(5,[],vG [vU 8,vN,vI 0,vU 0,vU 0,vU 0,vU 0])] H4 rfl rfl rfl rfl (o_alloc [vU 0,vN,vI 0,vU 0,vU 0,vU 0,vU 0] (z:=vG [vU 0,vN,vI 0,vU 0,vU 0,vU 0,vU 0]) hd (by kernel_rfl) rfl) (fun _ => rfl) fun _ _ v H7 hq => ?_
 obtain ⟨b5,rfl,hq⟩:=hq
 replace hS : SH M X w [eB b5 [vU 0,vN,vI 0,vU 0,vU 0,vU 0,vU 0]] _:=hS.join [] [] rfl rfl hq
 have hd:=hS.hand [0] [] rfl rfl
 refine m_stp0 [1] [(1,[],vP b5)] H7 rfl rfl rfl (o_store [vU 8,vN,vI 0,vU 0,vU 0,vU 0,vU 0] H7 hd rfl rfl (by kernel_rfl) rfl rfl rfl) rfl fun _ _ H9 hq => ?_
 obtain ⟨_,hq⟩:=hq
 replace hS : SH M X w [eB b5 [vU 8,vN,vI 0,vU 0,vU 0,vU 0,vU 0]] _:=hS.join [0] [] rfl rfl hq
 apply wl_end rfl
 apply w_seq
 apply wl_start
 have hd:=hS.hand [] [0] rfl rfl
 refine m_stp [6,1] [(1,[],vP b5)] H9 rfl rfl rfl rfl (o_lit (T:=(tI .u8)) (E:=5) (zv:=vU 0) [vU 7,vU 8] ([7,8] : List Int) [gL [],gL []] _ H9 hd rfl (by kernel_rfl) (by kernel_rfl) (by kernel_rfl) (by kernel_rfl) (by kernel_rfl) (by kernel_rfl) (by kernel_rfl) rfl (InnL.cons trivial (InnL.cons trivial InnL.nil))) (fun _ => rfl) fun _ _ v H13 hq => ?_
 obtain ⟨g10,rfl,hq⟩:=hq
 replace hS : SH M X w [eO 5 (tI .u8) ([7,8] : List Int) g10,eB b5 [vU 8,vN,vI 0,vU 0,vU 0,vU 0,vU 0]] _:=hS.join [] [0] rfl rfl hq
 refine wl_batch 1 2 [] [1,2] (fS [1,2] [vP b5,vK g10 2]) [] H13 (by decide) (by kernel_rfl) trivial fun _ _ H15 hb => ?_
 replace hS:=hS.below hb
 apply wl_end rfl
 apply w_seq
 apply wl_start
 have hd:=hS.hand [] [0,1] rfl rfl
 refine m_stp [7,1,2] (fS [1,2] [vP b5,vK g10 2]) H15 rfl rfl rfl rfl (o_lit (T:=(tI .u8)) (E:=5) (zv:=vU 0) [vU 2,vU 3,vU 4] kL1 [gL [],gL [],gL []] _ H15 hd rfl (by kernel_rfl) (by kernel_rfl) (by kernel_rfl) (by kernel_rfl) (by kernel_rfl) (by kernel_rfl) (by kernel_rfl) rfl (InnL.cons trivial (InnL.cons trivial (InnL.cons trivial InnL.nil)))) (fun _ => rfl) fun _ _ v H19 hq => ?_
 obtain ⟨g16,rfl,hq⟩:=hq
 replace hS : SH M X w [eO 5 (tI .u8) kL1 g16,eO 5 (tI .u8) ([7,8] : List Int) g10,eB b5 [vU 8,vN,vI 0,vU 0,vU 0,vU 0,vU 0]] _:=hS.join [] [0,1] rfl rfl hq
 refine wl_batch 1 2 [] [1,2,3] (fS [1,2,3] [vP b5,vK g10 2,vK g16 3]) [] H19 (by decide) (by kernel_rfl) trivial fun _ _ H21 hb => ?_
 replace hS:=hS.below hb
 apply wl_end rfl
 apply w_seq
 apply wl_start
 refine wl_batch 0 1 [] [1,2,3,8] (fS [1,2,3,8] [vP b5,vK g10 2,vK g16 3,vG [vU 1,vS [97,117,116,111],vI 0,vU 0,vU 0,vU 0,vU 0]]) [] H21 (by decide) (by kernel_rfl) trivial fun _ _ H23 hb => ?_
 replace hS:=hS.below hb
 have hd:=hS.hand [] [0,1,2] rfl rfl
 refine m_stp [4,1,2,3,8] (fS [1,2,3,8] [vP b5,vK g10 2,vK g16 3,vG [vU 1,vS [97,117,116,111],vI 0,vU 0,vU 0,vU 0,vU 0]]) H23 rfl rfl rfl rfl (o_alloc [vU 0,vN,vI 0,vU 0,vU 0,vU 0,vU 0] (z:=vG [vU 0,vN,vI 0,vU 0,vU 0,vU 0,vU 0]) hd (by kernel_rfl) rfl) (fun _ => rfl) fun _ _ v H26 hq => ?_
 obtain ⟨b24,rfl,hq⟩:=hq
 replace hS : SH M X w [eB b24 [vU 0,vN,vI 0,vU 0,vU 0,vU 0,vU 0],eO 5 (tI .u8) kL1 g16,eO 5 (tI .u8) ([7,8] : List Int) g10,eB b5 [vU 8,vN,vI 0,vU 0,vU 0,vU 0,vU 0]] _:=hS.join [] [0,1,2] rfl rfl hq
 have hd:=hS.hand [0] [1,2,3] rfl rfl
 refine m_stp0 [1,2,3,4] (fS [1,2,3,4] [vP b5,vK g10 2,vK g16 3,vP b24]) H26 rfl rfl rfl (o_store [vU 1,vS [97,117,116,111],vI 0,vU 0,vU 0,vU 0,vU 0] H26 hd rfl rfl (by kernel_rfl) rfl rfl rfl) rfl fun _ _ H28 hq => ?_
 obtain ⟨_,hq⟩:=hq
 replace hS : SH M X w [eB b24 [vU 1,vS [97,117,116,111],vI 0,vU 0,vU 0,vU 0,vU 0],eO 5 (tI .u8) kL1 g16,eO 5 (tI .u8) ([7,8] : List Int) g10,eB b5 [vU 8,vN,vI 0,vU 0,vU 0,vU 0,vU 0]] _:=hS.join [0] [1,2,3] rfl rfl hq
 apply wl_end rfl
 obtain ⟨y30,hy30,hm⟩:=letE hm
 obtain ⟨y33,hy33,hm⟩:=letE hm
 obtain ⟨y40,hy40,hm⟩:=letE hm
 obtain ⟨y43,hy43,hm⟩:=letE hm
 obtain ⟨y46,hy46,hm⟩:=letE hm
 obtain ⟨y49,hy49,hm⟩:=letE hm
 obtain ⟨y52,hy52,hm⟩:=letE hm
 obtain ⟨y53,hy53,hm⟩:=letE hm
 obtain ⟨ho58,hm⟩:=chkE hm
 obtain ⟨q59,hq59,hm⟩:=letE hm
 obtain ⟨ho63,hm⟩:=chkE hm
 obtain ⟨q64,hq64,hm⟩:=letE hm
 obtain ⟨y66,hy66,hm⟩:=letE hm
 refine s_drawS (base:=(fS [1,2,3,4] [vP b5,vK g10 2,vK g16 3,vP b24])) (L:=[eB b24 [vU 1,vS [97,117,116,111],vI 0,vU 0,vU 0,vU 0,vU 0],eO 5 (tI .u8) kL1 g16,eO 5 (tI .u8) ([7,8] : List Int) g10,eB b5 [vU 8,vN,vI 0,vU 0,vU 0,vU 0,vU 0]]) 69 4 (fun yg29 => [vG [vU 0,vU 0,vU 0,vU 255],vG [vU 7,vN,vI 0,vU 0,vU 0,vU 0,vU 255],vK g10 2,vG [vS [99,111,108,111,114],vT,vU 7,vN,vI 0,vU 0,vU 0,vU 0,vU 255,vO,vK g10 2,vF],vG [vU 7,vN,vI 0,vU 0,vU 0,vU 0,vU 0],vK g10 2,vG [vS [98,97,99,107,103,114,111,117,110,100,45,99,111,108,111,114],vF,vU 7,vN,vI 0,vU 0,vU 0,vU 0,vU 0,vO,vK g10 2,vF],vG [vU 8,vN,vI 0,vU 0,vU 0,vU 0,vU 0],vK g10 2,vG [vS [98,111,114,100,101,114,45,99,111,108,111,114],vF,vU 8,vN,vI 0,vU 0,vU 0,vU 0,vU 0,vO,vK g10 2,vF],vG [vU 8,vN,vI 0,vU 0,vU 0,vU 0,vU 0],vK g10 2,vG [vS [111,117,116,108,105,110,101,45,99,111,108,111,114],vF,vU 8,vN,vI 0,vU 0,vU 0,vU 0,vU 0,vO,vK g10 2,vF],vG (cV y30),vK (yg29 14 0) 5,vG [vS [100,105,115,112,108,97,121],vF,vU y30.Kind,vS y30.Word,vI y30.Num,vU y30.Color.Red,vU y30.Color.Green,vU y30.Color.Blue,vU y30.Color.Alpha,vK (yg29 14 0) 5,vO,vF],vG (cV y33),vK (yg29 17 0) 3,vG [vS [118,105,115,105,98,105,108,105,116,121],vT,vU y33.Kind,vS y33.Word,vI y33.Num,vU y33.Color.Red,vU y33.Color.Green,vU y33.Color.Blue,vU y33.Color.Alpha,vK (yg29 17 0) 3,vO,vF],vG [vU 1,vS [97,117,116,111],vI 0,vU 0,vU 0,vU 0,vU 0],vK (yg29 20 0) 1,vK g16 3,vG [vS [119,105,100,116,104],vF,vU 1,vS [97,117,116,111],vI 0,vU 0,vU 0,vU 0,vU 0,vK (yg29 20 0) 1,vK g16 3,vT],vG [vU 1,vS [97,117,116,111],vI 0,vU 0,vU 0,vU 0,vU 0],vK (yg29 24 0) 1,vK g16 3,vG [vS [104,101,105,103,104,116],vF,vU 1,vS [97,117,116,111],vI 0,vU 0,vU 0,vU 0,vU 0,vK (yg29 24 0) 1,vK g16 3,vT],vG (cV y40),vK (yg29 28 0) 1,vK g16 3,vG [vS [109,97,114,103,105,110,45,116,111,112],vF,vU y40.Kind,vS y40.Word,vI y40.Num,vU y40.Color.Red,vU y40.Color.Green,vU y40.Color.Blue,vU y40.Color.Alpha,vK (yg29 28 0) 1,vK g16 3,vF],vG (cV y43),vK (yg29 32 0) 1,vK g16 3,vG [vS [109,97,114,103,105,110,45,114,105,103,104,116],vF,vU y43.Kind,vS y43.Word,vI y43.Num,vU y43.Color.Red,vU y43.Color.Green,vU y43.Color.Blue,vU y43.Color.Alpha,vK (yg29 32 0) 1,vK g16 3,vF],vG (cV y46),vK (yg29 36 0) 1,vK g16 3,vG [vS [109,97,114,103,105,110,45,98,111,116,116,111,109],vF,vU y46.Kind,vS y46.Word,vI y46.Num,vU y46.Color.Red,vU y46.Color.Green,vU y46.Color.Blue,vU y46.Color.Alpha,vK (yg29 36 0) 1,vK g16 3,vF],vG (cV y49),vK (yg29 40 0) 1,vK g16 3,vG [vS [109,97,114,103,105,110,45,108,101,102,116],vF,vU y49.Kind,vS y49.Word,vI y49.Num,vU y49.Color.Red,vU y49.Color.Green,vU y49.Color.Blue,vU y49.Color.Alpha,vK (yg29 40 0) 1,vK g16 3,vF],vG (cV y52),vK g16 3,vG [vS [102,111,110,116,45,115,105,122,101],vT,vU y52.Kind,vS y52.Word,vI y52.Num,vU y52.Color.Red,vU y52.Color.Green,vU y52.Color.Blue,vU y52.Color.Alpha,vO,vK g16 3,vT],vG (cV y53),vK (yg29 47 0) 1,vK (yg29 48 0) 0,vK g16 3,.slice (yg29 50 0).a q59.length (yg29 50 0).c,vK (yg29 51 0) 1,.slice (yg29 52 0).a q64.length (yg29 52 0).c,vG [vS [108,105,110,101,45,104,101,105,103,104,116],vT,vU y53.Kind,vS y53.Word,vI y53.Num,vU y53.Color.Red,vU y53.Color.Green,vU y53.Color.Blue,vU y53.Color.Alpha,vK (yg29 47 0) 1,.slice (yg29 52 0).a q64.length (yg29 52 0).c,vT],vG (cV y66),vK (yg29 55 0) 4,vG [vS [116,101,120,116,45,97,108,105,103,110],vT,vU y66.Kind,vS y66.Word,vI y66.Num,vU y66.Color.Red,vU y66.Color.Green,vU y66.Color.Blue,vU y66.Color.Alpha,vK (yg29 55 0) 4,vO,vF],vG [vU 5,vN,vI 1000,vU 0,vU 0,vU 0,vU 0],vK (yg29 58 0) 1,vG [vS [111,112,97,99,105,116,121],vF,vU 5,vN,vI 1000,vU 0,vU 0,vU 0,vU 0,vO,vK (yg29 58 0) 1,vF],vG [vU 1,vS [97,117,116,111],vI 0,vU 0,vU 0,vU 0,vU 0],vK (yg29 61 0) 1,vK (yg29 62 0) 1,vG [vS [122,45,105,110,100,101,120],vF,vU 1,vS [97,117,116,111],vI 0,vU 0,vU 0,vU 0,vU 0,vK (yg29 61 0) 1,vK (yg29 62 0) 1,vF],vG [vU 6,vN,vI 0,vU 0,vU 0,vU 0,vU 0],vK (yg29 65 0) 1,vG [vS [111,114,100,101,114],vF,vU 6,vN,vI 0,vU 0,vU 0,vU 0,vU 0,vO,vK (yg29 65 0) 1,vF],vK (yg29 67 0) 18,vK (yg29 67 0) 18]) (fun yg29 => [[],[],[],[],[],[],[],[],[],[],[],[],[],[],[eO 9 tS kL2 (yg29 14 0)],[],[],[eO 9 tS kL3 (yg29 17 0)],[],[],[eO 9 tS kL0 (yg29 20 0)],[],[],[],[eO 9 tS kL0 (yg29 24 0)],[],[],[],[eO 9 tS kL0 (yg29 28 0)],[],[],[],[eO 9 tS kL0 (yg29 32 0)],[],[],[],[eO 9 tS kL0 (yg29 36 0)],[],[],[],[eO 9 tS kL0 (yg29 40 0)],[],[],[],[],[],[],[eO 9 tS kL4 (yg29 47 0)],[eO 5 (tI .u8) ([] : List Int) (yg29 48 0)],[],[eO 5 (tI .u8) q59 (yg29 50 0)],[eO 5 (tI .u8) ([5] : List Int) (yg29 51 0)],[eO 5 (tI .u8) q64 (yg29 52 0)],[],[],[eO 9 tS kL5 (yg29 55 0)],[],[],[eO 5 (tI .u8) ([5] : List Int) (yg29 58 0)],[],[],[eO 9 tS kL0 (yg29 61 0)],[eO 5 (tI .u8) ([6] : List Int) (yg29 62 0)],[],[],[eO 5 (tI .u8) ([6] : List Int) (yg29 65 0)],[],[eO 77 tyProp ([(TProp.mk [99,111,108,111,114] true (TVal.mk 7 [] 0 (TColor.mk 0 0 0 255)) [] ([7,8] : List Int) false),(TProp.mk [98,97,99,107,103,114,111,117,110,100,45,99,111,108,111,114] false (TVal.mk 7 [] 0 (TColor.mk 0 0 0 0)) [] ([7,8] : List Int) false),(TProp.mk [98,111,114,100,101,114,45,99,111,108,111,114] false (TVal.mk 8 [] 0 (TColor.mk 0 0 0 0)) [] ([7,8] : List Int) false),(TProp.mk [111,117,116,108,105,110,101,45,99,111,108,111,114] false (TVal.mk 8 [] 0 (TColor.mk 0 0 0 0)) [] ([7,8] : List Int) false),(TProp.mk [100,105,115,112,108,97,121] false y30 kL2 [] false),(TProp.mk [118,105,115,105,98,105,108,105,116,121] true y33 kL3 [] false),(TProp.mk [119,105,100,116,104] false (TVal.mk 1 [97,117,116,111] 0 (TColor.mk 0 0 0 0)) kL0 kL1 true),(TProp.mk [104,101,105,103,104,116] false (TVal.mk 1 [97,117,116,111] 0 (TColor.mk 0 0 0 0)) kL0 kL1 true),(TProp.mk [109,97,114,103,105,110,45,116,111,112] false y40 kL0 kL1 false),(TProp.mk [109,97,114,103,105,110,45,114,105,103,104,116] false y43 kL0 kL1 false),(TProp.mk [109,97,114,103,105,110,45,98,111,116,116,111,109] false y46 kL0 kL1 false),(TProp.mk [109,97,114,103,105,110,45,108,101,102,116] false y49 kL0 kL1 false),(TProp.mk [102,111,110,116,45,115,105,122,101] true y52 [] kL1 true),(TProp.mk [108,105,110,101,45,104,101,105,103,104,116] true y53 kL4 q64 true),(TProp.mk [116,101,120,116,45,97,108,105,103,110] true y66 kL5 [] false),(TProp.mk [111,112,97,99,105,116,121] false (TVal.mk 5 [] 1000 (TColor.mk 0 0 0 0)) [] ([5] : List Int) false),(TProp.mk [122,45,105,110,100,101,120] false (TVal.mk 1 [97,117,116,111] 0 (TColor.mk 0 0 0 0)) kL0 ([6] : List Int) false),(TProp.mk [111,114,100,101,114] false (TVal.mk 6 [] 0 (TColor.mk 0 0 0 0)) [] ([6] : List Int) false)] : List TProp) (yg29 67 0),eI (tI .u8) ([6] : List Int) (yg29 65 0),eI (tI .u8) ([6] : List Int) (yg29 62 0),eI tS kL0 (yg29 61 0),eI (tI .u8) ([5] : List Int) (yg29 58 0),eI tS kL5 (yg29 55 0),eI (tI .u8) q64 (yg29 52 0),eI tS kL4 (yg29 47 0),eI tS kL0 (yg29 40 0),eI tS kL0 (yg29 36 0),eI tS kL0 (yg29 32 0),eI tS kL0 (yg29 28 0),eI tS kL0 (yg29 24 0),eI (tI .u8) kL1 (yg29 67 1),eI tS kL0 (yg29 20 0),eI tS kL3 (yg29 17 0),eI tS kL2 (yg29 14 0),eI (tI .u8) ([7,8] : List Int) (yg29 67 2)],[]]) [[],[],[],[71],[],[],[71],[72],[],[71],[72],[],[71],[],[],[14],[],[],[17],[69],[],[],[20,70],[69],[],[],[24,70],[],[],[],[28,70],[],[],[],[32,70],[],[],[],[36,70],[],[],[],[40,70],[],[],[70],[],[],[],[],[48,70],[],[50,51],[47,52],[],[],[55],[],[],[58],[69],[],[],[61,62],[],[],[65],[14,17,20,24,28,32,36,40,47,52,55,58,61,62,65,70,71],[67]] [[],[],[],[],[],[],[],[],[],[],[],[],[],[],[],[],[],[],[],[],[],[],[],[],[],[],[],[],[],[],[],[],[],[],[],[],[],[],[],[],[],[],[],[],[],[],[],[],[],[],[48],[],[50],[],[],[],[],[],[],[],[],[],[],[],[],[],[],[14,17,20,24,28,32,36,40,47,52,55,58,61,62,65,70,71],[]] [[0],[0,1],[2],[0,1,2,3],[4],[5],[4,5,6],[7],[8],[7,8,9],[10],[11],[10,11,12],[13],[14],[13,14,15],[16],[17],[16,17,18],[19],[20],[21],[19,20,21,22],[23],[24],[25],[23,24,25,26],[27],[28],[29],[27,28,29,30],[31],[32],[33],[31,32,33,34],[35],[36],[37],[35,36,37,38],[39],[40],[41],[39,40,41,42],[43],[44],[43,44,45],[46],[47],[48],[49],[48,49,50],[51],[48,49,50,51,52],[46,47,48,49,50,51,52,53],[54],[55],[54,55,56],[57],[58],[57,58,59],[60],[61],[62],[60,61,62,63],[64],[65],[64,65,66],[0,1,2,3,4,5,6,7,8,9,10,11,12,13,14,15,16,17,18,19,20,21,22,23,24,25,26,27,28,29,30,31,32,33,34,35,36,37,38,39,40,41,42,43,44,45,46,47,48,49,50,51,52,53,54,55,56,57,58,59,60,61,62,63,64,65,66,67],[0,1,2,3,4,5,6,7,8,9,10,11,12,13,14,15,16,17,18,19,20,21,22,23,24,25,26,27,28,29,30,31,32,33,34,35,36,37,38,39,40,41,42,43,44,45,46,47,48,49,50,51,52,53,54,55,56,57,58,59,60,61,62,63,64,65,66,67,68]] [] (FrG.keep (ks:=[1,2,3,4]) H28 (by kernel_rfl)) (fun _ _ h => by cases h) (by kernel_rfl) hS (by kernel_rfl) rfl rfl (by kernel_rfl) (by kernel_rfl) (by kernel_rfl) (gd_none (by kernel_rfl) _ _) ?hloc_yg29 ?hstep_yg29 fun _ _ yg29 H80 hv hS => ?hK_yg29
 case hloc_yg29 => exact ⟨(fun _ _ _ _ => ⟨rfl,rfl⟩),(fun _ _ _ _ => ⟨rfl,rfl⟩),(fun _ _ _ _ => ⟨rfl,rfl⟩),(fun _ _ _ _ => ⟨rfl,rfl⟩),(fun _ _ _ _ => ⟨rfl,rfl⟩),(fun _ _ _ _ => ⟨rfl,rfl⟩),(fun _ _ _ _ => ⟨rfl,rfl⟩),(fun _ _ _ _ => ⟨rfl,rfl⟩),(fun _ _ _ _ => ⟨rfl,rfl⟩),(fun _ _ _ _ => ⟨rfl,rfl⟩),(fun _ _ _ _ => ⟨rfl,rfl⟩),(fun _ _ _ _ => ⟨rfl,rfl⟩),(fun _ _ _ _ => ⟨rfl,rfl⟩),(fun _ _ _ _ => ⟨rfl,rfl⟩),(fun _ i g hi => lcG [14] (fun yg29 => (vK (yg29 14 0) 5,[eO 9 tS kL2 (yg29 14 0)])) hi rfl),(fun _ i g hi => lcG [14] (fun yg29 => (vG [vS [100,105,115,112,108,97,121],vF,vU y30.Kind,vS y30.Word,vI y30.Num,vU y30.Color.Red,vU y30.Color.Green,vU y30.Color.Blue,vU y30.Color.Alpha,vK (yg29 14 0) 5,vO,vF],[])) hi rfl),(fun _ _ _ _ => ⟨rfl,rfl⟩),(fun _ i g hi => lcG [17] (fun yg29 => (vK (yg29 17 0) 3,[eO 9 tS kL3 (yg29 17 0)])) hi rfl),(fun _ i g hi => lcG [17] (fun yg29 => (vG [vS [118,105,115,105,98,105,108,105,116,121],vT,vU y33.Kind,vS y33.Word,vI y33.Num,vU y33.Color.Red,vU y33.Color.Green,vU y33.Color.Blue,vU y33.Color.Alpha,vK (yg29 17 0) 3,vO,vF],[])) hi rfl),(fun _ _ _ _ => ⟨rfl,rfl⟩),(fun _ i g hi => lcG [20] (fun yg29 => (vK (yg29 20 0) 1,[eO 9 tS kL0 (yg29 20 0)])) hi rfl),(fun _ _ _ _ => ⟨rfl,rfl⟩),(fun _ i g hi => lcG [20] (fun yg29 => (vG [vS [119,105,100,116,104],vF,vU 1,vS [97,117,116,111],vI 0,vU 0,vU 0,vU 0,vU 0,vK (yg29 20 0) 1,vK g16 3,vT],[])) hi rfl),(fun _ _ _ _ => ⟨rfl,rfl⟩),(fun _ i g hi => lcG [24] (fun yg29 => (vK (yg29 24 0) 1,[eO 9 tS kL0 (yg29 24 0)])) hi rfl),(fun _ _ _ _ => ⟨rfl,rfl⟩),(fun _ i g hi => lcG [24] (fun yg29 => (vG [vS [104,101,105,103,104,116],vF,vU 1,vS [97,117,116,111],vI 0,vU 0,vU 0,vU 0,vU 0,vK (yg29 24 0) 1,vK g16 3,vT],[])) hi rfl),(fun _ _ _ _ => ⟨rfl,rfl⟩),(fun _ i g hi => lcG [28] (fun yg29 => (vK (yg29 28 0) 1,[eO 9 tS kL0 (yg29 28 0)])) hi rfl),(fun _ _ _ _ => ⟨rfl,rfl⟩),(fun _ i g hi => lcG [28] (fun yg29 => (vG [vS [109,97,114,103,105,110,45,116,111,112],vF,vU y40.Kind,vS y40.Word,vI y40.Num,vU y40.Color.Red,vU y40.Color.Green,vU y40.Color.Blue,vU y40.Color.Alpha,vK (yg29 28 0) 1,vK g16 3,vF],[])) hi rfl),(fun _ _ _ _ => ⟨rfl,rfl⟩),(fun _ i g hi => lcG [32] (fun yg29 => (vK (yg29 32 0) 1,[eO 9 tS kL0 (yg29 32 0)])) hi rfl),(fun _ _ _ _ => ⟨rfl,rfl⟩),(fun _ i g hi => lcG [32] (fun yg29 => (vG [vS [109,97,114,103,105,110,45,114,105,103,104,116],vF,vU y43.Kind,vS y43.Word,vI y43.Num,vU y43.Color.Red,vU y43.Color.Green,vU y43.Color.Blue,vU y43.Color.Alpha,vK (yg29 32 0) 1,vK g16 3,vF],[])) hi rfl),(fun _ _ _ _ => ⟨rfl,rfl⟩),(fun _ i g hi => lcG [36] (fun yg29 => (vK (yg29 36 0) 1,[eO 9 tS kL0 (yg29 36 0)])) hi rfl),(fun _ _ _ _ => ⟨rfl,rfl⟩),(fun _ i g hi => lcG [36] (fun yg29 => (vG [vS [109,97,114,103,105,110,45,98,111,116,116,111,109],vF,vU y46.Kind,vS y46.Word,vI y46.Num,vU y46.Color.Red,vU y46.Color.Green,vU y46.Color.Blue,vU y46.Color.Alpha,vK (yg29 36 0) 1,vK g16 3,vF],[])) hi rfl),(fun _ _ _ _ => ⟨rfl,rfl⟩),(fun _ i g hi => lcG [40] (fun yg29 => (vK (yg29 40 0) 1,[eO 9 tS kL0 (yg29 40 0)])) hi rfl),(fun _ _ _ _ => ⟨rfl,rfl⟩),(fun _ i g hi => lcG [40] (fun yg29 => (vG [vS [109,97,114,103,105,110,45,108,101,102,116],vF,vU y49.Kind,vS y49.Word,vI y49.Num,vU y49.Color.Red,vU y49.Color.Green,vU y49.Color.Blue,vU y49.Color.Alpha,vK (yg29 40 0) 1,vK g16 3,vF],[])) hi rfl),(fun _ _ _ _ => ⟨rfl,rfl⟩),(fun _ _ _ _ => ⟨rfl,rfl⟩),(fun _ _ _ _ => ⟨rfl,rfl⟩),(fun _ _ _ _ => ⟨rfl,rfl⟩),(fun _ i g hi => lcG [47] (fun yg29 => (vK (yg29 47 0) 1,[eO 9 tS kL4 (yg29 47 0)])) hi rfl),(fun _ i g hi => lcG [48] (fun yg29 => (vK (yg29 48 0) 0,[eO 5 (tI .u8) ([] : List Int) (yg29 48 0)])) hi rfl),(fun _ _ _ _ => ⟨rfl,rfl⟩),(fun _ i g hi => lcG [50] (fun yg29 => (.slice (yg29 50 0).a q59.length (yg29 50 0).c,[eO 5 (tI .u8) q59 (yg29 50 0)])) hi rfl),(fun _ i g hi => lcG [51] (fun yg29 => (vK (yg29 51 0) 1,[eO 5 (tI .u8) ([5] : List Int) (yg29 51 0)])) hi rfl),(fun _ i g hi => lcG [52] (fun yg29 => (.slice (yg29 52 0).a q64.length (yg29 52 0).c,[eO 5 (tI .u8) q64 (yg29 52 0)])) hi rfl),(fun _ i g hi => lcG [47,52] (fun yg29 => (vG [vS [108,105,110,101,45,104,101,105,103,104,116],vT,vU y53.Kind,vS y53.Word,vI y53.Num,vU y53.Color.Red,vU y53.Color.Green,vU y53.Color.Blue,vU y53.Color.Alpha,vK (yg29 47 0) 1,.slice (yg29 52 0).a q64.length (yg29 52 0).c,vT],[])) hi rfl),(fun _ _ _ _ => ⟨rfl,rfl⟩),(fun _ i g hi => lcG [55] (fun yg29 => (vK (yg29 55 0) 4,[eO 9 tS kL5 (yg29 55 0)])) hi rfl),(fun _ i g hi => lcG [55] (fun yg29 => (vG [vS [116,101,120,116,45,97,108,105,103,110],vT,vU y66.Kind,vS y66.Word,vI y66.Num,vU y66.Color.Red,vU y66.Color.Green,vU y66.Color.Blue,vU y66.Color.Alpha,vK (yg29 55 0) 4,vO,vF],[])) hi rfl),(fun _ _ _ _ => ⟨rfl,rfl⟩),(fun _ i g hi => lcG [58] (fun yg29 => (vK (yg29 58 0) 1,[eO 5 (tI .u8) ([5] : List Int) (yg29 58 0)])) hi rfl),(fun _ i g hi => lcG [58] (fun yg29 => (vG [vS [111,112,97,99,105,116,121],vF,vU 5,vN,vI 1000,vU 0,vU 0,vU 0,vU 0,vO,vK (yg29 58 0) 1,vF],[])) hi rfl),(fun _ _ _ _ => ⟨rfl,rfl⟩),(fun _ i g hi => lcG [61] (fun yg29 => (vK (yg29 61 0) 1,[eO 9 tS kL0 (yg29 61 0)])) hi rfl),(fun _ i g hi => lcG [62] (fun yg29 => (vK (yg29 62 0) 1,[eO 5 (tI .u8) ([6] : List Int) (yg29 62 0)])) hi rfl),(fun _ i g hi => lcG [61,62] (fun yg29 => (vG [vS [122,45,105,110,100,101,120],vF,vU 1,vS [97,117,116,111],vI 0,vU 0,vU 0,vU 0,vU 0,vK (yg29 61 0) 1,vK (yg29 62 0) 1,vF],[])) hi rfl),(fun _ _ _ _ => ⟨rfl,rfl⟩),(fun _ i g hi => lcG [65] (fun yg29 => (vK (yg29 65 0) 1,[eO 5 (tI .u8) ([6] : List Int) (yg29 65 0)])) hi rfl),(fun _ i g hi => lcG [65] (fun yg29 => (vG [vS [111,114,100,101,114],vF,vU 6,vN,vI 0,vU 0,vU 0,vU 0,vU 0,vO,vK (yg29 65 0) 1,vF],[])) hi rfl),(fun _ i g hi => lcG [14,17,20,24,28,32,36,40,47,52,55,58,61,62,65,67] (fun yg29 => (vK (yg29 67 0) 18,[eO 77 tyProp ([(TProp.mk [99,111,108,111,114] true (TVal.mk 7 [] 0 (TColor.mk 0 0 0 255)) [] ([7,8] : List Int) false),(TProp.mk [98,97,99,107,103,114,111,117,110,100,45,99,111,108,111,114] false (TVal.mk 7 [] 0 (TColor.mk 0 0 0 0)) [] ([7,8] : List Int) false),(TProp.mk [98,111,114,100,101,114,45,99,111,108,111,114] false (TVal.mk 8 [] 0 (TColor.mk 0 0 0 0)) [] ([7,8] : List Int) false),(TProp.mk [111,117,116,108,105,110,101,45,99,111,108,111,114] false (TVal.mk 8 [] 0 (TColor.mk 0 0 0 0)) [] ([7,8] : List Int) false),(TProp.mk [100,105,115,112,108,97,121] false y30 kL2 [] false),(TProp.mk [118,105,115,105,98,105,108,105,116,121] true y33 kL3 [] false),(TProp.mk [119,105,100,116,104] false (TVal.mk 1 [97,117,116,111] 0 (TColor.mk 0 0 0 0)) kL0 kL1 true),(TProp.mk [104,101,105,103,104,116] false (TVal.mk 1 [97,117,116,111] 0 (TColor.mk 0 0 0 0)) kL0 kL1 true),(TProp.mk [109,97,114,103,105,110,45,116,111,112] false y40 kL0 kL1 false),(TProp.mk [109,97,114,103,105,110,45,114,105,103,104,116] false y43 kL0 kL1 false),(TProp.mk [109,97,114,103,105,110,45,98,111,116,116,111,109] false y46 kL0 kL1 false),(TProp.mk [109,97,114,103,105,110,45,108,101,102,116] false y49 kL0 kL1 false),(TProp.mk [102,111,110,116,45,115,105,122,101] true y52 [] kL1 true),(TProp.mk [108,105,110,101,45,104,101,105,103,104,116] true y53 kL4 q64 true),(TProp.mk [116,101,120,116,45,97,108,105,103,110] true y66 kL5 [] false),(TProp.mk [111,112,97,99,105,116,121] false (TVal.mk 5 [] 1000 (TColor.mk 0 0 0 0)) [] ([5] : List Int) false),(TProp.mk [122,45,105,110,100,101,120] false (TVal.mk 1 [97,117,116,111] 0 (TColor.mk 0 0 0 0)) kL0 ([6] : List Int) false),(TProp.mk [111,114,100,101,114] false (TVal.mk 6 [] 0 (TColor.mk 0 0 0 0)) [] ([6] : List Int) false)] : List TProp) (yg29 67 0),eI (tI .u8) ([6] : List Int) (yg29 65 0),eI (tI .u8) ([6] : List Int) (yg29 62 0),eI tS kL0 (yg29 61 0),eI (tI .u8) ([5] : List Int) (yg29 58 0),eI tS kL5 (yg29 55 0),eI (tI .u8) q64 (yg29 52 0),eI tS kL4 (yg29 47 0),eI tS kL0 (yg29 40 0),eI tS kL0 (yg29 36 0),eI tS kL0 (yg29 32 0),eI tS kL0 (yg29 28 0),eI tS kL0 (yg29 24 0),eI (tI .u8) kL1 (yg29 67 1),eI tS kL0 (yg29 20 0),eI tS kL3 (yg29 17 0),eI tS kL2 (yg29 14 0),eI (tI .u8) ([7,8] : List Int) (yg29 67 2)])) hi rfl),(fun _ i g hi => lcG [67] (fun yg29 => (vK (yg29 67 0) 18,[])) hi rfl),trivial⟩
 case hstep_yg29 =>
  refine ⟨?_,?_,?_,?_,?_,?_,?_,?_,?_,?_,?_,?_,?_,?_,?_,?_,?_,?_,?_,?_,?_,?_,?_,?_,?_,?_,?_,?_,?_,?_,?_,?_,?_,?_,?_,?_,?_,?_,?_,?_,?_,?_,?_,?_,?_,?_,?_,?_,?_,?_,?_,?_,?_,?_,?_,?_,?_,?_,?_,?_,?_,?_,?_,?_,?_,?_,?_,?_,?_,trivial⟩
  ·intro o ho a w yg29 M Hb hv hO hS
   obtain rfl:=someE ho
   exact Stp.mono (o_evs [] (vG [vU 0,vU 0,vU 0,vU 255]) none [] Hb rfl (by kernel_rfl) (fun q e => by cases e)) fun _ _ hq => ⟨gL [],fun _ _ => hq.1,(hS.below hq.2.below).sel [] rfl⟩
  ·intro o ho a w yg29 M Hb hv hO hS
   obtain rfl:=someE ho
   exact Stp.mono (o_evs [] (vG [vU 7,vN,vI 0,vU 0,vU 0,vU 0,vU 255]) none [] ((Hb).add (hv 0 (by decide) (by decide) 9 rfl)) rfl (by kernel_rfl) (fun q e => by cases e)) fun _ _ hq => ⟨gL [],fun _ _ => hq.1,(hS.below hq.2.below).sel [] rfl⟩
  ·intro o ho a w yg29 M Hb hv hO hS
   obtain rfl:=someE ho
   exact Stp.mono (o_evs [] (vK g10 2) none [] Hb rfl (by kernel_rfl) (fun q e => by cases e)) fun _ _ hq => ⟨gL [],fun _ _ => hq.1,(hS.below hq.2.below).sel [] rfl⟩
  ·intro o ho a w yg29 M Hb hv hO hS
   obtain rfl:=someE ho
   exact Stp.mono (o_evs [] (vG [vS [99,111,108,111,114],vT,vU 7,vN,vI 0,vU 0,vU 0,vU 0,vU 255,vO,vK g10 2,vF]) none [] (((Hb).add (hv 1 (by decide) (by decide) 10 rfl)).add (hv 2 (by decide) (by decide) 11 rfl)) rfl (by kernel_rfl) (fun q e => by cases e)) fun _ _ hq => ⟨gL [],fun _ _ => hq.1,(hS.below hq.2.below).sel [0] rfl⟩
  ·intro o ho a w yg29 M Hb hv hO hS
   obtain rfl:=someE ho
   exact Stp.mono (o_evs [] (vG [vU 7,vN,vI 0,vU 0,vU 0,vU 0,vU 0]) none [] Hb rfl (by kernel_rfl) (fun q e => by cases e)) fun _ _ hq => ⟨gL [],fun _ _ => hq.1,(hS.below hq.2.below).sel [] rfl⟩
  ·intro o ho a w yg29 M Hb hv hO hS
   obtain rfl:=someE ho
   exact Stp.mono (o_evs [] (vK g10 2) none [] Hb rfl (by kernel_rfl) (fun q e => by cases e)) fun _ _ hq => ⟨gL [],fun _ _ => hq.1,(hS.below hq.2.below).sel [] rfl⟩
  ·intro o ho a w yg29 M Hb hv hO hS
   obtain rfl:=someE ho
   exact Stp.mono (o_evs [] (vG [vS [98,97,99,107,103,114,111,117,110,100,45,99,111,108,111,114],vF,vU 7,vN,vI 0,vU 0,vU 0,vU 0,vU 0,vO,vK g10 2,vF]) none [] (((Hb).add (hv 4 (by decide) (by decide) 13 rfl)).add (hv 5 (by decide) (by decide) 14 rfl)) rfl (by kernel_rfl) (fun q e => by cases e)) fun _ _ hq => ⟨gL [],fun _ _ => hq.1,(hS.below hq.2.below).sel [0] rfl⟩
  ·intro o ho a w yg29 M Hb hv hO hS
   obtain rfl:=someE ho
   exact Stp.mono (o_evs [(vG [vU 8,vN,vI 0,vU 0,vU 0,vU 0,vU 0])] (vG [vU 8,vN,vI 0,vU 0,vU 0,vU 0,vU 0]) (some (rN b5 0 [vU 8,vN,vI 0,vU 0,vU 0,vU 0,vU 0])) [] Hb rfl (by kernel_rfl) (fun q e => by cases e; exact ((hS.bk 0 rfl).atD rfl))) fun _ _ hq => ⟨gL [],fun _ _ => hq.1,(hS.below hq.2.below).sel [0] rfl⟩
  ·intro o ho a w yg29 M Hb hv hO hS
   obtain rfl:=someE ho
   exact Stp.mono (o_evs [] (vK g10 2) none [] Hb rfl (by kernel_rfl) (fun q e => by cases e)) fun _ _ hq => ⟨gL [],fun _ _ => hq.1,(hS.below hq.2.below).sel [] rfl⟩
  ·intro o ho a w yg29 M Hb hv hO hS
   obtain rfl:=someE ho
   exact Stp.mono (o_evs [] (vG [vS [98,111,114,100,101,114,45,99,111,108,111,114],vF,vU 8,vN,vI 0,vU 0,vU 0,vU 0,vU 0,vO,vK g10 2,vF]) none [] (((Hb).add (hv 7 (by decide) (by decide) 16 rfl)).add (hv 8 (by decide) (by decide) 17 rfl)) rfl (by kernel_rfl) (fun q e => by cases e)) fun _ _ hq => ⟨gL [],fun _ _ => hq.1,(hS.below hq.2.below).sel [0] rfl⟩
  ·intro o ho a w yg29 M Hb hv hO hS
   obtain rfl:=someE ho
   exact Stp.mono (o_evs [(vG [vU 8,vN,vI 0,vU 0,vU 0,vU 0,vU 0])] (vG [vU 8,vN,vI 0,vU 0,vU 0,vU 0,vU 0]) (some (rN b5 0 [vU 8,vN,vI 0,vU 0,vU 0,vU 0,vU 0])) [] Hb rfl (by kernel_rfl) (fun q e => by cases e; exact ((hS.bk 0 rfl).atD rfl))) fun _ _ hq => ⟨gL [],fun _ _ => hq.1,(hS.below hq.2.below).sel [0] rfl⟩
  ·intro o ho a w yg29 M Hb hv hO hS
   obtain rfl:=someE ho
   exact Stp.mono (o_evs [] (vK g10 2) none [] Hb rfl (by kernel_rfl) (fun q e => by cases e)) fun _ _ hq => ⟨gL [],fun _ _ => hq.1,(hS.below hq.2.below).sel [] rfl⟩
  ·intro o ho a w yg29 M Hb hv hO hS
   obtain rfl:=someE ho
   exact Stp.mono (o_evs [] (vG [vS [111,117,116,108,105,110,101,45,99,111,108,111,114],vF,vU 8,vN,vI 0,vU 0,vU 0,vU 0,vU 0,vO,vK g10 2,vF]) none [] (((Hb).add (hv 10 (by decide) (by decide) 19 rfl)).add (hv 11 (by decide) (by decide) 20 rfl)) rfl (by kernel_rfl) (fun q e => by cases e)) fun _ _ hq => ⟨gL [],fun _ _ => hq.1,(hS.below hq.2.below).sel [0] rfl⟩
  ·intro o ho a w yg29 M Hb hv hO hS
   obtain rfl:=someE ho
   exact Stp.mono (o_evs [(vG (cV y30))] (vG (cV y30)) (some (rB 74 [vS [105,110,108,105,110,101]] (vG (cV y30)))) [] Hb rfl (by subst hy30; kernel_rfl) (fun q e => by cases e; exact ((by rw [hy30]; exact (r25_word_ok _).b)))) fun _ _ hq => ⟨gL [],fun _ _ => hq.1,(hS.below hq.2.below).sel [] rfl⟩
  ·intro o ho a w yg29 M Hb hv hO hS0
   obtain rfl:=someE ho
   have H : Fr 77 ([] ++ (fS [1,2,3,4] [vP b5,vK g10 2,vK g16 3,vP b24])) _:=Hb
   obtain ⟨X,hX⟩ : ∃ X,X = fpl []:=⟨_,rfl⟩
   have hS : SH M X w [] w:=by rw [hX]; exact hS0
   have hd:=hS.hand [] [] rfl rfl
   refine Stp.mono (o_lit (T:=tS) (E:=9) (zv:=vN) [vS [98,108,111,99,107],vS [102,108,101,120],vS [105,110,108,105,110,101],vS [105,110,108,105,110,101,45,98,108,111,99,107],vS [110,111,110,101]] kL2 [gL [],gL [],gL [],gL [],gL []] _ H hd rfl (by kernel_rfl) (by kernel_rfl) (by kernel_rfl) (by kernel_rfl) (by kernel_rfl) (by kernel_rfl) (by kernel_rfl) rfl (InnL.cons trivial (InnL.cons trivial (InnL.cons trivial (InnL.cons trivial (InnL.cons trivial InnL.nil)))))) ?_
   rintro v w2 hq
   obtain ⟨g31,rfl,hq⟩:=hq
   replace hS : SH M X w [eO 9 tS kL2 g31] _:=hS.join [] [] rfl rfl hq
   rw [hX] at hS
   exact ⟨gL [g31],fun _ _ => rfl,hS.sel [0] rfl⟩
  ·intro o ho a w yg29 M Hb hv hO hS
   obtain rfl:=someE ho
   exact Stp.mono (o_evs [] (vG [vS [100,105,115,112,108,97,121],vF,vU y30.Kind,vS y30.Word,vI y30.Num,vU y30.Color.Red,vU y30.Color.Green,vU y30.Color.Blue,vU y30.Color.Alpha,vK (yg29 14 0) 5,vO,vF]) none [] (((Hb).add (hv 13 (by decide) (by decide) 22 rfl)).add (hv 14 (by decide) (by decide) 23 rfl)) rfl (by kernel_rfl) (fun q e => by cases e)) fun _ _ hq => ⟨gL [],fun _ _ => hq.1,(hS.below hq.2.below).sel [0] rfl⟩
  ·intro o ho a w yg29 M Hb hv hO hS
   obtain rfl:=someE ho
   exact Stp.mono (o_evs [(vG (cV y33))] (vG (cV y33)) (some (rB 74 [vS [118,105,115,105,98,108,101]] (vG (cV y33)))) [] Hb rfl (by subst hy33; kernel_rfl) (fun q e => by cases e; exact ((by rw [hy33]; exact (r25_word_ok _).b)))) fun _ _ hq => ⟨gL [],fun _ _ => hq.1,(hS.below hq.2.below).sel [] rfl⟩
  ·intro o ho a w yg29 M Hb hv hO hS0
   obtain rfl:=someE ho
   have H : Fr 77 ([] ++ (fS [1,2,3,4] [vP b5,vK g10 2,vK g16 3,vP b24])) _:=Hb
   obtain ⟨X,hX⟩ : ∃ X,X = fpl []:=⟨_,rfl⟩
   have hS : SH M X w [] w:=by rw [hX]; exact hS0
   have hd:=hS.hand [] [] rfl rfl
   refine Stp.mono (o_lit (T:=tS) (E:=9) (zv:=vN) [vS [99,111,108,108,97,112,115,101],vS [104,105,100,100,101,110],vS [118,105,115,105,98,108,101]] kL3 [gL [],gL [],gL []] _ H hd rfl (by kernel_rfl) (by kernel_rfl) (by kernel_rfl) (by kernel_rfl) (by kernel_rfl) (by kernel_rfl) (by kernel_rfl) rfl (InnL.cons trivial (InnL.cons trivial (InnL.cons trivial InnL.nil)))) ?_
   rintro v w2 hq
   obtain ⟨g34,rfl,hq⟩:=hq
   replace hS : SH M X w [eO 9 tS kL3 g34] _:=hS.join [] [] rfl rfl hq
   rw [hX] at hS
   exact ⟨gL [g34],fun _ _ => rfl,hS.sel [0] rfl⟩
  ·intro o ho a w yg29 M Hb hv hO hS
   obtain rfl:=someE ho
   exact Stp.mono (o_evs [] (vG [vS [118,105,115,105,98,105,108,105,116,121],vT,vU y33.Kind,vS y33.Word,vI y33.Num,vU y33.Color.Red,vU y33.Color.Green,vU y33.Color.Blue,vU y33.Color.Alpha,vK (yg29 17 0) 3,vO,vF]) none [] (((Hb).add (hv 16 (by decide) (by decide) 25 rfl)).add (hv 17 (by decide) (by decide) 26 rfl)) rfl (by kernel_rfl) (fun q e => by cases e)) fun _ _ hq => ⟨gL [],fun _ _ => hq.1,(hS.below hq.2.below).sel [0] rfl⟩
  ·intro o ho a w yg29 M Hb hv hO hS
   obtain rfl:=someE ho
   exact Stp.mono (o_evs [(vG [vU 1,vS [97,117,116,111],vI 0,vU 0,vU 0,vU 0,vU 0])] (vG [vU 1,vS [97,117,116,111],vI 0,vU 0,vU 0,vU 0,vU 0]) (some (fun wz => V.atN b24 0 [vU 1,vS [97,117,116,111],vI 0,vU 0,vU 0,vU 0,vU 0] 0 wz)) [] Hb rfl (by kernel_rfl) (fun q e => by cases e; exact ((hS.bk 0 rfl).atD rfl))) fun _ _ hq => ⟨gL [],fun _ _ => hq.1,(hS.below hq.2.below).sel [0] rfl⟩
  ·intro o ho a w yg29 M Hb hv hO hS0
   obtain rfl:=someE ho
   have H : Fr 77 ([] ++ (fS [1,2,3,4] [vP b5,vK g10 2,vK g16 3,vP b24])) _:=Hb
   obtain ⟨X,hX⟩ : ∃ X,X = fpl []:=⟨_,rfl⟩
   have hS : SH M X w [] w:=by rw [hX]; exact hS0
   have hd:=hS.hand [] [] rfl rfl
   refine Stp.mono (o_lit (T:=tS) (E:=9) (zv:=vN) [vS [97,117,116,111]] kL0 [gL []] _ H hd rfl (by kernel_rfl) (by kernel_rfl) (by kernel_rfl) (by kernel_rfl) (by kernel_rfl) (by kernel_rfl) (by kernel_rfl) rfl (InnL.cons trivial InnL.nil)) ?_
   rintro v w2 hq
   obtain ⟨g36,rfl,hq⟩:=hq
   replace hS : SH M X w [eO 9 tS kL0 g36] _:=hS.join [] [] rfl rfl hq
   rw [hX] at hS
   exact ⟨gL [g36],fun _ _ => rfl,hS.sel [0] rfl⟩
  ·intro o ho a w yg29 M Hb hv hO hS
   obtain rfl:=someE ho
   exact Stp.mono (o_evs [] (vK g16 3) none [] Hb rfl (by kernel_rfl) (fun q e => by cases e)) fun _ _ hq => ⟨gL [],fun _ _ => hq.1,(hS.below hq.2.below).sel [] rfl⟩
  ·intro o ho a w yg29 M Hb hv hO hS
   obtain rfl:=someE ho
   exact Stp.mono (o_evs [] (vG [vS [119,105,100,116,104],vF,vU 1,vS [97,117,116,111],vI 0,vU 0,vU 0,vU 0,vU 0,vK (yg29 20 0) 1,vK g16 3,vT]) none [] ((((Hb).add (hv 19 (by decide) (by decide) 28 rfl)).add (hv 20 (by decide) (by decide) 29 rfl)).add (hv 21 (by decide) (by decide) 30 rfl)) rfl (by kernel_rfl) (fun q e => by cases e)) fun _ _ hq => ⟨gL [],fun _ _ => hq.1,(hS.below hq.2.below).sel [0,1] rfl⟩
  ·intro o ho a w yg29 M Hb hv hO hS
   obtain rfl:=someE ho
   exact Stp.mono (o_evs [(vG [vU 1,vS [97,117,116,111],vI 0,vU 0,vU 0,vU 0,vU 0])] (vG [vU 1,vS [97,117,116,111],vI 0,vU 0,vU 0,vU 0,vU 0]) (some (fun wz => V.atN b24 0 [vU 1,vS [97,117,116,111],vI 0,vU 0,vU 0,vU 0,vU 0] 0 wz)) [] Hb rfl (by kernel_rfl) (fun q e => by cases e; exact ((hS.bk 0 rfl).atD rfl))) fun _ _ hq => ⟨gL [],fun _ _ => hq.1,(hS.below hq.2.below).sel [0] rfl⟩
  ·intro o ho a w yg29 M Hb hv hO hS0
   obtain rfl:=someE ho
   have H : Fr 77 ([] ++ (fS [1,2,3,4] [vP b5,vK g10 2,vK g16 3,vP b24])) _:=Hb
   obtain ⟨X,hX⟩ : ∃ X,X = fpl []:=⟨_,rfl⟩
   have hS : SH M X w [] w:=by rw [hX]; exact hS0
   have hd:=hS.hand [] [] rfl rfl
   refine Stp.mono (o_lit (T:=tS) (E:=9) (zv:=vN) [vS [97,117,116,111]] kL0 [gL []] _ H hd rfl (by kernel_rfl) (by kernel_rfl) (by kernel_rfl) (by kernel_rfl) (by kernel_rfl) (by kernel_rfl) (by kernel_rfl) rfl (InnL.cons trivial InnL.nil)) ?_
   rintro v w2 hq
   obtain ⟨g38,rfl,hq⟩:=hq
   replace hS : SH M X w [eO 9 tS kL0 g38] _:=hS.join [] [] rfl rfl hq
   rw [hX] at hS
   exact ⟨gL [g38],fun _ _ => rfl,hS.sel [0] rfl⟩
  ·intro o ho a w yg29 M Hb hv hO hS
   obtain rfl:=someE ho
   exact Stp.mono (o_evs [] (vK g16 3) none [] Hb rfl (by kernel_rfl) (fun q e => by cases e)) fun _ _ hq => ⟨gL [],fun _ _ => hq.1,(hS.below hq.2.below).sel [] rfl⟩
  ·intro o ho a w yg29 M Hb hv hO hS
   obtain rfl:=someE ho
   exact Stp.mono (o_evs [] (vG [vS [104,101,105,103,104,116],vF,vU 1,vS [97,117,116,111],vI 0,vU 0,vU 0,vU 0,vU 0,vK (yg29 24 0) 1,vK g16 3,vT]) none [] ((((Hb).add (hv 23 (by decide) (by decide) 32 rfl)).add (hv 24 (by decide) (by decide) 33 rfl)).add (hv 25 (by decide) (by decide) 34 rfl)) rfl (by kernel_rfl) (fun q e => by cases e)) fun _ _ hq => ⟨gL [],fun _ _ => hq.1,(hS.below hq.2.below).sel [0,1] rfl⟩
  ·intro o ho a w yg29 M Hb hv hO hS
   obtain rfl:=someE ho
   exact Stp.mono (o_evs [(vG (cV y40))] (vG (cV y40)) (some (rB 75 [vI 0] (vG (cV y40)))) [] Hb rfl (by subst hy40; kernel_rfl) (fun q e => by cases e; exact ((by rw [hy40]; exact (r25_px_ok _).b)))) fun _ _ hq => ⟨gL [],fun _ _ => hq.1,(hS.below hq.2.below).sel [] rfl⟩
  ·intro o ho a w yg29 M Hb hv hO hS0
   obtain rfl:=someE ho
   have H : Fr 77 ([] ++ (fS [1,2,3,4] [vP b5,vK g10 2,vK g16 3,vP b24])) _:=Hb
   obtain ⟨X,hX⟩ : ∃ X,X = fpl []:=⟨_,rfl⟩
   have hS : SH M X w [] w:=by rw [hX]; exact hS0
   have hd:=hS.hand [] [] rfl rfl
   refine Stp.mono (o_lit (T:=tS) (E:=9) (zv:=vN) [vS [97,117,116,111]] kL0 [gL []] _ H hd rfl (by kernel_rfl) (by kernel_rfl) (by kernel_rfl) (by kernel_rfl) (by kernel_rfl) (by kernel_rfl) (by kernel_rfl) rfl (InnL.cons trivial InnL.nil)) ?_
   rintro v w2 hq
   obtain ⟨g41,rfl,hq⟩:=hq
   replace hS : SH M X w [eO 9 tS kL0 g41] _:=hS.join [] [] rfl rfl hq
   rw [hX] at hS
   exact ⟨gL [g41],fun _ _ => rfl,hS.sel [0] rfl⟩
  ·intro o ho a w yg29 M Hb hv hO hS
   obtain rfl:=someE ho
   exact Stp.mono (o_evs [] (vK g16 3) none [] Hb rfl (by kernel_rfl) (fun q e => by cases e)) fun _ _ hq => ⟨gL [],fun _ _ => hq.1,(hS.below hq.2.below).sel [] rfl⟩
  ·intro o ho a w yg29 M Hb hv hO hS
   obtain rfl:=someE ho
   exact Stp.mono (o_evs [] (vG [vS [109,97,114,103,105,110,45,116,111,112],vF,vU y40.Kind,vS y40.Word,vI y40.Num,vU y40.Color.Red,vU y40.Color.Green,vU y40.Color.Blue,vU y40.Color.Alpha,vK (yg29 28 0) 1,vK g16 3,vF]) none [] ((((Hb).add (hv 27 (by decide) (by decide) 36 rfl)).add (hv 28 (by decide) (by decide) 37 rfl)).add (hv 29 (by decide) (by decide) 38 rfl)) rfl (by kernel_rfl) (fun q e => by cases e)) fun _ _ hq => ⟨gL [],fun _ _ => hq.1,(hS.below hq.2.below).sel [0,1] rfl⟩
  ·intro o ho a w yg29 M Hb hv hO hS
   obtain rfl:=someE ho
   exact Stp.mono (o_evs [(vG (cV y43))] (vG (cV y43)) (some (rB 75 [vI 0] (vG (cV y43)))) [] Hb rfl (by subst hy43; kernel_rfl) (fun q e => by cases e; exact ((by rw [hy43]; exact (r25_px_ok _).b)))) fun _ _ hq => ⟨gL [],fun _ _ => hq.1,(hS.below hq.2.below).sel [] rfl⟩
  ·intro o ho a w yg29 M Hb hv hO hS0
   obtain rfl:=someE ho
   have H : Fr 77 ([] ++ (fS [1,2,3,4] [vP b5,vK g10 2,vK g16 3,vP b24])) _:=Hb
   obtain ⟨X,hX⟩ : ∃ X,X = fpl []:=⟨_,rfl⟩
   have hS : SH M X w [] w:=by rw [hX]; exact hS0
   have hd:=hS.hand [] [] rfl rfl
   refine Stp.mono (o_lit (T:=tS) (E:=9) (zv:=vN) [vS [97,117,116,111]] kL0 [gL []] _ H hd rfl (by kernel_rfl) (by kernel_rfl) (by kernel_rfl) (by kernel_rfl) (by kernel_rfl) (by kernel_rfl) (by kernel_rfl) rfl (InnL.cons trivial InnL.nil)) ?_
   rintro v w2 hq
   obtain ⟨g44,rfl,hq⟩:=hq
   replace hS : SH M X w [eO 9 tS kL0 g44] _:=hS.join [] [] rfl rfl hq
   rw [hX] at hS
   exact ⟨gL [g44],fun _ _ => rfl,hS.sel [0] rfl⟩
  ·intro o ho a w yg29 M Hb hv hO hS
   obtain rfl:=someE ho
   exact Stp.mono (o_evs [] (vK g16 3) none [] Hb rfl (by kernel_rfl) (fun q e => by cases e)) fun _ _ hq => ⟨gL [],fun _ _ => hq.1,(hS.below hq.2.below).sel [] rfl⟩
  ·intro o ho a w yg29 M Hb hv hO hS
   obtain rfl:=someE ho
   exact Stp.mono (o_evs [] (vG [vS [109,97,114,103,105,110,45,114,105,103,104,116],vF,vU y43.Kind,vS y43.Word,vI y43.Num,vU y43.Color.Red,vU y43.Color.Green,vU y43.Color.Blue,vU y43.Color.Alpha,vK (yg29 32 0) 1,vK g16 3,vF]) none [] ((((Hb).add (hv 31 (by decide) (by decide) 40 rfl)).add (hv 32 (by decide) (by decide) 41 rfl)).add (hv 33 (by decide) (by decide) 42 rfl)) rfl (by kernel_rfl) (fun q e => by cases e)) fun _ _ hq => ⟨gL [],fun _ _ => hq.1,(hS.below hq.2.below).sel [0,1] rfl⟩
  ·intro o ho a w yg29 M Hb hv hO hS
   obtain rfl:=someE ho
   exact Stp.mono (o_evs [(vG (cV y46))] (vG (cV y46)) (some (rB 75 [vI 0] (vG (cV y46)))) [] Hb rfl (by subst hy46; kernel_rfl) (fun q e => by cases e; exact ((by rw [hy46]; exact (r25_px_ok _).b)))) fun _ _ hq => ⟨gL [],fun _ _ => hq.1,(hS.below hq.2.below).sel [] rfl⟩
  ·intro o ho a w yg29 M Hb hv hO hS0
   obtain rfl:=someE ho
   have H : Fr 77 ([] ++ (fS [1,2,3,4] [vP b5,vK g10 2,vK g16 3,vP b24])) _:=Hb
   obtain ⟨X,hX⟩ : ∃ X,X = fpl []:=⟨_,rfl⟩
   have hS : SH M X w [] w:=by rw [hX]; exact hS0
   have hd:=hS.hand [] [] rfl rfl
   refine Stp.mono (o_lit (T:=tS) (E:=9) (zv:=vN) [vS [97,117,116,111]] kL0 [gL []] _ H hd rfl (by kernel_rfl) (by kernel_rfl) (by kernel_rfl) (by kernel_rfl) (by kernel_rfl) (by kernel_rfl) (by kernel_rfl) rfl (InnL.cons trivial InnL.nil)) ?_
   rintro v w2 hq
   obtain ⟨g47,rfl,hq⟩:=hq
   replace hS : SH M X w [eO 9 tS kL0 g47] _:=hS.join [] [] rfl rfl hq
   rw [hX] at hS
   exact ⟨gL [g47],fun _ _ => rfl,hS.sel [0] rfl⟩
  ·intro o ho a w yg29 M Hb hv hO hS
   obtain rfl:=someE ho
   exact Stp.mono (o_evs [] (vK g16 3) none [] Hb rfl (by kernel_rfl) (fun q e => by cases e)) fun _ _ hq => ⟨gL [],fun _ _ => hq.1,(hS.below hq.2.below).sel [] rfl⟩
  ·intro o ho a w yg29 M Hb hv hO hS
   obtain rfl:=someE ho
   exact Stp.mono (o_evs [] (vG [vS [109,97,114,103,105,110,45,98,111,116,116,111,109],vF,vU y46.Kind,vS y46.Word,vI y46.Num,vU y46.Color.Red,vU y46.Color.Green,vU y46.Color.Blue,vU y46.Color.Alpha,vK (yg29 36 0) 1,vK g16 3,vF]) none [] ((((Hb).add (hv 35 (by decide) (by decide) 44 rfl)).add (hv 36 (by decide) (by decide) 45 rfl)).add (hv 37 (by decide) (by decide) 46 rfl)) rfl (by kernel_rfl) (fun q e => by cases e)) fun _ _ hq => ⟨gL [],fun _ _ => hq.1,(hS.below hq.2.below).sel [0,1] rfl⟩
  ·intro o ho a w yg29 M Hb hv hO hS
   obtain rfl:=someE ho
   exact Stp.mono (o_evs [(vG (cV y49))] (vG (cV y49)) (some (rB 75 [vI 0] (vG (cV y49)))) [] Hb rfl (by subst hy49; kernel_rfl) (fun q e => by cases e; exact ((by rw [hy49]; exact (r25_px_ok _).b)))) fun _ _ hq => ⟨gL [],fun _ _ => hq.1,(hS.below hq.2.below).sel [] rfl⟩
  ·intro o ho a w yg29 M Hb hv hO hS0
   obtain rfl:=someE ho
   have H : Fr 77 ([] ++ (fS [1,2,3,4] [vP b5,vK g10 2,vK g16 3,vP b24])) _:=Hb
   obtain ⟨X,hX⟩ : ∃ X,X = fpl []:=⟨_,rfl⟩
   have hS : SH M X w [] w:=by rw [hX]; exact hS0
   have hd:=hS.hand [] [] rfl rfl
   refine Stp.mono (o_lit (T:=tS) (E:=9) (zv:=vN) [vS [97,117,116,111]] kL0 [gL []] _ H hd rfl (by kernel_rfl) (by kernel_rfl) (by kernel_rfl) (by kernel_rfl) (by kernel_rfl) (by kernel_rfl) (by kernel_rfl) rfl (InnL.cons trivial InnL.nil)) ?_
   rintro v w2 hq
   obtain ⟨g50,rfl,hq⟩:=hq
   replace hS : SH M X w [eO 9 tS kL0 g50] _:=hS.join [] [] rfl rfl hq
   rw [hX] at hS
   exact ⟨gL [g50],fun _ _ => rfl,hS.sel [0] rfl⟩
  ·intro o ho a w yg29 M Hb hv hO hS
   obtain rfl:=someE ho
   exact Stp.mono (o_evs [] (vK g16 3) none [] Hb rfl (by kernel_rfl) (fun q e => by cases e)) fun _ _ hq => ⟨gL [],fun _ _ => hq.1,(hS.below hq.2.below).sel [] rfl⟩
  ·intro o ho a w yg29 M Hb hv hO hS
   obtain rfl:=someE ho
   exact Stp.mono (o_evs [] (vG [vS [109,97,114,103,105,110,45,108,101,102,116],vF,vU y49.Kind,vS y49.Word,vI y49.Num,vU y49.Color.Red,vU y49.Color.Green,vU y49.Color.Blue,vU y49.Color.Alpha,vK (yg29 40 0) 1,vK g16 3,vF]) none [] ((((Hb).add (hv 39 (by decide) (by decide) 48 rfl)).add (hv 40 (by decide) (by decide) 49 rfl)).add (hv 41 (by decide) (by decide) 50 rfl)) rfl (by kernel_rfl) (fun q e => by cases e)) fun _ _ hq => ⟨gL [],fun _ _ => hq.1,(hS.below hq.2.below).sel [0,1] rfl⟩
  ·intro o ho a w yg29 M Hb hv hO hS
   obtain rfl:=someE ho
   exact Stp.mono (o_evs [(vG (cV y52))] (vG (cV y52)) (some (rB 75 [vI 16000] (vG (cV y52)))) [] Hb rfl (by subst hy52; kernel_rfl) (fun q e => by cases e; exact ((by rw [hy52]; exact (r25_px_ok _).b)))) fun _ _ hq => ⟨gL [],fun _ _ => hq.1,(hS.below hq.2.below).sel [] rfl⟩
  ·intro o ho a w yg29 M Hb hv hO hS
   obtain rfl:=someE ho
   exact Stp.mono (o_evs [] (vK g16 3) none [] Hb rfl (by kernel_rfl) (fun q e => by cases e)) fun _ _ hq => ⟨gL [],fun _ _ => hq.1,(hS.below hq.2.below).sel [] rfl⟩
  ·intro o ho a w yg29 M Hb hv hO hS
   obtain rfl:=someE ho
   exact Stp.mono (o_evs [] (vG [vS [102,111,110,116,45,115,105,122,101],vT,vU y52.Kind,vS y52.Word,vI y52.Num,vU y52.Color.Red,vU y52.Color.Green,vU y52.Color.Blue,vU y52.Color.Alpha,vO,vK g16 3,vT]) none [] (((Hb).add (hv 43 (by decide) (by decide) 52 rfl)).add (hv 44 (by decide) (by decide) 53 rfl)) rfl (by kernel_rfl) (fun q e => by cases e)) fun _ _ hq => ⟨gL [],fun _ _ => hq.1,(hS.below hq.2.below).sel [0] rfl⟩
  ·intro o ho a w yg29 M Hb hv hO hS
   obtain rfl:=someE ho
   exact Stp.mono (o_evs [(vG (cV y53))] (vG (cV y53)) (some (rB 74 [vS [110,111,114,109,97,108]] (vG (cV y53)))) [] Hb rfl (by subst hy53; kernel_rfl) (fun q e => by cases e; exact ((by rw [hy53]; exact (r25_word_ok _).b)))) fun _ _ hq => ⟨gL [],fun _ _ => hq.1,(hS.below hq.2.below).sel [] rfl⟩
  ·intro o ho a w yg29 M Hb hv hO hS0
   obtain rfl:=someE ho
   have H : Fr 77 ([] ++ (fS [1,2,3,4] [vP b5,vK g10 2,vK g16 3,vP b24])) _:=Hb
   obtain ⟨X,hX⟩ : ∃ X,X = fpl []:=⟨_,rfl⟩
   have hS : SH M X w [] w:=by rw [hX]; exact hS0
   have hd:=hS.hand [] [] rfl rfl
   refine Stp.mono (o_lit (T:=tS) (E:=9) (zv:=vN) [vS [110,111,114,109,97,108]] kL4 [gL []] _ H hd rfl (by kernel_rfl) (by kernel_rfl) (by kernel_rfl) (by kernel_rfl) (by kernel_rfl) (by kernel_rfl) (by kernel_rfl) rfl (InnL.cons trivial InnL.nil)) ?_
   rintro v w2 hq
   obtain ⟨g54,rfl,hq⟩:=hq
   replace hS : SH M X w [eO 9 tS kL4 g54] _:=hS.join [] [] rfl rfl hq
   rw [hX] at hS
   exact ⟨gL [g54],fun _ _ => rfl,hS.sel [0] rfl⟩
  ·intro o ho a w yg29 M Hb hv hO hS0
   obtain rfl:=someE ho
   have H : Fr 77 ([] ++ (fS [1,2,3,4] [vP b5,vK g10 2,vK g16 3,vP b24])) _:=Hb
   obtain ⟨X,hX⟩ : ∃ X,X = fpl []:=⟨_,rfl⟩
   have hS : SH M X w [] w:=by rw [hX]; exact hS0
   have hd:=hS.hand [] [] rfl rfl
   refine Stp.mono (o_lit0 (T:=(tI .u8)) (E:=5) hd (by kernel_rfl) (by kernel_rfl)) ?_
   rintro v w2 hq
   obtain ⟨g56,rfl,hq⟩:=hq
   replace hS : SH M X w [eO 5 (tI .u8) ([] : List Int) g56] _:=hS.join [] [] rfl rfl hq
   rw [hX] at hS
   exact ⟨gL [g56],fun _ _ => rfl,hS.sel [0] rfl⟩
  ·intro o ho a w yg29 M Hb hv hO hS
   obtain rfl:=someE ho
   exact Stp.mono (o_evs [] (vK g16 3) none [] Hb rfl (by kernel_rfl) (fun q e => by cases e)) fun _ _ hq => ⟨gL [],fun _ _ => hq.1,(hS.below hq.2.below).sel [] rfl⟩
  ·intro o ho a w yg29 M Hb hv hO hS0
   obtain rfl:=someE ho
   have H : Fr 77 ((fS [58,57] [vK g16 3,vK (yg29 48 0) 0]) ++ (fS [1,2,3,4] [vP b5,vK g10 2,vK g16 3,vP b24])) _:=((Hb).add (hv 48 (by decide) (by decide) 57 rfl)).add (hv 49 (by decide) (by decide) 58 rfl)
   obtain ⟨X,hX⟩ : ∃ X,X = fpl [eO 5 (tI .u8) ([] : List Int) (yg29 48 0),eO 5 (tI .u8) kL1 g16]:=⟨_,rfl⟩
   have hS : SH M X w [eO 5 (tI .u8) ([] : List Int) (yg29 48 0),eO 5 (tI .u8) kL1 g16] w:=by rw [hX]; exact hS0
   have hd:=hS.hand [0,1] [] rfl rfl
   refine Stp.mono (o_app2 (T:=(tI .u8)) (zv:=vU 0) (g1:=(yg29 48 0)) (g2:=g16) (l1:=([] : List Int)) (l2:=kL1) q59 hq59.symm H hd rfl rfl rfl rfl rfl rfl rfl (by kernel_rfl) (by kernel_rfl) rfl rfl ho58) ?_
   rintro v w2 hq
   obtain ⟨g60,rfl,hq⟩:=hq
   replace hS : SH M X w [eO 5 (tI .u8) q59 g60,eO 5 (tI .u8) kL1 g16] _:=hS.join [0,1] [] rfl rfl hq
   rw [hX] at hS
   exact ⟨gL [g60],fun _ _ => rfl,hS.sel [0,1] rfl⟩
  ·intro o ho a w yg29 M Hb hv hO hS0
   obtain rfl:=someE ho
   have H : Fr 77 ([] ++ (fS [1,2,3,4] [vP b5,vK g10 2,vK g16 3,vP b24])) _:=Hb
   obtain ⟨X,hX⟩ : ∃ X,X = fpl []:=⟨_,rfl⟩
   have hS : SH M X w [] w:=by rw [hX]; exact hS0
   have hd:=hS.hand [] [] rfl rfl
   refine Stp.mono (o_lit (T:=(tI .u8)) (E:=5) (zv:=vU 0) [vU 5] ([5] : List Int) [gL []] _ H hd rfl (by kernel_rfl) (by kernel_rfl) (by kernel_rfl) (by kernel_rfl) (by kernel_rfl) (by kernel_rfl) (by kernel_rfl) rfl (InnL.cons trivial InnL.nil)) ?_
   rintro v w2 hq
   obtain ⟨g61,rfl,hq⟩:=hq
   replace hS : SH M X w [eO 5 (tI .u8) ([5] : List Int) g61] _:=hS.join [] [] rfl rfl hq
   rw [hX] at hS
   exact ⟨gL [g61],fun _ _ => rfl,hS.sel [0] rfl⟩
  ·intro o ho a w yg29 M Hb hv hO hS0
   obtain rfl:=someE ho
   have H : Fr 77 ((fS [60,59] [vK (yg29 51 0) 1,.slice (yg29 50 0).a q59.length (yg29 50 0).c]) ++ (fS [1,2,3,4] [vP b5,vK g10 2,vK g16 3,vP b24])) _:=((Hb).add (hv 50 (by decide) (by decide) 59 rfl)).add (hv 51 (by decide) (by decide) 60 rfl)
   obtain ⟨X,hX⟩ : ∃ X,X = fpl [eO 5 (tI .u8) q59 (yg29 50 0),eO 5 (tI .u8) ([5] : List Int) (yg29 51 0)]:=⟨_,rfl⟩
   have hS : SH M X w [eO 5 (tI .u8) q59 (yg29 50 0),eO 5 (tI .u8) ([5] : List Int) (yg29 51 0)] w:=by rw [hX]; exact hS0
   have hd:=hS.hand [0,1] [] rfl rfl
   refine Stp.mono (o_app2 (T:=(tI .u8)) (zv:=vU 0) (g1:=(yg29 50 0)) (g2:=(yg29 51 0)) (l1:=q59) (l2:=([5] : List Int)) q64 hq64.symm H hd rfl rfl rfl rfl rfl rfl rfl (by kernel_rfl) (by kernel_rfl) rfl rfl ho63) ?_
   rintro v w2 hq
   obtain ⟨g65,rfl,hq⟩:=hq
   replace hS : SH M X w [eO 5 (tI .u8) q64 g65,eO 5 (tI .u8) ([5] : List Int) (yg29 51 0)] _:=hS.join [0,1] [] rfl rfl hq
   rw [hX] at hS
   exact ⟨gL [g65],fun _ _ => rfl,hS.sel [0,1] rfl⟩
  ·intro o ho a w yg29 M Hb hv hO hS
   obtain rfl:=someE ho
   exact Stp.mono (o_evs [] (vG [vS [108,105,110,101,45,104,101,105,103,104,116],vT,vU y53.Kind,vS y53.Word,vI y53.Num,vU y53.Color.Red,vU y53.Color.Green,vU y53.Color.Blue,vU y53.Color.Alpha,vK (yg29 47 0) 1,.slice (yg29 52 0).a q64.length (yg29 52 0).c,vT]) none [] ((((Hb).add (hv 46 (by decide) (by decide) 55 rfl)).add (hv 47 (by decide) (by decide) 56 rfl)).add (hv 52 (by decide) (by decide) 61 rfl)) rfl (by kernel_rfl) (fun q e => by cases e)) fun _ _ hq => ⟨gL [],fun _ _ => hq.1,(hS.below hq.2.below).sel [0,1] rfl⟩
  ·intro o ho a w yg29 M Hb hv hO hS
   obtain rfl:=someE ho
   exact Stp.mono (o_evs [(vG (cV y66))] (vG (cV y66)) (some (rB 74 [vS [108,101,102,116]] (vG (cV y66)))) [] Hb rfl (by subst hy66; kernel_rfl) (fun q e => by cases e; exact ((by rw [hy66]; exact (r25_word_ok _).b)))) fun _ _ hq => ⟨gL [],fun _ _ => hq.1,(hS.below hq.2.below).sel [] rfl⟩
  ·intro o ho a w yg29 M Hb hv hO hS0
   obtain rfl:=someE ho
   have H : Fr 77 ([] ++ (fS [1,2,3,4] [vP b5,vK g10 2,vK g16 3,vP b24])) _:=Hb
   obtain ⟨X,hX⟩ : ∃ X,X = fpl []:=⟨_,rfl⟩
   have hS : SH M X w [] w:=by rw [hX]; exact hS0
   have hd:=hS.hand [] [] rfl rfl
   refine Stp.mono (o_lit (T:=tS) (E:=9) (zv:=vN) [vS [99,101,110,116,101,114],vS [106,117,115,116,105,102,121],vS [108,101,102,116],vS [114,105,103,104,116]] kL5 [gL [],gL [],gL [],gL []] _ H hd rfl (by kernel_rfl) (by kernel_rfl) (by kernel_rfl) (by kernel_rfl) (by kernel_rfl) (by kernel_rfl) (by kernel_rfl) rfl (InnL.cons trivial (InnL.cons trivial (InnL.cons trivial (InnL.cons trivial InnL.nil))))) ?_
   rintro v w2 hq
   obtain ⟨g67,rfl,hq⟩:=hq
   replace hS : SH M X w [eO 9 tS kL5 g67] _:=hS.join [] [] rfl rfl hq
   rw [hX] at hS
   exact ⟨gL [g67],fun _ _ => rfl,hS.sel [0] rfl⟩
  ·intro o ho a w yg29 M Hb hv hO hS
   obtain rfl:=someE ho
   exact Stp.mono (o_evs [] (vG [vS [116,101,120,116,45,97,108,105,103,110],vT,vU y66.Kind,vS y66.Word,vI y66.Num,vU y66.Color.Red,vU y66.Color.Green,vU y66.Color.Blue,vU y66.Color.Alpha,vK (yg29 55 0) 4,vO,vF]) none [] (((Hb).add (hv 54 (by decide) (by decide) 63 rfl)).add (hv 55 (by decide) (by decide) 64 rfl)) rfl (by kernel_rfl) (fun q e => by cases e)) fun _ _ hq => ⟨gL [],fun _ _ => hq.1,(hS.below hq.2.below).sel [0] rfl⟩
  ·intro o ho a w yg29 M Hb hv hO hS
   obtain rfl:=someE ho
   exact Stp.mono (o_evs [] (vG [vU 5,vN,vI 1000,vU 0,vU 0,vU 0,vU 0]) none [] Hb rfl (by kernel_rfl) (fun q e => by cases e)) fun _ _ hq => ⟨gL [],fun _ _ => hq.1,(hS.below hq.2.below).sel [] rfl⟩
  ·intro o ho a w yg29 M Hb hv hO hS0
   obtain rfl:=someE ho
   have H : Fr 77 ([] ++ (fS [1,2,3,4] [vP b5,vK g10 2,vK g16 3,vP b24])) _:=Hb
   obtain ⟨X,hX⟩ : ∃ X,X = fpl []:=⟨_,rfl⟩
   have hS : SH M X w [] w:=by rw [hX]; exact hS0
   have hd:=hS.hand [] [] rfl rfl
   refine Stp.mono (o_lit (T:=(tI .u8)) (E:=5) (zv:=vU 0) [vU 5] ([5] : List Int) [gL []] _ H hd rfl (by kernel_rfl) (by kernel_rfl) (by kernel_rfl) (by kernel_rfl) (by kernel_rfl) (by kernel_rfl) (by kernel_rfl) rfl (InnL.cons trivial InnL.nil)) ?_
   rintro v w2 hq
   obtain ⟨g69,rfl,hq⟩:=hq
   replace hS : SH M X w [eO 5 (tI .u8) ([5] : List Int) g69] _:=hS.join [] [] rfl rfl hq
   rw [hX] at hS
   exact ⟨gL [g69],fun _ _ => rfl,hS.sel [0] rfl⟩
  ·intro o ho a w yg29 M Hb hv hO hS
   obtain rfl:=someE ho
   exact Stp.mono (o_evs [] (vG [vS [111,112,97,99,105,116,121],vF,vU 5,vN,vI 1000,vU 0,vU 0,vU 0,vU 0,vO,vK (yg29 58 0) 1,vF]) none [] (((Hb).add (hv 57 (by decide) (by decide) 66 rfl)).add (hv 58 (by decide) (by decide) 67 rfl)) rfl (by kernel_rfl) (fun q e => by cases e)) fun _ _ hq => ⟨gL [],fun _ _ => hq.1,(hS.below hq.2.below).sel [0] rfl⟩
  ·intro o ho a w yg29 M Hb hv hO hS
   obtain rfl:=someE ho
   exact Stp.mono (o_evs [(vG [vU 1,vS [97,117,116,111],vI 0,vU 0,vU 0,vU 0,vU 0])] (vG [vU 1,vS [97,117,116,111],vI 0,vU 0,vU 0,vU 0,vU 0]) (some (fun wz => V.atN b24 0 [vU 1,vS [97,117,116,111],vI 0,vU 0,vU 0,vU 0,vU 0] 0 wz)) [] Hb rfl (by kernel_rfl) (fun q e => by cases e; exact ((hS.bk 0 rfl).atD rfl))) fun _ _ hq => ⟨gL [],fun _ _ => hq.1,(hS.below hq.2.below).sel [0] rfl⟩
  ·intro o ho a w yg29 M Hb hv hO hS0
   obtain rfl:=someE ho
   have H : Fr 77 ([] ++ (fS [1,2,3,4] [vP b5,vK g10 2,vK g16 3,vP b24])) _:=Hb
   obtain ⟨X,hX⟩ : ∃ X,X = fpl []:=⟨_,rfl⟩
   have hS : SH M X w [] w:=by rw [hX]; exact hS0
   have hd:=hS.hand [] [] rfl rfl
   refine Stp.mono (o_lit (T:=tS) (E:=9) (zv:=vN) [vS [97,117,116,111]] kL0 [gL []] _ H hd rfl (by kernel_rfl) (by kernel_rfl) (by kernel_rfl) (by kernel_rfl) (by kernel_rfl) (by kernel_rfl) (by kernel_rfl) rfl (InnL.cons trivial InnL.nil)) ?_
   rintro v w2 hq
   obtain ⟨g71,rfl,hq⟩:=hq
   replace hS : SH M X w [eO 9 tS kL0 g71] _:=hS.join [] [] rfl rfl hq
   rw [hX] at hS
   exact ⟨gL [g71],fun _ _ => rfl,hS.sel [0] rfl⟩
  ·intro o ho a w yg29 M Hb hv hO hS0
   obtain rfl:=someE ho
   have H : Fr 77 ([] ++ (fS [1,2,3,4] [vP b5,vK g10 2,vK g16 3,vP b24])) _:=Hb
   obtain ⟨X,hX⟩ : ∃ X,X = fpl []:=⟨_,rfl⟩
   have hS : SH M X w [] w:=by rw [hX]; exact hS0
   have hd:=hS.hand [] [] rfl rfl
   refine Stp.mono (o_lit (T:=(tI .u8)) (E:=5) (zv:=vU 0) [vU 6] ([6] : List Int) [gL []] _ H hd rfl (by kernel_rfl) (by kernel_rfl) (by kernel_rfl) (by kernel_rfl) (by kernel_rfl) (by kernel_rfl) (by kernel_rfl) rfl (InnL.cons trivial InnL.nil)) ?_
   rintro v w2 hq
   obtain ⟨g73,rfl,hq⟩:=hq
   replace hS : SH M X w [eO 5 (tI .u8) ([6] : List Int) g73] _:=hS.join [] [] rfl rfl hq
   rw [hX] at hS
   exact ⟨gL [g73],fun _ _ => rfl,hS.sel [0] rfl⟩
  ·intro o ho a w yg29 M Hb hv hO hS
   obtain rfl:=someE ho
   exact Stp.mono (o_evs [] (vG [vS [122,45,105,110,100,101,120],vF,vU 1,vS [97,117,116,111],vI 0,vU 0,vU 0,vU 0,vU 0,vK (yg29 61 0) 1,vK (yg29 62 0) 1,vF]) none [] ((((Hb).add (hv 60 (by decide) (by decide) 69 rfl)).add (hv 61 (by decide) (by decide) 70 rfl)).add (hv 62 (by decide) (by decide) 71 rfl)) rfl (by kernel_rfl) (fun q e => by cases e)) fun _ _ hq => ⟨gL [],fun _ _ => hq.1,(hS.below hq.2.below).sel [0,1] rfl⟩
  ·intro o ho a w yg29 M Hb hv hO hS
   obtain rfl:=someE ho
   exact Stp.mono (o_evs [] (vG [vU 6,vN,vI 0,vU 0,vU 0,vU 0,vU 0]) none [] Hb rfl (by kernel_rfl) (fun q e => by cases e)) fun _ _ hq => ⟨gL [],fun _ _ => hq.1,(hS.below hq.2.below).sel [] rfl⟩
  ·intro o ho a w yg29 M Hb hv hO hS0
   obtain rfl:=someE ho
   have H : Fr 77 ([] ++ (fS [1,2,3,4] [vP b5,vK g10 2,vK g16 3,vP b24])) _:=Hb
   obtain ⟨X,hX⟩ : ∃ X,X = fpl []:=⟨_,rfl⟩
   have hS : SH M X w [] w:=by rw [hX]; exact hS0
   have hd:=hS.hand [] [] rfl rfl
   refine Stp.mono (o_lit (T:=(tI .u8)) (E:=5) (zv:=vU 0) [vU 6] ([6] : List Int) [gL []] _ H hd rfl (by kernel_rfl) (by kernel_rfl) (by kernel_rfl) (by kernel_rfl) (by kernel_rfl) (by kernel_rfl) (by kernel_rfl) rfl (InnL.cons trivial InnL.nil)) ?_
   rintro v w2 hq
   obtain ⟨g75,rfl,hq⟩:=hq
   replace hS : SH M X w [eO 5 (tI .u8) ([6] : List Int) g75] _:=hS.join [] [] rfl rfl hq
   rw [hX] at hS
   exact ⟨gL [g75],fun _ _ => rfl,hS.sel [0] rfl⟩
  ·intro o ho a w yg29 M Hb hv hO hS
   obtain rfl:=someE ho
   exact Stp.mono (o_evs [] (vG [vS [111,114,100,101,114],vF,vU 6,vN,vI 0,vU 0,vU 0,vU 0,vU 0,vO,vK (yg29 65 0) 1,vF]) none [] (((Hb).add (hv 64 (by decide) (by decide) 73 rfl)).add (hv 65 (by decide) (by decide) 74 rfl)) rfl (by kernel_rfl) (fun q e => by cases e)) fun _ _ hq => ⟨gL [],fun _ _ => hq.1,(hS.below hq.2.below).sel [0] rfl⟩
  ·intro o ho a w yg29 M Hb hv hO hS0
   obtain rfl:=someE ho
   have H : Fr 77 ((fS [75,72,68,65,62,54,51,47,43,39,35,31,27,24,21,18,15,12] [vG [vS [111,114,100,101,114],vF,vU 6,vN,vI 0,vU 0,vU 0,vU 0,vU 0,vO,vK (yg29 65 0) 1,vF],vG [vS [122,45,105,110,100,101,120],vF,vU 1,vS [97,117,116,111],vI 0,vU 0,vU 0,vU 0,vU 0,vK (yg29 61 0) 1,vK (yg29 62 0) 1,vF],vG [vS [111,112,97,99,105,116,121],vF,vU 5,vN,vI 1000,vU 0,vU 0,vU 0,vU 0,vO,vK (yg29 58 0) 1,vF],vG [vS [116,101,120,116,45,97,108,105,103,110],vT,vU y66.Kind,vS y66.Word,vI y66.Num,vU y66.Color.Red,vU y66.Color.Green,vU y66.Color.Blue,vU y66.Color.Alpha,vK (yg29 55 0) 4,vO,vF],vG [vS [108,105,110,101,45,104,101,105,103,104,116],vT,vU y53.Kind,vS y53.Word,vI y53.Num,vU y53.Color.Red,vU y53.Color.Green,vU y53.Color.Blue,vU y53.Color.Alpha,vK (yg29 47 0) 1,.slice (yg29 52 0).a q64.length (yg29 52 0).c,vT],vG [vS [102,111,110,116,45,115,105,122,101],vT,vU y52.Kind,vS y52.Word,vI y52.Num,vU y52.Color.Red,vU y52.Color.Green,vU y52.Color.Blue,vU y52.Color.Alpha,vO,vK g16 3,vT],vG [vS [109,97,114,103,105,110,45,108,101,102,116],vF,vU y49.Kind,vS y49.Word,vI y49.Num,vU y49.Color.Red,vU y49.Color.Green,vU y49.Color.Blue,vU y49.Color.Alpha,vK (yg29 40 0) 1,vK g16 3,vF],vG [vS [109,97,114,103,105,110,45,98,111,116,116,111,109],vF,vU y46.Kind,vS y46.Word,vI y46.Num,vU y46.Color.Red,vU y46.Color.Green,vU y46.Color.Blue,vU y46.Color.Alpha,vK (yg29 36 0) 1,vK g16 3,vF],vG [vS [109,97,114,103,105,110,45,114,105,103,104,116],vF,vU y43.Kind,vS y43.Word,vI y43.Num,vU y43.Color.Red,vU y43.Color.Green,vU y43.Color.Blue,vU y43.Color.Alpha,vK (yg29 32 0) 1,vK g16 3,vF],vG [vS [109,97,114,103,105,110,45,116,111,112],vF,vU y40.Kind,vS y40.Word,vI y40.Num,vU y40.Color.Red,vU y40.Color.Green,vU y40.Color.Blue,vU y40.Color.Alpha,vK (yg29 28 0) 1,vK g16 3,vF],vG [vS [104,101,105,103,104,116],vF,vU 1,vS [97,117,116,111],vI 0,vU 0,vU 0,vU 0,vU 0,vK (yg29 24 0) 1,vK g16 3,vT],vG [vS [119,105,100,116,104],vF,vU 1,vS [97,117,116,111],vI 0,vU 0,vU 0,vU 0,vU 0,vK (yg29 20 0) 1,vK g16 3,vT],vG [vS [118,105,115,105,98,105,108,105,116,121],vT,vU y33.Kind,vS y33.Word,vI y33.Num,vU y33.Color.Red,vU y33.Color.Green,vU y33.Color.Blue,vU y33.Color.Alpha,vK (yg29 17 0) 3,vO,vF],vG [vS [100,105,115,112,108,97,121],vF,vU y30.Kind,vS y30.Word,vI y30.Num,vU y30.Color.Red,vU y30.Color.Green,vU y30.Color.Blue,vU y30.Color.Alpha,vK (yg29 14 0) 5,vO,vF],vG [vS [111,117,116,108,105,110,101,45,99,111,108,111,114],vF,vU 8,vN,vI 0,vU 0,vU 0,vU 0,vU 0,vO,vK g10 2,vF],vG [vS [98,111,114,100,101,114,45,99,111,108,111,114],vF,vU 8,vN,vI 0,vU 0,vU 0,vU 0,vU 0,vO,vK g10 2,vF],vG [vS [98,97,99,107,103,114,111,117,110,100,45,99,111,108,111,114],vF,vU 7,vN,vI 0,vU 0,vU 0,vU 0,vU 0,vO,vK g10 2,vF],vG [vS [99,111,108,111,114],vT,vU 7,vN,vI 0,vU 0,vU 0,vU 0,vU 255,vO,vK g10 2,vF]]) ++ (fS [1,2,3,4] [vP b5,vK g10 2,vK g16 3,vP b24])) _:=((((((((((((((((((Hb).add (hv 3 (by decide) (by decide) 12 rfl)).add (hv 6 (by decide) (by decide) 15 rfl)).add (hv 9 (by decide) (by decide) 18 rfl)).add (hv 12 (by decide) (by decide) 21 rfl)).add (hv 15 (by decide) (by decide) 24 rfl)).add (hv 18 (by decide) (by decide) 27 rfl)).add (hv 22 (by decide) (by decide) 31 rfl)).add (hv 26 (by decide) (by decide) 35 rfl)).add (hv 30 (by decide) (by decide) 39 rfl)).add (hv 34 (by decide) (by decide) 43 rfl)).add (hv 38 (by decide) (by decide) 47 rfl)).add (hv 42 (by decide) (by decide) 51 rfl)).add (hv 45 (by decide) (by decide) 54 rfl)).add (hv 53 (by decide) (by decide) 62 rfl)).add (hv 56 (by decide) (by decide) 65 rfl)).add (hv 59 (by decide) (by decide) 68 rfl)).add (hv 63 (by decide) (by decide) 72 rfl)).add (hv 66 (by decide) (by decide) 75 rfl)
   obtain ⟨X,hX⟩ : ∃ X,X = fpl [eO 9 tS kL2 (yg29 14 0),eO 9 tS kL3 (yg29 17 0),eO 9 tS kL0 (yg29 20 0),eO 9 tS kL0 (yg29 24 0),eO 9 tS kL0 (yg29 28 0),eO 9 tS kL0 (yg29 32 0),eO 9 tS kL0 (yg29 36 0),eO 9 tS kL0 (yg29 40 0),eO 9 tS kL4 (yg29 47 0),eO 5 (tI .u8) q64 (yg29 52 0),eO 9 tS kL5 (yg29 55 0),eO 5 (tI .u8) ([5] : List Int) (yg29 58 0),eO 9 tS kL0 (yg29 61 0),eO 5 (tI .u8) ([6] : List Int) (yg29 62 0),eO 5 (tI .u8) ([6] : List Int) (yg29 65 0),eO 5 (tI .u8) kL1 g16,eO 5 (tI .u8) ([7,8] : List Int) g10]:=⟨_,rfl⟩
   have hS : SH M X w [eO 9 tS kL2 (yg29 14 0),eO 9 tS kL3 (yg29 17 0),eO 9 tS kL0 (yg29 20 0),eO 9 tS kL0 (yg29 24 0),eO 9 tS kL0 (yg29 28 0),eO 9 tS kL0 (yg29 32 0),eO 9 tS kL0 (yg29 36 0),eO 9 tS kL0 (yg29 40 0),eO 9 tS kL4 (yg29 47 0),eO 5 (tI .u8) q64 (yg29 52 0),eO 9 tS kL5 (yg29 55 0),eO 5 (tI .u8) ([5] : List Int) (yg29 58 0),eO 9 tS kL0 (yg29 61 0),eO 5 (tI .u8) ([6] : List Int) (yg29 62 0),eO 5 (tI .u8) ([6] : List Int) (yg29 65 0),eO 5 (tI .u8) kL1 g16,eO 5 (tI .u8) ([7,8] : List Int) g10] w:=by rw [hX]; exact hS0
   replace hS : SH M X w [eI (tI .u8) ([7,8] : List Int) g10,eO 9 tS kL2 (yg29 14 0),eO 9 tS kL3 (yg29 17 0),eO 9 tS kL0 (yg29 20 0),eO 9 tS kL0 (yg29 24 0),eO 9 tS kL0 (yg29 28 0),eO 9 tS kL0 (yg29 32 0),eO 9 tS kL0 (yg29 36 0),eO 9 tS kL0 (yg29 40 0),eO 9 tS kL4 (yg29 47 0),eO 5 (tI .u8) q64 (yg29 52 0),eO 9 tS kL5 (yg29 55 0),eO 5 (tI .u8) ([5] : List Int) (yg29 58 0),eO 9 tS kL0 (yg29 61 0),eO 5 (tI .u8) ([6] : List Int) (yg29 62 0),eO 5 (tI .u8) ([6] : List Int) (yg29 65 0),eO 5 (tI .u8) kL1 g16] _:=SH.frz1 (hS.sel [16,0,1,2,3,4,5,6,7,8,9,10,11,12,13,14,15] rfl)
   replace hS : SH M X w [eI tS kL2 (yg29 14 0),eI (tI .u8) ([7,8] : List Int) g10,eO 9 tS kL3 (yg29 17 0),eO 9 tS kL0 (yg29 20 0),eO 9 tS kL0 (yg29 24 0),eO 9 tS kL0 (yg29 28 0),eO 9 tS kL0 (yg29 32 0),eO 9 tS kL0 (yg29 36 0),eO 9 tS kL0 (yg29 40 0),eO 9 tS kL4 (yg29 47 0),eO 5 (tI .u8) q64 (yg29 52 0),eO 9 tS kL5 (yg29 55 0),eO 5 (tI .u8) ([5] : List Int) (yg29 58 0),eO 9 tS kL0 (yg29 61 0),eO 5 (tI .u8) ([6] : List Int) (yg29 62 0),eO 5 (tI .u8) ([6] : List Int) (yg29 65 0),eO 5 (tI .u8) kL1 g16] _:=SH.frz1 (hS.sel [1,0,2,3,4,5,6,7,8,9,10,11,12,13,14,15,16] rfl)
   replace hS : SH M X w [eI tS kL3 (yg29 17 0),eI tS kL2 (yg29 14 0),eI (tI .u8) ([7,8] : List Int) g10,eO 9 tS kL0 (yg29 20 0),eO 9 tS kL0 (yg29 24 0),eO 9 tS kL0 (yg29 28 0),eO 9 tS kL0 (yg29 32 0),eO 9 tS kL0 (yg29 36 0),eO 9 tS kL0 (yg29 40 0),eO 9 tS kL4 (yg29 47 0),eO 5 (tI .u8) q64 (yg29 52 0),eO 9 tS kL5 (yg29 55 0),eO 5 (tI .u8) ([5] : List Int) (yg29 58 0),eO 9 tS kL0 (yg29 61 0),eO 5 (tI .u8) ([6] : List Int) (yg29 62 0),eO 5 (tI .u8) ([6] : List Int) (yg29 65 0),eO 5 (tI .u8) kL1 g16] _:=SH.frz1 (hS.sel [2,0,1,3,4,5,6,7,8,9,10,11,12,13,14,15,16] rfl)
   replace hS : SH M X w [eI tS kL0 (yg29 20 0),eI tS kL3 (yg29 17 0),eI tS kL2 (yg29 14 0),eI (tI .u8) ([7,8] : List Int) g10,eO 9 tS kL0 (yg29 24 0),eO 9 tS kL0 (yg29 28 0),eO 9 tS kL0 (yg29 32 0),eO 9 tS kL0 (yg29 36 0),eO 9 tS kL0 (yg29 40 0),eO 9 tS kL4 (yg29 47 0),eO 5 (tI .u8) q64 (yg29 52 0),eO 9 tS kL5 (yg29 55 0),eO 5 (tI .u8) ([5] : List Int) (yg29 58 0),eO 9 tS kL0 (yg29 61 0),eO 5 (tI .u8) ([6] : List Int) (yg29 62 0),eO 5 (tI .u8) ([6] : List Int) (yg29 65 0),eO 5 (tI .u8) kL1 g16] _:=SH.frz1 (hS.sel [3,0,1,2,4,5,6,7,8,9,10,11,12,13,14,15,16] rfl)
   replace hS : SH M X w [eI (tI .u8) kL1 g16,eI tS kL0 (yg29 20 0),eI tS kL3 (yg29 17 0),eI tS kL2 (yg29 14 0),eI (tI .u8) ([7,8] : List Int) g10,eO 9 tS kL0 (yg29 24 0),eO 9 tS kL0 (yg29 28 0),eO 9 tS kL0 (yg29 32 0),eO 9 tS kL0 (yg29 36 0),eO 9 tS kL0 (yg29 40 0),eO 9 tS kL4 (yg29 47 0),eO 5 (tI .u8) q64 (yg29 52 0),eO 9 tS kL5 (yg29 55 0),eO 5 (tI .u8) ([5] : List Int) (yg29 58 0),eO 9 tS kL0 (yg29 61 0),eO 5 (tI .u8) ([6] : List Int) (yg29 62 0),eO 5 (tI .u8) ([6] : List Int) (yg29 65 0)] _:=SH.frz1 (hS.sel [16,0,1,2,3,4,5,6,7,8,9,10,11,12,13,14,15] rfl)
   replace hS : SH M X w [eI tS kL0 (yg29 24 0),eI (tI .u8) kL1 g16,eI tS kL0 (yg29 20 0),eI tS kL3 (yg29 17 0),eI tS kL2 (yg29 14 0),eI (tI .u8) ([7,8] : List Int) g10,eO 9 tS kL0 (yg29 28 0),eO 9 tS kL0 (yg29 32 0),eO 9 tS kL0 (yg29 36 0),eO 9 tS kL0 (yg29 40 0),eO 9 tS kL4 (yg29 47 0),eO 5 (tI .u8) q64 (yg29 52 0),eO 9 tS kL5 (yg29 55 0),eO 5 (tI .u8) ([5] : List Int) (yg29 58 0),eO 9 tS kL0 (yg29 61 0),eO 5 (tI .u8) ([6] : List Int) (yg29 62 0),eO 5 (tI .u8) ([6] : List Int) (yg29 65 0)] _:=SH.frz1 (hS.sel [5,0,1,2,3,4,6,7,8,9,10,11,12,13,14,15,16] rfl)
   replace hS : SH M X w [eI tS kL0 (yg29 28 0),eI tS kL0 (yg29 24 0),eI (tI .u8) kL1 g16,eI tS kL0 (yg29 20 0),eI tS kL3 (yg29 17 0),eI tS kL2 (yg29 14 0),eI (tI .u8) ([7,8] : List Int) g10,eO 9 tS kL0 (yg29 32 0),eO 9 tS kL0 (yg29 36 0),eO 9 tS kL0 (yg29 40 0),eO 9 tS kL4 (yg29 47 0),eO 5 (tI .u8) q64 (yg29 52 0),eO 9 tS kL5 (yg29 55 0),eO 5 (tI .u8) ([5] : List Int) (yg29 58 0),eO 9 tS kL0 (yg29 61 0),eO 5 (tI .u8) ([6] : List Int) (yg29 62 0),eO 5 (tI .u8) ([6] : List Int) (yg29 65 0)] _:=SH.frz1 (hS.sel [6,0,1,2,3,4,5,7,8,9,10,11,12,13,14,15,16] rfl)
   replace hS : SH M X w [eI tS kL0 (yg29 32 0),eI tS kL0 (yg29 28 0),eI tS kL0 (yg29 24 0),eI (tI .u8) kL1 g16,eI tS kL0 (yg29 20 0),eI tS kL3 (yg29 17 0),eI tS kL2 (yg29 14 0),eI (tI .u8) ([7,8] : List Int) g10,eO 9 tS kL0 (yg29 36 0),eO 9 tS kL0 (yg29 40 0),eO 9 tS kL4 (yg29 47 0),eO 5 (tI .u8) q64 (yg29 52 0),eO 9 tS kL5 (yg29 55 0),eO 5 (tI .u8) ([5] : List Int) (yg29 58 0),eO 9 tS kL0 (yg29 61 0),eO 5 (tI .u8) ([6] : List Int) (yg29 62 0),eO 5 (tI .u8) ([6] : List Int) (yg29 65 0)] _:=SH.frz1 (hS.sel [7,0,1,2,3,4,5,6,8,9,10,11,12,13,14,15,16] rfl)
   replace hS : SH M X w [eI tS kL0 (yg29 36 0),eI tS kL0 (yg29 32 0),eI tS kL0 (yg29 28 0),eI tS kL0 (yg29 24 0),eI (tI .u8) kL1 g16,eI tS kL0 (yg29 20 0),eI tS kL3 (yg29 17 0),eI tS kL2 (yg29 14 0),eI (tI .u8) ([7,8] : List Int) g10,eO 9 tS kL0 (yg29 40 0),eO 9 tS kL4 (yg29 47 0),eO 5 (tI .u8) q64 (yg29 52 0),eO 9 tS kL5 (yg29 55 0),eO 5 (tI .u8) ([5] : List Int) (yg29 58 0),eO 9 tS kL0 (yg29 61 0),eO 5 (tI .u8) ([6] : List Int) (yg29 62 0),eO 5 (tI .u8) ([6] : List Int) (yg29 65 0)] _:=SH.frz1 (hS.sel [8,0,1,2,3,4,5,6,7,9,10,11,12,13,14,15,16] rfl)
   replace hS : SH M X w [eI tS kL0 (yg29 40 0),eI tS kL0 (yg29 36 0),eI tS kL0 (yg29 32 0),eI tS kL0 (yg29 28 0),eI tS kL0 (yg29 24 0),eI (tI .u8) kL1 g16,eI tS kL0 (yg29 20 0),eI tS kL3 (yg29 17 0),eI tS kL2 (yg29 14 0),eI (tI .u8) ([7,8] : List Int) g10,eO 9 tS kL4 (yg29 47 0),eO 5 (tI .u8) q64 (yg29 52 0),eO 9 tS kL5 (yg29 55 0),eO 5 (tI .u8) ([5] : List Int) (yg29 58 0),eO 9 tS kL0 (yg29 61 0),eO 5 (tI .u8) ([6] : List Int) (yg29 62 0),eO 5 (tI .u8) ([6] : List Int) (yg29 65 0)] _:=SH.frz1 (hS.sel [9,0,1,2,3,4,5,6,7,8,10,11,12,13,14,15,16] rfl)
   replace hS : SH M X w [eI tS kL4 (yg29 47 0),eI tS kL0 (yg29 40 0),eI tS kL0 (yg29 36 0),eI tS kL0 (yg29 32 0),eI tS kL0 (yg29 28 0),eI tS kL0 (yg29 24 0),eI (tI .u8) kL1 g16,eI tS kL0 (yg29 20 0),eI tS kL3 (yg29 17 0),eI tS kL2 (yg29 14 0),eI (tI .u8) ([7,8] : List Int) g10,eO 5 (tI .u8) q64 (yg29 52 0),eO 9 tS kL5 (yg29 55 0),eO 5 (tI .u8) ([5] : List Int) (yg29 58 0),eO 9 tS kL0 (yg29 61 0),eO 5 (tI .u8) ([6] : List Int) (yg29 62 0),eO 5 (tI .u8) ([6] : List Int) (yg29 65 0)] _:=SH.frz1 (hS.sel [10,0,1,2,3,4,5,6,7,8,9,11,12,13,14,15,16] rfl)
   replace hS : SH M X w [eI (tI .u8) q64 (yg29 52 0),eI tS kL4 (yg29 47 0),eI tS kL0 (yg29 40 0),eI tS kL0 (yg29 36 0),eI tS kL0 (yg29 32 0),eI tS kL0 (yg29 28 0),eI tS kL0 (yg29 24 0),eI (tI .u8) kL1 g16,eI tS kL0 (yg29 20 0),eI tS kL3 (yg29 17 0),eI tS kL2 (yg29 14 0),eI (tI .u8) ([7,8] : List Int) g10,eO 9 tS kL5 (yg29 55 0),eO 5 (tI .u8) ([5] : List Int) (yg29 58 0),eO 9 tS kL0 (yg29 61 0),eO 5 (tI .u8) ([6] : List Int) (yg29 62 0),eO 5 (tI .u8) ([6] : List Int) (yg29 65 0)] _:=SH.frz1 (hS.sel [11,0,1,2,3,4,5,6,7,8,9,10,12,13,14,15,16] rfl)
   replace hS : SH M X w [eI tS kL5 (yg29 55 0),eI (tI .u8) q64 (yg29 52 0),eI tS kL4 (yg29 47 0),eI tS kL0 (yg29 40 0),eI tS kL0 (yg29 36 0),eI tS kL0 (yg29 32 0),eI tS kL0 (yg29 28 0),eI tS kL0 (yg29 24 0),eI (tI .u8) kL1 g16,eI tS kL0 (yg29 20 0),eI tS kL3 (yg29 17 0),eI tS kL2 (yg29 14 0),eI (tI .u8) ([7,8] : List Int) g10,eO 5 (tI .u8) ([5] : List Int) (yg29 58 0),eO 9 tS kL0 (yg29 61 0),eO 5 (tI .u8) ([6] : List Int) (yg29 62 0),eO 5 (tI .u8) ([6] : List Int) (yg29 65 0)] _:=SH.frz1 (hS.sel [12,0,1,2,3,4,5,6,7,8,9,10,11,13,14,15,16] rfl)
   replace hS : SH M X w [eI (tI .u8) ([5] : List Int) (yg29 58 0),eI tS kL5 (yg29 55 0),eI (tI .u8) q64 (yg29 52 0),eI tS kL4 (yg29 47 0),eI tS kL0 (yg29 40 0),eI tS kL0 (yg29 36 0),eI tS kL0 (yg29 32 0),eI tS kL0 (yg29 28 0),eI tS kL0 (yg29 24 0),eI (tI .u8) kL1 g16,eI tS kL0 (yg29 20 0),eI tS kL3 (yg29 17 0),eI tS kL2 (yg29 14 0),eI (tI .u8) ([7,8] : List Int) g10,eO 9 tS kL0 (yg29 61 0),eO 5 (tI .u8) ([6] : List Int) (yg29 62 0),eO 5 (tI .u8) ([6] : List Int) (yg29 65 0)] _:=SH.frz1 (hS.sel [13,0,1,2,3,4,5,6,7,8,9,10,11,12,14,15,16] rfl)
   replace hS : SH M X w [eI tS kL0 (yg29 61 0),eI (tI .u8) ([5] : List Int) (yg29 58 0),eI tS kL5 (yg29 55 0),eI (tI .u8) q64 (yg29 52 0),eI tS kL4 (yg29 47 0),eI tS kL0 (yg29 40 0),eI tS kL0 (yg29 36 0),eI tS kL0 (yg29 32 0),eI tS kL0 (yg29 28 0),eI tS kL0 (yg29 24 0),eI (tI .u8) kL1 g16,eI tS kL0 (yg29 20 0),eI tS kL3 (yg29 17 0),eI tS kL2 (yg29 14 0),eI (tI .u8) ([7,8] : List Int) g10,eO 5 (tI .u8) ([6] : List Int) (yg29 62 0),eO 5 (tI .u8) ([6] : List Int) (yg29 65 0)] _:=SH.frz1 (hS.sel [14,0,1,2,3,4,5,6,7,8,9,10,11,12,13,15,16] rfl)
   replace hS : SH M X w [eI (tI .u8) ([6] : List Int) (yg29 62 0),eI tS kL0 (yg29 61 0),eI (tI .u8) ([5] : List Int) (yg29 58 0),eI tS kL5 (yg29 55 0),eI (tI .u8) q64 (yg29 52 0),eI tS kL4 (yg29 47 0),eI tS kL0 (yg29 40 0),eI tS kL0 (yg29 36 0),eI tS kL0 (yg29 32 0),eI tS kL0 (yg29 28 0),eI tS kL0 (yg29 24 0),eI (tI .u8) kL1 g16,eI tS kL0 (yg29 20 0),eI tS kL3 (yg29 17 0),eI tS kL2 (yg29 14 0),eI (tI .u8) ([7,8] : List Int) g10,eO 5 (tI .u8) ([6] : List Int) (yg29 65 0)] _:=SH.frz1 (hS.sel [15,0,1,2,3,4,5,6,7,8,9,10,11,12,13,14,16] rfl)
   replace hS : SH M X w [eI (tI .u8) ([6] : List Int) (yg29 65 0),eI (tI .u8) ([6] : List Int) (yg29 62 0),eI tS kL0 (yg29 61 0),eI (tI .u8) ([5] : List Int) (yg29 58 0),eI tS kL5 (yg29 55 0),eI (tI .u8) q64 (yg29 52 0),eI tS kL4 (yg29 47 0),eI tS kL0 (yg29 40 0),eI tS kL0 (yg29 36 0),eI tS kL0 (yg29 32 0),eI tS kL0 (yg29 28 0),eI tS kL0 (yg29 24 0),eI (tI .u8) kL1 g16,eI tS kL0 (yg29 20 0),eI tS kL3 (yg29 17 0),eI tS kL2 (yg29 14 0),eI (tI .u8) ([7,8] : List Int) g10] _:=SH.frz1 (hS.sel [16,0,1,2,3,4,5,6,7,8,9,10,11,12,13,14,15] rfl)
   have hd:=hS.hand [16,15,14,13,12,11,10,9,8,7,6,5,4,3,2,1,0] [0,1,2,3,4,5,6,7,8,9,10,11,12,13,14,15,16] rfl rfl
   refine Stp.mono (o_lit (T:=tyProp) (E:=77) (zv:=vG [vN,vF,vU 0,vN,vI 0,vU 0,vU 0,vU 0,vU 0,vO,vO,vF]) [vS [99,111,108,111,114],vT,vU 7,vN,vI 0,vU 0,vU 0,vU 0,vU 255,vO,vK g10 2,vF,vS [98,97,99,107,103,114,111,117,110,100,45,99,111,108,111,114],vF,vU 7,vN,vI 0,vU 0,vU 0,vU 0,vU 0,vO,vK g10 2,vF,vS [98,111,114,100,101,114,45,99,111,108,111,114],vF,vU 8,vN,vI 0,vU 0,vU 0,vU 0,vU 0,vO,vK g10 2,vF,vS [111,117,116,108,105,110,101,45,99,111,108,111,114],vF,vU 8,vN,vI 0,vU 0,vU 0,vU 0,vU 0,vO,vK g10 2,vF,vS [100,105,115,112,108,97,121],vF,vU y30.Kind,vS y30.Word,vI y30.Num,vU y30.Color.Red,vU y30.Color.Green,vU y30.Color.Blue,vU y30.Color.Alpha,vK (yg29 14 0) 5,vO,vF,vS [118,105,115,105,98,105,108,105,116,121],vT,vU y33.Kind,vS y33.Word,vI y33.Num,vU y33.Color.Red,vU y33.Color.Green,vU y33.Color.Blue,vU y33.Color.Alpha,vK (yg29 17 0) 3,vO,vF,vS [119,105,100,116,104],vF,vU 1,vS [97,117,116,111],vI 0,vU 0,vU 0,vU 0,vU 0,vK (yg29 20 0) 1,vK g16 3,vT,vS [104,101,105,103,104,116],vF,vU 1,vS [97,117,116,111],vI 0,vU 0,vU 0,vU 0,vU 0,vK (yg29 24 0) 1,vK g16 3,vT,vS [109,97,114,103,105,110,45,116,111,112],vF,vU y40.Kind,vS y40.Word,vI y40.Num,vU y40.Color.Red,vU y40.Color.Green,vU y40.Color.Blue,vU y40.Color.Alpha,vK (yg29 28 0) 1,vK g16 3,vF,vS [109,97,114,103,105,110,45,114,105,103,104,116],vF,vU y43.Kind,vS y43.Word,vI y43.Num,vU y43.Color.Red,vU y43.Color.Green,vU y43.Color.Blue,vU y43.Color.Alpha,vK (yg29 32 0) 1,vK g16 3,vF,vS [109,97,114,103,105,110,45,98,111,116,116,111,109],vF,vU y46.Kind,vS y46.Word,vI y46.Num,vU y46.Color.Red,vU y46.Color.Green,vU y46.Color.Blue,vU y46.Color.Alpha,vK (yg29 36 0) 1,vK g16 3,vF,vS [109,97,114,103,105,110,45,108,101,102,116],vF,vU y49.Kind,vS y49.Word,vI y49.Num,vU y49.Color.Red,vU y49.Color.Green,vU y49.Color.Blue,vU y49.Color.Alpha,vK (yg29 40 0) 1,vK g16 3,vF,vS [102,111,110,116,45,115,105,122,101],vT,vU y52.Kind,vS y52.Word,vI y52.Num,vU y52.Color.Red,vU y52.Color.Green,vU y52.Color.Blue,vU y52.Color.Alpha,vO,vK g16 3,vT,vS [108,105,110,101,45,104,101,105,103,104,116],vT,vU y53.Kind,vS y53.Word,vI y53.Num,vU y53.Color.Red,vU y53.Color.Green,vU y53.Color.Blue,vU y53.Color.Alpha,vK (yg29 47 0) 1,.slice (yg29 52 0).a q64.length (yg29 52 0).c,vT,vS [116,101,120,116,45,97,108,105,103,110],vT,vU y66.Kind,vS y66.Word,vI y66.Num,vU y66.Color.Red,vU y66.Color.Green,vU y66.Color.Blue,vU y66.Color.Alpha,vK (yg29 55 0) 4,vO,vF,vS [111,112,97,99,105,116,121],vF,vU 5,vN,vI 1000,vU 0,vU 0,vU 0,vU 0,vO,vK (yg29 58 0) 1,vF,vS [122,45,105,110,100,101,120],vF,vU 1,vS [97,117,116,111],vI 0,vU 0,vU 0,vU 0,vU 0,vK (yg29 61 0) 1,vK (yg29 62 0) 1,vF,vS [111,114,100,101,114],vF,vU 6,vN,vI 0,vU 0,vU 0,vU 0,vU 0,vO,vK (yg29 65 0) 1,vF] ([(TProp.mk [99,111,108,111,114] true (TVal.mk 7 [] 0 (TColor.mk 0 0 0 255)) [] ([7,8] : List Int) false),(TProp.mk [98,97,99,107,103,114,111,117,110,100,45,99,111,108,111,114] false (TVal.mk 7 [] 0 (TColor.mk 0 0 0 0)) [] ([7,8] : List Int) false),(TProp.mk [98,111,114,100,101,114,45,99,111,108,111,114] false (TVal.mk 8 [] 0 (TColor.mk 0 0 0 0)) [] ([7,8] : List Int) false),(TProp.mk [111,117,116,108,105,110,101,45,99,111,108,111,114] false (TVal.mk 8 [] 0 (TColor.mk 0 0 0 0)) [] ([7,8] : List Int) false),(TProp.mk [100,105,115,112,108,97,121] false y30 kL2 [] false),(TProp.mk [118,105,115,105,98,105,108,105,116,121] true y33 kL3 [] false),(TProp.mk [119,105,100,116,104] false (TVal.mk 1 [97,117,116,111] 0 (TColor.mk 0 0 0 0)) kL0 kL1 true),(TProp.mk [104,101,105,103,104,116] false (TVal.mk 1 [97,117,116,111] 0 (TColor.mk 0 0 0 0)) kL0 kL1 true),(TProp.mk [109,97,114,103,105,110,45,116,111,112] false y40 kL0 kL1 false),(TProp.mk [109,97,114,103,105,110,45,114,105,103,104,116] false y43 kL0 kL1 false),(TProp.mk [109,97,114,103,105,110,45,98,111,116,116,111,109] false y46 kL0 kL1 false),(TProp.mk [109,97,114,103,105,110,45,108,101,102,116] false y49 kL0 kL1 false),(TProp.mk [102,111,110,116,45,115,105,122,101] true y52 [] kL1 true),(TProp.mk [108,105,110,101,45,104,101,105,103,104,116] true y53 kL4 q64 true),(TProp.mk [116,101,120,116,45,97,108,105,103,110] true y66 kL5 [] false),(TProp.mk [111,112,97,99,105,116,121] false (TVal.mk 5 [] 1000 (TColor.mk 0 0 0 0)) [] ([5] : List Int) false),(TProp.mk [122,45,105,110,100,101,120] false (TVal.mk 1 [97,117,116,111] 0 (TColor.mk 0 0 0 0)) kL0 ([6] : List Int) false),(TProp.mk [111,114,100,101,114] false (TVal.mk 6 [] 0 (TColor.mk 0 0 0 0)) [] ([6] : List Int) false)] : List TProp) [gL [Gh.nil,g10],gL [Gh.nil,g10],gL [Gh.nil,g10],gL [Gh.nil,g10],gL [(yg29 14 0),Gh.nil],gL [(yg29 17 0),Gh.nil],gL [(yg29 20 0),g16],gL [(yg29 24 0),g16],gL [(yg29 28 0),g16],gL [(yg29 32 0),g16],gL [(yg29 36 0),g16],gL [(yg29 40 0),g16],gL [Gh.nil,g16],gL [(yg29 47 0),(yg29 52 0)],gL [(yg29 55 0),Gh.nil],gL [Gh.nil,(yg29 58 0)],gL [(yg29 61 0),(yg29 62 0)],gL [Gh.nil,(yg29 65 0)]] _ H hd rfl (by kernel_rfl) (by kernel_rfl) (by kernel_rfl) (by kernel_rfl) (by kernel_rfl) (by kernel_rfl) (by kernel_rfl) rfl (InnL.cons (tyProp_mk SlG.nil (hd.im 0 rfl)) (InnL.cons (tyProp_mk SlG.nil (hd.im 0 rfl)) (InnL.cons (tyProp_mk SlG.nil (hd.im 0 rfl)) (InnL.cons (tyProp_mk SlG.nil (hd.im 0 rfl)) (InnL.cons (tyProp_mk (hd.im 1 rfl) SlG.nil) (InnL.cons (tyProp_mk (hd.im 2 rfl) SlG.nil) (InnL.cons (tyProp_mk (hd.im 3 rfl) (hd.im 4 rfl)) (InnL.cons (tyProp_mk (hd.im 5 rfl) (hd.im 4 rfl)) (InnL.cons (tyProp_mk (hd.im 6 rfl) (hd.im 4 rfl)) (InnL.cons (tyProp_mk (hd.im 7 rfl) (hd.im 4 rfl)) (InnL.cons (tyProp_mk (hd.im 8 rfl) (hd.im 4 rfl)) (InnL.cons (tyProp_mk (hd.im 9 rfl) (hd.im 4 rfl)) (InnL.cons (tyProp_mk SlG.nil (hd.im 4 rfl)) (InnL.cons (tyProp_mk (hd.im 10 rfl) (hd.im 11 rfl)) (InnL.cons (tyProp_mk (hd.im 12 rfl) SlG.nil) (InnL.cons (tyProp_mk SlG.nil (hd.im 13 rfl)) (InnL.cons (tyProp_mk (hd.im 14 rfl) (hd.im 15 rfl)) (InnL.cons (tyProp_mk SlG.nil (hd.im 16 rfl)) InnL.nil))))))))))))))))))) ?_
   rintro v w2 hq
   obtain ⟨g77,rfl,hq⟩:=hq
   replace hS : SH M X w [eO 77 tyProp ([(TProp.mk [99,111,108,111,114] true (TVal.mk 7 [] 0 (TColor.mk 0 0 0 255)) [] ([7,8] : List Int) false),(TProp.mk [98,97,99,107,103,114,111,117,110,100,45,99,111,108,111,114] false (TVal.mk 7 [] 0 (TColor.mk 0 0 0 0)) [] ([7,8] : List Int) false),(TProp.mk [98,111,114,100,101,114,45,99,111,108,111,114] false (TVal.mk 8 [] 0 (TColor.mk 0 0 0 0)) [] ([7,8] : List Int) false),(TProp.mk [111,117,116,108,105,110,101,45,99,111,108,111,114] false (TVal.mk 8 [] 0 (TColor.mk 0 0 0 0)) [] ([7,8] : List Int) false),(TProp.mk [100,105,115,112,108,97,121] false y30 kL2 [] false),(TProp.mk [118,105,115,105,98,105,108,105,116,121] true y33 kL3 [] false),(TProp.mk [119,105,100,116,104] false (TVal.mk 1 [97,117,116,111] 0 (TColor.mk 0 0 0 0)) kL0 kL1 true),(TProp.mk [104,101,105,103,104,116] false (TVal.mk 1 [97,117,116,111] 0 (TColor.mk 0 0 0 0)) kL0 kL1 true),(TProp.mk [109,97,114,103,105,110,45,116,111,112] false y40 kL0 kL1 false),(TProp.mk [109,97,114,103,105,110,45,114,105,103,104,116] false y43 kL0 kL1 false),(TProp.mk [109,97,114,103,105,110,45,98,111,116,116,111,109] false y46 kL0 kL1 false),(TProp.mk [109,97,114,103,105,110,45,108,101,102,116] false y49 kL0 kL1 false),(TProp.mk [102,111,110,116,45,115,105,122,101] true y52 [] kL1 true),(TProp.mk [108,105,110,101,45,104,101,105,103,104,116] true y53 kL4 q64 true),(TProp.mk [116,101,120,116,45,97,108,105,103,110] true y66 kL5 [] false),(TProp.mk [111,112,97,99,105,116,121] false (TVal.mk 5 [] 1000 (TColor.mk 0 0 0 0)) [] ([5] : List Int) false),(TProp.mk [122,45,105,110,100,101,120] false (TVal.mk 1 [97,117,116,111] 0 (TColor.mk 0 0 0 0)) kL0 ([6] : List Int) false),(TProp.mk [111,114,100,101,114] false (TVal.mk 6 [] 0 (TColor.mk 0 0 0 0)) [] ([6] : List Int) false)] : List TProp) g77,eI (tI .u8) ([6] : List Int) (yg29 65 0),eI (tI .u8) ([6] : List Int) (yg29 62 0),eI tS kL0 (yg29 61 0),eI (tI .u8) ([5] : List Int) (yg29 58 0),eI tS kL5 (yg29 55 0),eI (tI .u8) q64 (yg29 52 0),eI tS kL4 (yg29 47 0),eI tS kL0 (yg29 40 0),eI tS kL0 (yg29 36 0),eI tS kL0 (yg29 32 0),eI tS kL0 (yg29 28 0),eI tS kL0 (yg29 24 0),eI (tI .u8) kL1 g16,eI tS kL0 (yg29 20 0),eI tS kL3 (yg29 17 0),eI tS kL2 (yg29 14 0),eI (tI .u8) ([7,8] : List Int) g10] _:=hS.join [16,15,14,13,12,11,10,9,8,7,6,5,4,3,2,1,0] [0,1,2,3,4,5,6,7,8,9,10,11,12,13,14,15,16] rfl rfl hq
   rw [hX] at hS
   exact ⟨gL [g77,g16,g10],fun _ _ => rfl,hS.sel [0,1,2,3,4,5,6,7,8,9,10,11,12,13,14,15,16,17] rfl⟩
  ·intro o ho a w yg29 M Hb hv hO hS
   obtain rfl:=someE ho
   exact Stp.mono (o_evs [] (vK (yg29 67 0) 18) none [] ((Hb).add (hv 67 (by decide) (by decide) 76 rfl)) rfl (by kernel_rfl) (fun q e => by cases e)) fun _ _ hq => ⟨gL [],fun _ _ => hq.1,(hS.below hq.2.below).sel [0,1,2,3,4,5,6,7,8,9,10,11,12,13,14,15,16,17] rfl⟩
 have H81 : Fr 77 [(0,[],vK (yg29 67 0) 18)] _:=(FrG.add (FrG.keep (ks:=[]) H80 (by kernel_rfl)) (hv 68 0 rfl))
 replace hS : SH M X w [eO 5 (tI .u8) ([5] : List Int) (yg29 51 0),eO 77 tyProp ([(TProp.mk [99,111,108,111,114] true (TVal.mk 7 [] 0 (TColor.mk 0 0 0 255)) [] ([7,8] : List Int) false),(TProp.mk [98,97,99,107,103,114,111,117,110,100,45,99,111,108,111,114] false (TVal.mk 7 [] 0 (TColor.mk 0 0 0 0)) [] ([7,8] : List Int) false),(TProp.mk [98,111,114,100,101,114,45,99,111,108,111,114] false (TVal.mk 8 [] 0 (TColor.mk 0 0 0 0)) [] ([7,8] : List Int) false),(TProp.mk [111,117,116,108,105,110,101,45,99,111,108,111,114] false (TVal.mk 8 [] 0 (TColor.mk 0 0 0 0)) [] ([7,8] : List Int) false),(TProp.mk [100,105,115,112,108,97,121] false y30 kL2 [] false),(TProp.mk [118,105,115,105,98,105,108,105,116,121] true y33 kL3 [] false),(TProp.mk [119,105,100,116,104] false (TVal.mk 1 [97,117,116,111] 0 (TColor.mk 0 0 0 0)) kL0 kL1 true),(TProp.mk [104,101,105,103,104,116] false (TVal.mk 1 [97,117,116,111] 0 (TColor.mk 0 0 0 0)) kL0 kL1 true),(TProp.mk [109,97,114,103,105,110,45,116,111,112] false y40 kL0 kL1 false),(TProp.mk [109,97,114,103,105,110,45,114,105,103,104,116] false y43 kL0 kL1 false),(TProp.mk [109,97,114,103,105,110,45,98,111,116,116,111,109] false y46 kL0 kL1 false),(TProp.mk [109,97,114,103,105,110,45,108,101,102,116] false y49 kL0 kL1 false),(TProp.mk [102,111,110,116,45,115,105,122,101] true y52 [] kL1 true),(TProp.mk [108,105,110,101,45,104,101,105,103,104,116] true y53 kL4 q64 true),(TProp.mk [116,101,120,116,45,97,108,105,103,110] true y66 kL5 [] false),(TProp.mk [111,112,97,99,105,116,121] false (TVal.mk 5 [] 1000 (TColor.mk 0 0 0 0)) [] ([5] : List Int) false),(TProp.mk [122,45,105,110,100,101,120] false (TVal.mk 1 [97,117,116,111] 0 (TColor.mk 0 0 0 0)) kL0 ([6] : List Int) false),(TProp.mk [111,114,100,101,114] false (TVal.mk 6 [] 0 (TColor.mk 0 0 0 0)) [] ([6] : List Int) false)] : List TProp) (yg29 67 0),eI (tI .u8) ([6] : List Int) (yg29 65 0),eI (tI .u8) ([6] : List Int) (yg29 62 0),eI tS kL0 (yg29 61 0),eI (tI .u8) ([5] : List Int) (yg29 58 0),eI tS kL5 (yg29 55 0),eI (tI .u8) q64 (yg29 52 0),eI tS kL4 (yg29 47 0),eI tS kL0 (yg29 40 0),eI tS kL0 (yg29 36 0),eI tS kL0 (yg29 32 0),eI tS kL0 (yg29 28 0),eI tS kL0 (yg29 24 0),eI (tI .u8) kL1 (yg29 67 1),eI tS kL0 (yg29 20 0),eI tS kL3 (yg29 17 0),eI tS kL2 (yg29 14 0),eI (tI .u8) ([7,8] : List Int) (yg29 67 2),eB b24 [vU 1,vS [97,117,116,111],vI 0,vU 0,vU 0,vU 0,vU 0],eB b5 [vU 8,vN,vI 0,vU 0,vU 0,vU 0,vU 0]] _:=hS
 clear hv H80
 generalize yg29 67 0 = g82 at H81 hS
 generalize yg29 51 0 = g83 at H81 hS
 generalize yg29 65 0 = g84 at H81 hS
 generalize yg29 62 0 = g85 at H81 hS
 generalize yg29 61 0 = g86 at H81 hS
 generalize yg29 58 0 = g87 at H81 hS
 generalize yg29 55 0 = g88 at H81 hS
 generalize yg29 52 0 = g89 at H81 hS
 generalize yg29 47 0 = g90 at H81 hS
 generalize yg29 40 0 = g91 at H81 hS
 generalize yg29 36 0 = g92 at H81 hS
 generalize yg29 32 0 = g93 at H81 hS
 generalize yg29 28 0 = g94 at H81 hS
 generalize yg29 24 0 = g95 at H81 hS
 generalize yg29 67 1 = g96 at H81 hS
 generalize yg29 20 0 = g97 at H81 hS
 generalize yg29 17 0 = g98 at H81 hS
 generalize yg29 14 0 = g99 at H81 hS
 generalize yg29 67 2 = g100 at H81 hS
 replace hS : SH M X w [eO 77 tyProp ([(TProp.mk [99,111,108,111,114] true (TVal.mk 7 [] 0 (TColor.mk 0 0 0 255)) [] ([7,8] : List Int) false),(TProp.mk [98,97,99,107,103,114,111,117,110,100,45,99,111,108,111,114] false (TVal.mk 7 [] 0 (TColor.mk 0 0 0 0)) [] ([7,8] : List Int) false),(TProp.mk [98,111,114,100,101,114,45,99,111,108,111,114] false (TVal.mk 8 [] 0 (TColor.mk 0 0 0 0)) [] ([7,8] : List Int) false),(TProp.mk [111,117,116,108,105,110,101,45,99,111,108,111,114] false (TVal.mk 8 [] 0 (TColor.mk 0 0 0 0)) [] ([7,8] : List Int) false),(TProp.mk [100,105,115,112,108,97,121] false y30 kL2 [] false),(TProp.mk [118,105,115,105,98,105,108,105,116,121] true y33 kL3 [] false),(TProp.mk [119,105,100,116,104] false (TVal.mk 1 [97,117,116,111] 0 (TColor.mk 0 0 0 0)) kL0 kL1 true),(TProp.mk [104,101,105,103,104,116] false (TVal.mk 1 [97,117,116,111] 0 (TColor.mk 0 0 0 0)) kL0 kL1 true),(TProp.mk [109,97,114,103,105,110,45,116,111,112] false y40 kL0 kL1 false),(TProp.mk [109,97,114,103,105,110,45,114,105,103,104,116] false y43 kL0 kL1 false),(TProp.mk [109,97,114,103,105,110,45,98,111,116,116,111,109] false y46 kL0 kL1 false),(TProp.mk [109,97,114,103,105,110,45,108,101,102,116] false y49 kL0 kL1 false),(TProp.mk [102,111,110,116,45,115,105,122,101] true y52 [] kL1 true),(TProp.mk [108,105,110,101,45,104,101,105,103,104,116] true y53 kL4 q64 true),(TProp.mk [116,101,120,116,45,97,108,105,103,110] true y66 kL5 [] false),(TProp.mk [111,112,97,99,105,116,121] false (TVal.mk 5 [] 1000 (TColor.mk 0 0 0 0)) [] ([5] : List Int) false),(TProp.mk [122,45,105,110,100,101,120] false (TVal.mk 1 [97,117,116,111] 0 (TColor.mk 0 0 0 0)) kL0 ([6] : List Int) false),(TProp.mk [111,114,100,101,114] false (TVal.mk 6 [] 0 (TColor.mk 0 0 0 0)) [] ([6] : List Int) false)] : List TProp) g82] _:=hS.sel [1] rfl
 apply w_ret
 obtain rfl:=someE hm
 exact retR1 H81 rfl rfl ⟨_,rfl,g82,rfl,(hS.sel [0] rfl)⟩
theorem r25_Table_ok   (r : List TProp) (hm : r25_Table = some r) (M : Av) (w : World) (hS : S0 M [] w) : DoesX Tryz.prog 52 ⟨[]⟩ w (fun v w' => ∃ (g901 : Gh),v = vL g901 r ∧ SH M (fpl []) w [eO 77 tyProp r g901] w'):=⟨Tryz.call52 _,r25_Table_w M    r hm w hS⟩

theorem r25_Find_w  (M : Av) (m : Nat) (s : Str) (r : Int × Int) (hm : r25_Find m s = some r) (w : World) (hS : S0 M [] w) : Calls Tryz.prog 51 ⟨[vS s]⟩ w (fun e w' => ∃ v,e = .returned v ∧ v = vW [vI r.1,vI r.2] ∧ SH M (fpl []) w [] w'):=by
 rw [r25_Find] at hm
 have hS0 : SH M (fpl []) w [] w:=hS
 generalize hX : fpl [] = X at hS0 ⊢
 clear hS hX
 have hS:=hS0
 clear hS0
 refine calls_entryP Tryz.func51 rfl Tryz.ntmps51 rfl fun _ H => ?_
 refine s_reg [] [0] [(0,[],vS s)] [] H (by kernel_rfl) trivial fun _ _ H2 hb => ?_
 replace hS:=hS.below hb
 apply w_seq
 apply wl_start
 obtain ⟨y3,hy3,hm⟩:=bindE hm
 have hd:=hS.hand [] [] rfl rfl
 refine m_stp [6,0] [(0,[],vS s)] H2 rfl rfl rfl rfl (o_callx H2 rfl rfl (r25_Table_ok _ hy3 _ _ hd)) (fun _ => rfl) fun _ _ v H7 hq => ?_
 obtain ⟨g4,rfl,hq⟩:=hq
 replace hS : SH M X w [eO 77 tyProp y3 g4] _:=hS.join [] [] rfl rfl hq
 refine wl_batch 1 2 [] [0,4] (fS [0,4] [vS s,vL g4 y3]) [] H7 (by decide) (by kernel_rfl) trivial fun _ _ H9 hb => ?_
 replace hS:=hS.below hb
 apply wl_end rfl
 obtain ⟨z10,hz,hm_z10⟩:=bindE hm
 refine w_cut (fun a' w' => ∃ s_z10 : Unit,z10 = Sum.inr s_z10 ∧ Fr 21 [] a' ∧ SH M X w [eO 77 tyProp y3 g4] w') ?_ ?_
 ·replace hm:=hz
  refine s_reg [] [0,4,5] (fS [0,4,5] [vS s,vL g4 y3,vI 0]) [] H9 (by kernel_rfl) trivial fun _ _ H12 hb => ?_
  replace hS:=hS.below hb
  apply w_block
  refine w_loop (fun kk a' w' => ∃ (v13 : Int),r25_Find_L1 m s y3 kk v13 = some _ ∧ Fr 21 (fS [0,4,5] [vS s,vL g4 y3,vI v13]) a' ∧ SH M X w [eO 77 tyProp y3 g4] w') ⟨_,0,hm,FrG.keep (ks:=[0,4,5]) H12 (by kernel_rfl),hS⟩ ?_
  clear hm H12 hS
  rintro kk _ _ ⟨v13,hm,H,hS⟩
  cases kk with
  | zero => exact noneE hm
  | succ kk =>
   rw [r25_Find_L1] at hm
   apply w_seq
   refine s_reg [] [0,4,5,10] (fS [0,4,5,10] [vS s,vL g4 y3,vI v13,vB (decide (v13 < (ln y3)))]) [] H (by kernel_rfl) trivial fun _ _ H15 hb => ?_
   replace hS:=hS.below hb
   refine w_if H15 rfl (fun hc => ?_) (fun hc => ?c24)
   case c24 =>
    replace hm:=bF hc hm
    apply w_exit rfl
    obtain rfl:=someE hm
    exact ⟨_,rfl,FrG.keep (ks:=[]) H15 (by kernel_rfl),hS⟩
   replace hm:=bT hc hm
   apply w_skip
   apply w_seq
   apply w_block
   obtain ⟨ho16,hm⟩:=chkE hm
   refine s_reg [(vS (gi y3 v13).Name)] [0,4,5,19] (fS [0,4,5,19] [vS s,vL g4 y3,vI v13,vB (((gi y3 v13).Name) == s)]) [fun _ => oka g4.a ∧ 0 ≤ v13 ∧ v13 < ln y3,fun wz => V.at1 ⟨ab g4.a,ao g4.a + (v13).toNat * 12,none⟩ (vS (gi y3 v13).Name) wz] H15 (by kernel_rfl) ⟨((hS.osl 0 rfl).oki ho16),((hS.osl 0 rfl).at1 ho16 0 rfl),trivial⟩ fun _ _ H18 hb => ?_
   replace hS:=hS.below hb
   refine w_if H18 rfl (fun hc => ?_) (fun hc => ?c23)
   case c23 =>
    replace hm:=bF hc hm
    apply w_skip
    refine w_reg [] [0,4,5] (fS [0,4,5] [vS s,vL g4 y3,vI (w64 (v13 + 1))]) [] H18 (by kernel_rfl) trivial fun _ _ H22 hb => ?_
    replace hS:=hS.below hb
    exact ⟨_,Nat.lt_succ_self _,w64 (v13 + 1),hm,FrG.keep (ks:=[0,4,5]) H22 (by kernel_rfl),hS⟩
   replace hm:=bT hc hm
   refine s_reg [] [2,3] (fS [2,3] [vI v13,vI 0]) [] H18 (by kernel_rfl) trivial fun _ _ H20 hb => ?_
   replace hS:=hS.below hb
   apply w_ret
   obtain rfl:=someE hm
   have hm:=hm_z10
   obtain rfl:=someE hm
   exact retR2 H20 rfl rfl rfl ⟨_,rfl,rfl,(hS.sel [] rfl)⟩
 ·rintro _ _ ⟨s_z10,hz,H,hS⟩
  subst hz
  replace hm:=sumR hm_z10
  replace hS : SH M X w [] _:=hS.sel [] rfl
  refine s_reg [] [2,3] (fS [2,3] [vI 0,vI 6]) [] H (by kernel_rfl) trivial fun _ _ H27 hb => ?_
  replace hS:=hS.below hb
  apply w_ret
  obtain rfl:=someE hm
  exact retR2 H27 rfl rfl rfl ⟨_,rfl,rfl,(hS.sel [] rfl)⟩
theorem r25_Find_ok  (m : Nat) (s : Str) (r : Int × Int) (hm : r25_Find m s = some r) : Ret Tryz.prog 51 ⟨[vS s]⟩ (vW [vI r.1,vI r.2]):=retP_of (Tryz.call51 _) (fun w h => r25_Find_w F0 m   s r hm w h)

theorem r25_Inherited_w  (M : Av) (m : Nat) (s : Str) (r : Bool × Int) (hm : r25_Inherited m s = some r) (w : World) (hS : S0 M [] w) : Calls Tryz.prog 28 ⟨[vS s]⟩ w (fun e w' => ∃ v,e = .returned v ∧ v = vW [vB r.1,vI r.2] ∧ SH M (fpl []) w [] w'):=by
 rw [r25_Inherited] at hm
 have hS0 : SH M (fpl []) w [] w:=hS
 generalize hX : fpl [] = X at hS0 ⊢
 clear hS hX
 have hS:=hS0
 clear hS0
 refine calls_entryP Tryz.func28 rfl Tryz.ntmps28 rfl fun _ H => ?_
 refine s_reg [] [0] [(0,[],vS s)] [] H (by kernel_rfl) trivial fun _ _ H2 hb => ?_
 replace hS:=hS.below hb
 apply w_seq
 obtain ⟨y3,hy3,hm⟩:=bindE hm
 refine s_reg [(vB y3)] [0,7] (fS [0,7] [vS s,vB y3]) [rB 50 [vS s] (vB y3)] H2 (by kernel_rfl) ⟨((r25_Custom_ok _ _ hy3).b),trivial⟩ fun _ _ H5 hb => ?_
 replace hS:=hS.below hb
 refine w_if H5 rfl (fun hc => ?c24) (fun hc => ?_)
 case c24 =>
  replace hm:=bT hc hm
  refine s_reg [] [2,3] (fS [2,3] [vT,vI 0]) [] H5 (by kernel_rfl) trivial fun _ _ H7 hb => ?_
  replace hS:=hS.below hb
  apply w_ret
  obtain rfl:=someE hm
  exact retR2 H7 rfl rfl rfl ⟨_,rfl,rfl,(hS.sel [] rfl)⟩
 replace hm:=bF hc hm
 apply w_skip
 obtain ⟨y8,hy8,hm⟩:=bindE hm
 refine s_reg [(vW [vI y8.1,vI y8.2])] [4,5] (fS [4,5] [vI y8.1,vI y8.2]) [rB 51 [vS s] (vW [vI y8.1,vI y8.2])] H5 (by kernel_rfl) ⟨((r25_Find_ok m _ _ hy8).b),trivial⟩ fun _ _ H10 hb => ?_
 replace hS:=hS.below hb
 apply w_seq
 refine s_reg [] [4,5,14] (fS [4,5,14] [vI y8.1,vI y8.2,vB (y8.2 != 0)]) [] H10 (by kernel_rfl) trivial fun _ _ H12 hb => ?_
 replace hS:=hS.below hb
 refine w_if H12 rfl (fun hc => ?c23) (fun hc => ?_)
 case c23 =>
  replace hm:=bT hc hm
  refine s_reg [] [2,3] (fS [2,3] [vF,vI y8.2]) [] H12 (by kernel_rfl) trivial fun _ _ H14 hb => ?_
  replace hS:=hS.below hb
  apply w_ret
  obtain rfl:=someE hm
  exact retR2 H14 rfl rfl rfl ⟨_,rfl,rfl,(hS.sel [] rfl)⟩
 replace hm:=bF hc hm
 apply w_skip
 apply w_seq
 apply wl_start
 obtain ⟨y15,hy15,hm⟩:=bindE hm
 have hd:=hS.hand [] [] rfl rfl
 refine m_stp [16,4] [(4,[],vI y8.1)] H12 rfl rfl rfl rfl (o_callx H12 rfl rfl (r25_Table_ok _ hy15 _ _ hd)) (fun _ => rfl) fun _ _ v H19 hq => ?_
 obtain ⟨g16,rfl,hq⟩:=hq
 replace hS : SH M X w [eO 77 tyProp y15 g16] _:=hS.join [] [] rfl rfl hq
 obtain ⟨ho20,hm⟩:=chkE hm
 refine wl_batch 1 7 [(vB ((gi y15 y8.1).Inherited))] [2,3] (fS [2,3] [vB ((gi y15 y8.1).Inherited),vI 0]) [fun _ => oka g16.a ∧ 0 ≤ y8.1 ∧ y8.1 < ln y15,fun wz => V.at1 ⟨ab g16.a,ao g16.a + (y8.1).toNat * 12 + 1,none⟩ (vB ((gi y15 y8.1).Inherited)) wz] H19 (by decide) (by kernel_rfl) ⟨((hS.osl 0 rfl).oki ho20),((hS.osl 0 rfl).at1 ho20 1 rfl),trivial⟩ fun _ _ H22 hb => ?_
 replace hS:=hS.below hb
 apply wl_end rfl
 replace hS : SH M X w [] _:=hS.sel [] rfl
 apply w_ret
 obtain rfl:=someE hm
 exact retR2 H22 rfl rfl rfl ⟨_,rfl,rfl,(hS.sel [] rfl)⟩
theorem r25_Inherited_ok  (m : Nat) (s : Str) (r : Bool × Int) (hm : r25_Inherited m s = some r) : Ret Tryz.prog 28 ⟨[vS s]⟩ (vW [vB r.1,vI r.2]):=retP_of (Tryz.call28 _) (fun w h => r25_Inherited_w F0 m   s r hm w h)

def r04_shaped_S (rec_ : (List TValue) → Int → Option (Bool)) : Prop:=∀ (g_v_ : Gh) (M : Av) (v_ : List TValue) (closer : Int) (r : Bool),rec_ v_ closer = some r → ∀ w,S0 M [eI tyValue v_ g_v_] w → Calls Tryz.prog 85 ⟨[vL g_v_ v_,vU closer]⟩ w (fun e w' => ∃ v,e = .returned v ∧ v = vB r ∧ SH M (fpl [eI tyValue v_ g_v_]) w [] w')
theorem r04_shaped_w (m : Nat) : ∀ (k : Nat),r04_shaped_S (r04_shaped_r m  k):=by
 intro k
 induction k with
 | zero => intro g_v_ M v_ closer r hm; exact noneE hm
 | succ k ih =>
  intro g_v_ M v_ closer r hm w hS
  rw [r04_shaped_r] at hm
  have hS0 : SH M (fpl [eI tyValue v_ g_v_]) w [eI tyValue v_ g_v_] w:=hS
  generalize hX : fpl [eI tyValue v_ g_v_] = X at hS0 ⊢
  clear hS hX
  have hS:=hS0
  clear hS0
  refine calls_entryP Tryz.func85 rfl Tryz.ntmps85 rfl fun _ H => ?_
  refine s_reg [] [0,1] (fS [0,1] [vL g_v_ v_,vU closer]) [] H (by kernel_rfl) trivial fun _ _ H2 hb => ?_
  replace hS:=hS.below hb
  obtain ⟨z3,hz,hm_z3⟩:=bindE hm
  refine w_cut (fun a' w' => ∃ s_z3 : Unit,z3 = Sum.inr s_z3 ∧ Fr 59 [] a' ∧ SH M X w [eI tyValue v_ g_v_] w') ?_ ?_
  ·replace hm:=hz
   refine s_reg [] [0,1,5] (fS [0,1,5] [vL g_v_ v_,vU closer,vI 0]) [] H2 (by kernel_rfl) trivial fun _ _ H5 hb => ?_
   replace hS:=hS.below hb
   apply w_block
   refine w_loop (fun kk a' w' => ∃ (v6 : Int),r04_shaped_L1 m v_ closer (r04_shaped_r m k) kk v6 = some _ ∧ Fr 59 (fS [0,1,5] [vL g_v_ v_,vU closer,vI v6]) a' ∧ SH M X w [eI tyValue v_ g_v_] w') ⟨_,0,hm,FrG.keep (ks:=[0,1,5]) H5 (by kernel_rfl),hS⟩ ?_
   clear hm H5 hS
   rintro kk _ _ ⟨v6,hm,H,hS⟩
   cases kk with
   | zero => exact noneE hm
   | succ kk =>
    rw [r04_shaped_L1] at hm
    apply w_seq
    refine s_reg [] [0,1,5,10] (fS [0,1,5,10] [vL g_v_ v_,vU closer,vI v6,vB (decide (v6 < (ln v_)))]) [] H (by kernel_rfl) trivial fun _ _ H8 hb => ?_
    replace hS:=hS.below hb
    refine w_if H8 rfl (fun hc => ?_) (fun hc => ?c24)
    case c24 =>
     replace hm:=bF hc hm
     apply w_exit rfl
     obtain rfl:=someE hm
     exact ⟨_,rfl,FrG.keep (ks:=[]) H8 (by kernel_rfl),hS⟩
    replace hm:=bT hc hm
    apply w_skip
    apply w_seq
    apply w_block
    obtain ⟨ho9,hm⟩:=chkE hm
    refine s_reg [(vU ((gi v_ v6).Token.Kind)),(vU (r04_Closer ((gi v_ v6).Token.Kind)))] [0,1,5,6] (fS [0,1,5,6] [vL g_v_ v_,vU closer,vI v6,vU (r04_Closer ((gi v_ v6).Token.Kind))]) [fun _ => oka g_v_.a ∧ 0 ≤ v6 ∧ v6 < ln v_,fun wz => V.at1 ⟨ab g_v_.a,ao g_v_.a + (v6).toNat * 6,none⟩ (vU ((gi v_ v6).Token.Kind)) wz,rB 66 [vU ((gi v_ v6).Token.Kind)] (vU (r04_Closer ((gi v_ v6).Token.Kind)))] H8 (by kernel_rfl) ⟨((hS.im 0 rfl).oki ho9),((hS.im 0 rfl).at1 ho9 0 rfl),((r04_Closer_ok _).b),trivial⟩ fun _ _ H11 hb => ?_
    replace hS:=hS.below hb
    obtain ⟨x12,hx12,hm⟩:=letE hm
    obtain ⟨x13,hx13,hm⟩:=letE hm
    obtain ⟨x14,hx14,hm⟩:=letE hm
    obtain ⟨y15,hy15,hm⟩:=bindE hm
    obtain ⟨x16,hx16,hm⟩:=letE hm
    refine s_reg [(.slice (g_v_.s (v6).toNat 0).a (((gi v_ v6).List_).length) (g_v_.s (v6).toNat 0).c),(vU ((gi v_ v6).Token.Kind)),(.slice (g_v_.s (v6).toNat 0).a (((gi v_ v6).List_).length) (g_v_.s (v6).toNat 0).c),(vB y15)] [0,1,5,58] (fS [0,1,5,58] [vL g_v_ v_,vU closer,vI v6,vB x16]) [fun _ => (x12 = true ∧ True → oka g_v_.a ∧ 0 ≤ v6 ∧ v6 < ln v_),fun wz => (x12 = true ∧ True → V.at1 ⟨ab g_v_.a,ao g_v_.a + (v6).toNat * 6 + 5,none⟩ (.slice (g_v_.s (v6).toNat 0).a (((gi v_ v6).List_).length) (g_v_.s (v6).toNat 0).c) wz),fun _ => ((closer != 0) = true ∧ x13 = false ∧ True → oka g_v_.a ∧ 0 ≤ v6 ∧ v6 < ln v_),fun wz => ((closer != 0) = true ∧ x13 = false ∧ True → V.at1 ⟨ab g_v_.a,ao g_v_.a + (v6).toNat * 6,none⟩ (vU ((gi v_ v6).Token.Kind)) wz),fun _ => (((r04_Closer ((gi v_ v6).Token.Kind)) != 0) = true ∧ x14 = false ∧ True → oka g_v_.a ∧ 0 ≤ v6 ∧ v6 < ln v_),fun wz => (((r04_Closer ((gi v_ v6).Token.Kind)) != 0) = true ∧ x14 = false ∧ True → V.at1 ⟨ab g_v_.a,ao g_v_.a + (v6).toNat * 6 + 5,none⟩ (.slice (g_v_.s (v6).toNat 0).a (((gi v_ v6).List_).length) (g_v_.s (v6).toNat 0).c) wz),fun wz => (((r04_Closer ((gi v_ v6).Token.Kind)) != 0) = true ∧ x14 = false ∧ True → RetB Tryz.prog 85 ⟨[.slice (g_v_.s (v6).toNat 0).a (((gi v_ v6).List_).length) (g_v_.s (v6).toNat 0).c,vU (r04_Closer ((gi v_ v6).Token.Kind))]⟩ (vB y15) wz)] H11 (by subst hx12 hx13 hx14 hx16; kernel_rfl) ⟨fun hg => (hS.im 0 rfl).oki ho9,fun hg => (hS.im 0 rfl).at1 ho9 5 rfl,fun hg => (hS.im 0 rfl).oki ho9,fun hg => (hS.im 0 rfl).at1 ho9 0 rfl,fun hg => (hS.im 0 rfl).oki ho9,fun hg => (hS.im 0 rfl).at1 ho9 5 rfl,fun hg => retB_of (s0im s0nil (tyValue_i0 ((hS.im 0 rfl).el ho9))) (Tryz.call85 _) (fun w' h' => ih ((g_v_.s (v6).toNat 0)) F0 _ _ _ (bT (hg.1) (bF (hg.2.1) hy15)) w' h'),trivial⟩ fun _ _ H18 hb => ?_
    replace hS:=hS.below hb
    refine w_if H18 rfl (fun hc => ?_) (fun hc => ?c23)
    case c23 =>
     replace hm:=bF hc hm
     apply w_skip
     refine w_reg [] [0,1,5] (fS [0,1,5] [vL g_v_ v_,vU closer,vI (w64 (v6 + 1))]) [] H18 (by kernel_rfl) trivial fun _ _ H22 hb => ?_
     replace hS:=hS.below hb
     exact ⟨_,Nat.lt_succ_self _,w64 (v6 + 1),hm,FrG.keep (ks:=[0,1,5]) H22 (by kernel_rfl),hS⟩
    replace hm:=bT hc hm
    refine s_reg [] [4] [(4,[],vF)] [] H18 (by kernel_rfl) trivial fun _ _ H20 hb => ?_
    replace hS:=hS.below hb
    apply w_ret
    obtain rfl:=someE hm
    have hm:=hm_z3
    obtain rfl:=someE hm
    exact retR1 H20 rfl rfl ⟨_,rfl,rfl,(hS.sel [] rfl)⟩
  ·rintro _ _ ⟨s_z3,hz,H,hS⟩
   subst hz
   replace hm:=sumR hm_z3
   replace hS : SH M X w [] _:=hS.sel [] rfl
   refine s_reg [] [4] [(4,[],vT)] [] H (by kernel_rfl) trivial fun _ _ H27 hb => ?_
   replace hS:=hS.below hb
   apply w_ret
   obtain rfl:=someE hm
   exact retR1 H27 rfl rfl ⟨_,rfl,rfl,(hS.sel [] rfl)⟩
theorem r04_shaped_ok {g_v_ : Gh} (m : Nat) (v_ : List TValue) (closer : Int) (r : Bool) (hm : r04_shaped m v_ closer = some r) (w : World) (hL : S0 F0 [eI tyValue v_ g_v_] w ∧ fpl [eI tyValue v_ g_v_] = []) : RetB Tryz.prog 85 ⟨[vL g_v_ v_,vU closer]⟩ (vB r) w:=retB_of hL (Tryz.call85 _) (fun w' h => r04_shaped_w m   m g_v_ F0 v_ closer r hm w' h)

theorem r04_Check_w {g_v_ : Gh} (M : Av) (m : Nat) (v_ : List TValue) (r : Int) (hm : r04_Check m v_ = some r) (w : World) (hS : S0 M [eI tyValue v_ g_v_] w) : Calls Tryz.prog 67 ⟨[vL g_v_ v_]⟩ w (fun e w' => ∃ v,e = .returned v ∧ v = vI r ∧ SH M (fpl [eI tyValue v_ g_v_]) w [] w'):=by
 rw [r04_Check] at hm
 have hS0 : SH M (fpl [eI tyValue v_ g_v_]) w [eI tyValue v_ g_v_] w:=hS
 generalize hX : fpl [eI tyValue v_ g_v_] = X at hS0 ⊢
 clear hS hX
 have hS:=hS0
 clear hS0
 refine calls_entryP Tryz.func67 rfl Tryz.ntmps67 rfl fun _ H => ?_
 refine s_reg [] [0] [(0,[],vL g_v_ v_)] [] H (by kernel_rfl) trivial fun _ _ H2 hb => ?_
 replace hS:=hS.below hb
 apply w_seq
 obtain ⟨y3,hy3,hm⟩:=bindE hm
 refine s_reg [(vI y3)] [0,5] (fS [0,5] [vL g_v_ v_,vB (decide (16 < y3))]) [rB 42 [vL g_v_ v_] (vI y3)] H2 (by kernel_rfl) ⟨(r04_Deep_ok (g_v_:=g_v_) m _ _ hy3 _ (s0im s0nil (hS.im 0 rfl))),trivial⟩ fun _ _ H5 hb => ?_
 replace hS:=hS.below hb
 refine w_if H5 rfl (fun hc => ?c28) (fun hc => ?_)
 case c28 =>
  replace hm:=bT hc hm
  refine s_reg [] [2] [(2,[],vI 20)] [] H5 (by kernel_rfl) trivial fun _ _ H7 hb => ?_
  replace hS:=hS.below hb
  replace hS : SH M X w [] _:=hS.sel [] rfl
  apply w_ret
  obtain rfl:=someE hm
  exact retR1 H7 rfl rfl ⟨_,rfl,rfl,(hS.sel [] rfl)⟩
 replace hm:=bF hc hm
 apply w_skip
 apply w_seq
 apply w_seq
 apply wl_start
 refine wl_batch 0 1 [] [0,6] (fS [0,6] [vL g_v_ v_,vL g_v_ v_]) [] H5 (by decide) (by kernel_rfl) trivial fun _ _ H9 hb => ?_
 replace hS:=hS.below hb
 obtain ⟨y10,hy10,hm⟩:=bindE hm
 have hd:=hS.hand [0] [0] rfl rfl
 refine m_stp [7,0] [(0,[],vL g_v_ v_)] H9 rfl rfl rfl rfl (o_callx H9 rfl rfl (r04_Tokens_ok (g_v_:=g_v_) m _ _ hy10 _ _ hd)) (fun _ => rfl) fun _ _ v H14 hq => ?_
 obtain ⟨g11,rfl,hq⟩:=hq
 replace hS : SH M X w [eO 61 tyToken y10 g11,eI tyValue v_ g_v_] _:=hS.join [0] [0] rfl rfl hq
 refine wl_batch 2 4 [] [0,9] (fS [0,9] [vL g_v_ v_,vB (decide (1500 < (ln y10)))]) [] H14 (by decide) (by kernel_rfl) trivial fun _ _ H16 hb => ?_
 replace hS:=hS.below hb
 apply wl_end rfl
 replace hS : SH M X w [eI tyValue v_ g_v_] _:=hS.sel [1] rfl
 refine w_if H16 rfl (fun hc => ?c27) (fun hc => ?_)
 case c27 =>
  replace hm:=bT hc hm
  refine s_reg [] [2] [(2,[],vI 4)] [] H16 (by kernel_rfl) trivial fun _ _ H18 hb => ?_
  replace hS:=hS.below hb
  replace hS : SH M X w [] _:=hS.sel [] rfl
  apply w_ret
  obtain rfl:=someE hm
  exact retR1 H18 rfl rfl ⟨_,rfl,rfl,(hS.sel [] rfl)⟩
 replace hm:=bF hc hm
 apply w_skip
 apply w_seq
 obtain ⟨y19,hy19,hm⟩:=bindE hm
 refine s_reg [(vB y19)] [12] [(12,[],vB (!y19))] [rB 85 [vL g_v_ v_,vU 0] (vB y19)] H16 (by kernel_rfl) ⟨(r04_shaped_ok (g_v_:=g_v_) m _ _ _ hy19 _ (s0im s0nil (hS.im 0 rfl))),trivial⟩ fun _ _ H21 hb => ?_
 replace hS:=hS.below hb
 replace hS : SH M X w [] _:=hS.sel [] rfl
 refine w_if H21 rfl (fun hc => ?c26) (fun hc => ?_)
 case c26 =>
  replace hm:=bT hc hm
  refine s_reg [] [2] [(2,[],vI 8)] [] H21 (by kernel_rfl) trivial fun _ _ H23 hb => ?_
  replace hS:=hS.below hb
  apply w_ret
  obtain rfl:=someE hm
  exact retR1 H23 rfl rfl ⟨_,rfl,rfl,(hS.sel [] rfl)⟩
 replace hm:=bF hc hm
 apply w_skip
 refine s_reg [] [2] [(2,[],vI 0)] [] H21 (by kernel_rfl) trivial fun _ _ H25 hb => ?_
 replace hS:=hS.below hb
 apply w_ret
 obtain rfl:=someE hm
 exact retR1 H25 rfl rfl ⟨_,rfl,rfl,(hS.sel [] rfl)⟩
theorem r04_Check_ok {g_v_ : Gh} (m : Nat) (v_ : List TValue) (r : Int) (hm : r04_Check m v_ = some r) (w : World) (hL : S0 F0 [eI tyValue v_ g_v_] w ∧ fpl [eI tyValue v_ g_v_] = []) : RetB Tryz.prog 67 ⟨[vL g_v_ v_]⟩ (vI r) w:=retB_of hL (Tryz.call67 _) (fun w' h => r04_Check_w F0 m   v_ r hm w' h)

theorem r27_longs_w  (M : Av) (name_ : Str) (r : List Str) (hm : r27_longs name_ = some r) (w : World) (hS : S0 M [] w) : Calls Tryz.prog 97 ⟨[vS name_]⟩ w (fun e w' => ∃ v,e = .returned v ∧ ∃ (g901 : Gh),v = vL g901 r ∧ SH M (fpl []) w [eO 9 tS r g901] w'):=by
 rw [r27_longs] at hm
 have hS0 : SH M (fpl []) w [] w:=hS
 generalize hX : fpl [] = X at hS0 ⊢
 clear hS hX
 have hS:=hS0
 clear hS0
 refine calls_entryP Tryz.func97 rfl Tryz.ntmps97 rfl fun _ H => ?_
 refine s_reg [] [0] [(0,[],vS name_)] [] H (by kernel_rfl) trivial fun _ _ H2 hb => ?_
 replace hS:=hS.below hb
 apply w_seq
 refine s_reg [] [0,3] (fS [0,3] [vS name_,vS name_]) [] H2 (by kernel_rfl) trivial fun _ _ H4 hb => ?_
 replace hS:=hS.below hb
 apply w_block
 refine s_reg [] [0,3,4] (fS [0,3,4] [vS name_,vS name_,vB (name_ == [109,97,114,103,105,110])]) [] H4 (by kernel_rfl) trivial fun _ _ H6 hb => ?_
 replace hS:=hS.below hb
 refine w_if H6 rfl (fun hc => ?c38) (fun hc => ?_)
 case c38 =>
  replace hm:=bT hc hm
  apply w_seq
  apply wl_start
  have hd:=hS.hand [] [] rfl rfl
  refine m_stp [6] [] H6 rfl rfl rfl rfl (o_lit (T:=tS) (E:=9) (zv:=vN) [vS [109,97,114,103,105,110,45,116,111,112],vS [109,97,114,103,105,110,45,114,105,103,104,116],vS [109,97,114,103,105,110,45,98,111,116,116,111,109],vS [109,97,114,103,105,110,45,108,101,102,116]] kL10 [gL [],gL [],gL [],gL []] _ H6 hd rfl (by kernel_rfl) (by kernel_rfl) (by kernel_rfl) (by kernel_rfl) (by kernel_rfl) (by kernel_rfl) (by kernel_rfl) rfl (InnL.cons trivial (InnL.cons trivial (InnL.cons trivial (InnL.cons trivial InnL.nil))))) (fun _ => rfl) fun _ _ v H10 hq => ?_
  obtain ⟨g7,rfl,hq⟩:=hq
  replace hS : SH M X w [eO 9 tS kL10 g7] _:=hS.join [] [] rfl rfl hq
  refine wl_batch 1 2 [] [2] [(2,[],vK g7 4)] [] H10 (by decide) (by kernel_rfl) trivial fun _ _ H12 hb => ?_
  replace hS:=hS.below hb
  apply wl_end rfl
  apply w_ret
  obtain rfl:=someE hm
  exact retR1 H12 rfl rfl ⟨_,rfl,g7,rfl,(hS.sel [0] rfl)⟩
 replace hm:=bF hc hm
 obtain ⟨z13,hz,hm⟩:=bindE hm
 refine w_cut (fun a' w' => Fr 14 (fS [0,7] [vS name_,vB z13]) a' ∧ SH M X w [] w') ?_ ?_
 ·replace hm:=hz
  refine s_reg [] [0,3,7] (fS [0,3,7] [vS name_,vS name_,vB (name_ == [98,111,114,100,101,114])]) [] H6 (by kernel_rfl) trivial fun _ _ H15 hb => ?_
  replace hS:=hS.below hb
  refine w_if H15 rfl (fun hc => ?c23) (fun hc => ?_)
  case c23 =>
   replace hm:=bT hc hm
   apply w_skip
   obtain rfl:=someE hm
   exact ⟨FrG.keep (ks:=[0,7]) H15 (by kernel_rfl),hS⟩
  replace hm:=bF hc hm
  obtain ⟨x16,hx16,hm⟩:=letE hm
  refine s_reg [] [0,3,7] (fS [0,3,7] [vS name_,vS name_,vB x16]) [] H15 (by subst hx16; kernel_rfl) trivial fun _ _ H18 hb => ?_
  replace hS:=hS.below hb
  refine w_if H18 rfl (fun hc => ?c22) (fun hc => ?_)
  case c22 =>
   replace hm:=bT hc hm
   apply w_skip
   obtain rfl:=someE hm
   exact ⟨FrG.keep (ks:=[0,7]) H18 (by kernel_rfl),hS⟩
  replace hm:=bF hc hm
  obtain ⟨x19,hx19,hm⟩:=letE hm
  refine w_reg [] [0,7] (fS [0,7] [vS name_,vB x19]) [] H18 (by subst hx19; kernel_rfl) trivial fun _ _ H21 hb => ?_
  replace hS:=hS.below hb
  obtain rfl:=someE hm
  exact ⟨FrG.keep (ks:=[0,7]) H21 (by kernel_rfl),hS⟩
 ·rintro _ _ ⟨H,hS⟩
  refine w_if H rfl (fun hc => ?_) (fun hc => ?c36)
  case c36 =>
   replace hm:=bF hc hm
   apply w_skip
   refine s_reg [] [2] [(2,[],vO)] [] H (by kernel_rfl) trivial fun _ _ H34 hb => ?_
   replace hS:=hS.below hb
   apply w_ret
   obtain rfl:=someE hm
   replace hS : SH M X w [eO 9 tS ([] : List Str) (.nil)] _:=hS.addNil 9 tS
   exact retR1 H34 rfl rfl ⟨_,rfl,Gh.nil,rfl,(hS.sel [0] rfl)⟩
  replace hm:=bT hc hm
  apply w_seq
  apply wl_start
  obtain ⟨ho24,hm⟩:=chkE hm
  refine wl_batch 0 2 [] [12] [(12,[],vS (name_ ++ [45,99,111,108,111,114]))] [fun _ => ln name_ + ln [45,99,111,108,111,114] ≤ 9223372036854775807] H (by decide) (by kernel_rfl) ⟨ho24,trivial⟩ fun _ _ H26 hb => ?_
  replace hS:=hS.below hb
  have hd:=hS.hand [] [] rfl rfl
  refine m_stp [13] [] H26 rfl rfl rfl rfl (o_lit (T:=tS) (E:=9) (zv:=vN) [vS (name_ ++ [45,99,111,108,111,114])] ([name_ ++ [45,99,111,108,111,114]] : List Str) [gL []] _ H26 hd rfl (by kernel_rfl) (by kernel_rfl) (by kernel_rfl) (by kernel_rfl) (by kernel_rfl) (by kernel_rfl) (by kernel_rfl) rfl (InnL.cons trivial InnL.nil)) (fun _ => rfl) fun _ _ v H30 hq => ?_
  obtain ⟨g27,rfl,hq⟩:=hq
  replace hS : SH M X w [eO 9 tS ([name_ ++ [45,99,111,108,111,114]] : List Str) g27] _:=hS.join [] [] rfl rfl hq
  refine wl_batch 3 4 [] [2] [(2,[],vK g27 1)] [] H30 (by decide) (by kernel_rfl) trivial fun _ _ H32 hb => ?_
  replace hS:=hS.below hb
  apply wl_end rfl
  apply w_ret
  obtain rfl:=someE hm
  exact retR1 H32 rfl rfl ⟨_,rfl,g27,rfl,(hS.sel [0] rfl)⟩
theorem r27_longs_ok  (name_ : Str) (r : List Str) (hm : r27_longs name_ = some r) (M : Av) (w : World) (hS : S0 M [] w) : DoesX Tryz.prog 97 ⟨[vS name_]⟩ w (fun v w' => ∃ (g901 : Gh),v = vL g901 r ∧ SH M (fpl []) w [eO 9 tS r g901] w'):=⟨Tryz.call97 _,r27_longs_w M   name_ r hm w hS⟩

theorem r27_Longs_w  (M : Av) (m : Nat) (name_ : Str) (r : (List Str) × Int) (hm : r27_Longs m name_ = some r) (w : World) (hS : S0 M [] w) : Calls Tryz.prog 86 ⟨[vS name_]⟩ w (fun e w' => ∃ v,e = .returned v ∧ ∃ (g901 : Gh),v = vW [vL g901 r.1,vI r.2] ∧ SH M (fpl []) w [eO 9 tS r.1 g901] w'):=by
 rw [r27_Longs] at hm
 have hS0 : SH M (fpl []) w [] w:=hS
 generalize hX : fpl [] = X at hS0 ⊢
 clear hS hX
 have hS:=hS0
 clear hS0
 refine calls_entryP Tryz.func86 rfl Tryz.ntmps86 rfl fun _ H => ?_
 refine s_reg [] [0] [(0,[],vS name_)] [] H (by kernel_rfl) trivial fun _ _ H2 hb => ?_
 replace hS:=hS.below hb
 apply w_seq
 apply w_seq
 apply wl_start
 refine wl_batch 0 1 [] [0,7] (fS [0,7] [vS name_,vS name_]) [] H2 (by decide) (by kernel_rfl) trivial fun _ _ H4 hb => ?_
 replace hS:=hS.below hb
 obtain ⟨y5,hy5,hm⟩:=bindE hm
 have hd:=hS.hand [] [] rfl rfl
 refine m_stp [8,0] [(0,[],vS name_)] H4 rfl rfl rfl rfl (o_callx H4 rfl rfl (r27_longs_ok _ _ hy5 _ _ hd)) (fun _ => rfl) fun _ _ v H9 hq => ?_
 obtain ⟨g6,rfl,hq⟩:=hq
 replace hS : SH M X w [eO 9 tS y5 g6] _:=hS.join [] [] rfl rfl hq
 refine wl_batch 2 3 [] [0,4] (fS [0,4] [vS name_,vL g6 y5]) [] H9 (by decide) (by kernel_rfl) trivial fun _ _ H11 hb => ?_
 replace hS:=hS.below hb
 apply wl_end rfl
 refine s_reg [] [0,4,11] (fS [0,4,11] [vS name_,vL g6 y5,vB (decide (0 < (ln y5)))]) [] H11 (by kernel_rfl) trivial fun _ _ H13 hb => ?_
 replace hS:=hS.below hb
 refine w_if H13 rfl (fun hc => ?c33) (fun hc => ?_)
 case c33 =>
  replace hm:=bT hc hm
  refine s_reg [] [2,3] (fS [2,3] [vL g6 y5,vI 0]) [] H13 (by kernel_rfl) trivial fun _ _ H15 hb => ?_
  replace hS:=hS.below hb
  apply w_ret
  obtain rfl:=someE hm
  exact retR2 H15 rfl rfl rfl ⟨_,rfl,g6,rfl,(hS.sel [0] rfl)⟩
 replace hm:=bF hc hm
 apply w_skip
 apply w_seq
 obtain ⟨y16,hy16,hm⟩:=bindE hm
 refine s_reg [(vW [vB y16.1,vI y16.2])] [0,6] (fS [0,6] [vS name_,vI y16.2]) [rB 28 [vS name_] (vW [vB y16.1,vI y16.2])] H13 (by kernel_rfl) ⟨((r25_Inherited_ok 64 _ _ hy16).b),trivial⟩ fun _ _ H18 hb => ?_
 replace hS:=hS.below hb
 replace hS : SH M X w [] _:=hS.sel [] rfl
 refine s_reg [] [0,19] (fS [0,19] [vS name_,vB (y16.2 != 0)]) [] H18 (by kernel_rfl) trivial fun _ _ H20 hb => ?_
 replace hS:=hS.below hb
 refine w_if H20 rfl (fun hc => ?c32) (fun hc => ?_)
 case c32 =>
  replace hm:=bT hc hm
  refine s_reg [] [2,3] (fS [2,3] [vO,vI 6]) [] H20 (by kernel_rfl) trivial fun _ _ H22 hb => ?_
  replace hS:=hS.below hb
  apply w_ret
  obtain rfl:=someE hm
  replace hS : SH M X w [eO 9 tS ([] : List Str) (.nil)] _:=hS.addNil 9 tS
  exact retR2 H22 rfl rfl rfl ⟨_,rfl,Gh.nil,rfl,(hS.sel [0] rfl)⟩
 replace hm:=bF hc hm
 apply w_skip
 apply w_seq
 apply wl_start
 refine wl_batch 0 1 [] [20] [(20,[],vS name_)] [] H20 (by decide) (by kernel_rfl) trivial fun _ _ H25 hb => ?_
 replace hS:=hS.below hb
 have hd:=hS.hand [] [] rfl rfl
 refine m_stp [21] [] H25 rfl rfl rfl rfl (o_lit (T:=tS) (E:=9) (zv:=vN) [vS name_] ([name_] : List Str) [gL []] _ H25 hd rfl (by kernel_rfl) (by kernel_rfl) (by kernel_rfl) (by kernel_rfl) (by kernel_rfl) (by kernel_rfl) (by kernel_rfl) rfl (InnL.cons trivial InnL.nil)) (fun _ => rfl) fun _ _ v H29 hq => ?_
 obtain ⟨g26,rfl,hq⟩:=hq
 replace hS : SH M X w [eO 9 tS ([name_] : List Str) g26] _:=hS.join [] [] rfl rfl hq
 refine wl_batch 2 4 [] [2,3] (fS [2,3] [vK g26 1,vI 0]) [] H29 (by decide) (by kernel_rfl) trivial fun _ _ H31 hb => ?_
 replace hS:=hS.below hb
 apply wl_end rfl
 apply w_ret
 obtain rfl:=someE hm
 exact retR2 H31 rfl rfl rfl ⟨_,rfl,g26,rfl,(hS.sel [0] rfl)⟩
theorem r27_Longs_ok  (m : Nat) (name_ : Str) (r : (List Str) × Int) (hm : r27_Longs m name_ = some r) (M : Av) (w : World) (hS : S0 M [] w) : DoesX Tryz.prog 86 ⟨[vS name_]⟩ w (fun v w' => ∃ (g901 : Gh),v = vW [vL g901 r.1,vI r.2] ∧ SH M (fpl []) w [eO 9 tS r.1 g901] w'):=⟨Tryz.call86 _,r27_Longs_w M m   name_ r hm w hS⟩

theorem r29_whole_w {g_x__0 : Gh} (M : Av) (m : Nat) (x_ : TLong) (r : Bool) (hm : r29_whole m x_ = some r) (w : World) (hS : S0 M [eI tyValue x_.Value g_x__0] w) : Calls Tryz.prog 68 ⟨[vG [vS x_.Name,vL g_x__0 x_.Value,vS x_.Whole]]⟩ w (fun e w' => ∃ v,e = .returned v ∧ v = vB r ∧ SH M (fpl [eI tyValue x_.Value g_x__0]) w [] w'):=by
 rw [r29_whole] at hm
 have hS0 : SH M (fpl [eI tyValue x_.Value g_x__0]) w [eI tyValue x_.Value g_x__0] w:=hS
 generalize hX : fpl [eI tyValue x_.Value g_x__0] = X at hS0 ⊢
 clear hS hX
 have hS:=hS0
 clear hS0
 refine calls_entryP Tryz.func68 rfl Tryz.ntmps68 rfl fun _ H => ?_
 apply w_seq
 apply wl_start
 have hd:=hS.hand [] [0] rfl rfl
 refine m_stp [1] [] H rfl rfl rfl rfl (o_box [vS x_.Name,vL g_x__0 x_.Value,vS x_.Whole] H hd rfl rfl) (fun _ => rfl) fun _ _ v H3 hq => ?_
 obtain ⟨b1,rfl,hq⟩:=hq
 replace hS : SH M X w [eB b1 [vS x_.Name,vL g_x__0 x_.Value,vS x_.Whole],eI tyValue x_.Value g_x__0] _:=hS.join [] [0] rfl rfl hq
 refine wl_batch 1 2 [] [1] [(1,[],vP b1)] [] H3 (by decide) (by kernel_rfl) trivial fun _ _ H5 hb => ?_
 replace hS:=hS.below hb
 apply wl_end rfl
 apply w_seq
 refine s_reg [(vS x_.Whole)] [1,8] (fS [1,8] [vP b1,vB (x_.Whole == [])]) [rA b1 2 (vS x_.Whole)] H5 (by kernel_rfl) ⟨((hS.bk 0 rfl).at1 rfl),trivial⟩ fun _ _ H7 hb => ?_
 replace hS:=hS.below hb
 refine w_if H7 rfl (fun hc => ?c44) (fun hc => ?_)
 case c44 =>
  replace hm:=bT hc hm
  refine s_reg [] [2] [(2,[],vT)] [] H7 (by kernel_rfl) trivial fun _ _ H9 hb => ?_
  replace hS:=hS.below hb
  replace hS : SH M X w [] _:=hS.sel [] rfl
  apply w_ret
  obtain rfl:=someE hm
  exact retR1 H9 rfl rfl ⟨_,rfl,rfl,(hS.sel [] rfl)⟩
 replace hm:=bF hc hm
 apply w_skip
 apply w_seq
 refine s_reg [(vS x_.Whole),(vS x_.Name)] [1,13] (fS [1,13] [vP b1,vB (x_.Whole == x_.Name)]) [rA b1 2 (vS x_.Whole),rA b1 0 (vS x_.Name)] H7 (by kernel_rfl) ⟨((hS.bk 0 rfl).at1 rfl),((hS.bk 0 rfl).at1 rfl),trivial⟩ fun _ _ H11 hb => ?_
 replace hS:=hS.below hb
 refine w_if H11 rfl (fun hc => ?c43) (fun hc => ?_)
 case c43 =>
  replace hm:=bT hc hm
  refine s_reg [] [2] [(2,[],vF)] [] H11 (by kernel_rfl) trivial fun _ _ H13 hb => ?_
  replace hS:=hS.below hb
  replace hS : SH M X w [] _:=hS.sel [] rfl
  apply w_ret
  obtain rfl:=someE hm
  exact retR1 H13 rfl rfl ⟨_,rfl,rfl,(hS.sel [] rfl)⟩
 replace hm:=bF hc hm
 apply w_skip
 apply w_seq
 apply wl_start
 refine wl_batch 0 2 [(vS x_.Whole)] [1,16] (fS [1,16] [vP b1,vS x_.Whole]) [rA b1 2 (vS x_.Whole)] H11 (by decide) (by kernel_rfl) ⟨((hS.bk 0 rfl).at1 rfl),trivial⟩ fun _ _ H15 hb => ?_
 replace hS:=hS.below hb
 obtain ⟨y16,hy16,hm⟩:=bindE hm
 have hd:=hS.hand [] [0,1] rfl rfl
 refine m_stp [17,1] [(1,[],vP b1)] H15 rfl rfl rfl rfl (o_callx H15 rfl rfl (r27_Longs_ok 64 _ _ hy16 _ _ hd)) (fun _ => rfl) fun _ _ v H20 hq => ?_
 obtain ⟨g17,rfl,hq⟩:=hq
 replace hS : SH M X w [eO 9 tS y16.1 g17,eB b1 [vS x_.Name,vL g_x__0 x_.Value,vS x_.Whole],eI tyValue x_.Value g_x__0] _:=hS.join [] [0,1] rfl rfl hq
 refine wl_batch 3 8 [] [1,3,4] (fS [1,3,4] [vP b1,vL g17 y16.1,vI y16.2]) [] H20 (by decide) (by kernel_rfl) trivial fun _ _ H22 hb => ?_
 replace hS:=hS.below hb
 apply wl_end rfl
 obtain ⟨z23,hz,hm_z23⟩:=bindE hm
 refine w_cut (fun a' w' => ∃ s_z23 : Unit,z23 = Sum.inr s_z23 ∧ Fr 37 [] a' ∧ SH M X w [eO 9 tS y16.1 g17,eB b1 [vS x_.Name,vL g_x__0 x_.Value,vS x_.Whole],eI tyValue x_.Value g_x__0] w') ?_ ?_
 ·replace hm:=hz
  refine s_reg [] [1,3,4,5] (fS [1,3,4,5] [vP b1,vL g17 y16.1,vI y16.2,vI 0]) [] H22 (by kernel_rfl) trivial fun _ _ H25 hb => ?_
  replace hS:=hS.below hb
  apply w_block
  refine w_loop (fun kk a' w' => ∃ (v26 : Int),r29_whole_L1 m x_ y16 kk v26 = some _ ∧ Fr 37 (fS [1,3,4,5] [vP b1,vL g17 y16.1,vI y16.2,vI v26]) a' ∧ SH M X w [eO 9 tS y16.1 g17,eB b1 [vS x_.Name,vL g_x__0 x_.Value,vS x_.Whole],eI tyValue x_.Value g_x__0] w') ⟨_,0,hm,FrG.keep (ks:=[1,3,4,5]) H25 (by kernel_rfl),hS⟩ ?_
  clear hm H25 hS
  rintro kk _ _ ⟨v26,hm,H,hS⟩
  cases kk with
  | zero => exact noneE hm
  | succ kk =>
   rw [r29_whole_L1] at hm
   apply w_seq
   obtain ⟨x27,hx27,hm⟩:=letE hm
   refine s_reg [] [1,3,4,5,27] (fS [1,3,4,5,27] [vP b1,vL g17 y16.1,vI y16.2,vI v26,vB x27]) [] H (by subst hx27; kernel_rfl) trivial fun _ _ H29 hb => ?_
   replace hS:=hS.below hb
   refine w_if H29 rfl (fun hc => ?_) (fun hc => ?c38)
   case c38 =>
    replace hm:=bF hc hm
    apply w_exit rfl
    obtain rfl:=someE hm
    exact ⟨_,rfl,FrG.keep (ks:=[]) H29 (by kernel_rfl),hS⟩
   replace hm:=bT hc hm
   apply w_skip
   apply w_seq
   apply w_block
   obtain ⟨ho30,hm⟩:=chkE hm
   refine s_draw [(vS (gi y16.1 v26)),(vS x_.Name)] [1,3,4,5,36] (fS [1,3,4,5,36] [vP b1,vL g17 y16.1,vI y16.2,vI v26,vB ((gi y16.1 v26) == x_.Name)]) [fun _ => oka g17.a ∧ 0 ≤ v26 ∧ v26 < ln y16.1,fun wz => V.at1 ⟨ab g17.a,ao g17.a + (v26).toNat * 1,none⟩ (vS (gi y16.1 v26)) wz,rA b1 0 (vS x_.Name)] H29 (by kernel_rfl) (by kernel_rfl) (by kernel_rfl) ⟨((hS.osl 0 rfl).oki ho30),((hS.osl 0 rfl).at1 ho30 0 rfl),((hS.bk 1 rfl).at1 rfl),trivial⟩ fun _ _ H32 hb => ?_
   replace hS:=hS.below hb
   refine w_if H32 rfl (fun hc => ?_) (fun hc => ?c37)
   case c37 =>
    replace hm:=bF hc hm
    apply w_skip
    refine w_reg [] [1,3,4,5] (fS [1,3,4,5] [vP b1,vL g17 y16.1,vI y16.2,vI (w64 (v26 + 1))]) [] H32 (by kernel_rfl) trivial fun _ _ H36 hb => ?_
    replace hS:=hS.below hb
    exact ⟨_,Nat.lt_succ_self _,w64 (v26 + 1),hm,FrG.keep (ks:=[1,3,4,5]) H36 (by kernel_rfl),hS⟩
   replace hm:=bT hc hm
   refine s_reg [] [2] [(2,[],vT)] [] H32 (by kernel_rfl) trivial fun _ _ H34 hb => ?_
   replace hS:=hS.below hb
   apply w_ret
   obtain rfl:=someE hm
   have hm:=hm_z23
   obtain rfl:=someE hm
   exact retR1 H34 rfl rfl ⟨_,rfl,rfl,(hS.sel [] rfl)⟩
 ·rintro _ _ ⟨s_z23,hz,H,hS⟩
  subst hz
  replace hm:=sumR hm_z23
  replace hS : SH M X w [] _:=hS.sel [] rfl
  refine s_reg [] [2] [(2,[],vF)] [] H (by kernel_rfl) trivial fun _ _ H41 hb => ?_
  replace hS:=hS.below hb
  apply w_ret
  obtain rfl:=someE hm
  exact retR1 H41 rfl rfl ⟨_,rfl,rfl,(hS.sel [] rfl)⟩
theorem r29_whole_ok {g_x__0 : Gh} (m : Nat) (x_ : TLong) (r : Bool) (hm : r29_whole m x_ = some r) (w : World) (hL : S0 F0 [eI tyValue x_.Value g_x__0] w ∧ fpl [eI tyValue x_.Value g_x__0] = []) : RetB Tryz.prog 68 ⟨[vG [vS x_.Name,vL g_x__0 x_.Value,vS x_.Whole]]⟩ (vB r) w:=retB_of hL (Tryz.call68 _) (fun w' h => r29_whole_w F0 m   x_ r hm w' h)

theorem r29_in_w  (M : Av) (n_ : Int) (r : Bool) (hm : r29_in n_ = r) (w : World) (hS : S0 M [] w) : Calls Tryz.prog 69 ⟨[vI n_]⟩ w (fun e w' => ∃ v,e = .returned v ∧ v = vB r ∧ SH M (fpl []) w [] w'):=by
 rw [r29_in] at hm
 have hS0 : SH M (fpl []) w [] w:=hS
 generalize hX : fpl [] = X at hS0 ⊢
 clear hS hX
 have hS:=hS0
 clear hS0
 refine calls_entryP Tryz.func69 rfl Tryz.ntmps69 rfl fun _ H => ?_
 refine s_reg [] [0] [(0,[],vI n_)] [] H (by kernel_rfl) trivial fun _ _ H2 hb => ?_
 replace hS:=hS.below hb
 obtain ⟨x3,hx3,hm⟩:=letE hm
 refine s_reg [] [2] [(2,[],vB x3)] [] H2 (by subst hx3; kernel_rfl) trivial fun _ _ H5 hb => ?_
 replace hS:=hS.below hb
 apply w_ret
 subst hm
 exact retR1 H5 rfl rfl ⟨_,rfl,rfl,(hS.sel [] rfl)⟩
theorem r29_in_ok  (n_ : Int) : Ret Tryz.prog 69 ⟨[vI n_]⟩ (vB (r29_in n_)):=retP_of (Tryz.call69 _) (fun w h => r29_in_w F0   n_ _ rfl w h)

theorem r29_Check_w {g_d__0 : Gh} (M : Av) (m : Nat) (d_ : TDeclared) (r : Int) (hm : r29_Check m d_ = some r) (w : World) (hS : S0 M [eI tyValue d_.Long.Value g_d__0] w) : Calls Tryz.prog 43 ⟨[vG [vS d_.Long.Name,vL g_d__0 d_.Long.Value,vS d_.Long.Whole,vB d_.Important,vU d_.Origin,vB d_.Attached,vI d_.Layer,vI d_.Weight.e0,vI d_.Weight.e1,vI d_.Weight.e2,vI d_.Order]]⟩ w (fun e w' => ∃ v,e = .returned v ∧ v = vI r ∧ SH M (fpl [eI tyValue d_.Long.Value g_d__0]) w [] w'):=by
 rw [r29_Check] at hm
 have hS0 : SH M (fpl [eI tyValue d_.Long.Value g_d__0]) w [eI tyValue d_.Long.Value g_d__0] w:=hS
 generalize hX : fpl [eI tyValue d_.Long.Value g_d__0] = X at hS0 ⊢
 clear hS hX
 have hS:=hS0
 clear hS0
 refine calls_entryP Tryz.func43 rfl Tryz.ntmps43 rfl fun _ H => ?_
 apply w_seq
 apply wl_start
 have hd:=hS.hand [] [0] rfl rfl
 refine m_stp [1] [] H rfl rfl rfl rfl (o_box [vS d_.Long.Name,vL g_d__0 d_.Long.Value,vS d_.Long.Whole,vB d_.Important,vU d_.Origin,vB d_.Attached,vI d_.Layer,vI d_.Weight.e0,vI d_.Weight.e1,vI d_.Weight.e2,vI d_.Order] H hd rfl rfl) (fun _ => rfl) fun _ _ v H3 hq => ?_
 obtain ⟨b1,rfl,hq⟩:=hq
 replace hS : SH M X w [eB b1 [vS d_.Long.Name,vL g_d__0 d_.Long.Value,vS d_.Long.Whole,vB d_.Important,vU d_.Origin,vB d_.Attached,vI d_.Layer,vI d_.Weight.e0,vI d_.Weight.e1,vI d_.Weight.e2,vI d_.Order],eI tyValue d_.Long.Value g_d__0] _:=hS.join [] [0] rfl rfl hq
 refine wl_batch 1 2 [] [1] [(1,[],vP b1)] [] H3 (by decide) (by kernel_rfl) trivial fun _ _ H5 hb => ?_
 replace hS:=hS.below hb
 apply wl_end rfl
 apply w_seq
 obtain ⟨y6,hy6,hm⟩:=bindE hm
 refine s_reg [(vS d_.Long.Name),(vW [vB y6.1,vI y6.2])] [1,4] (fS [1,4] [vP b1,vI y6.2]) [rA b1 0 (vS d_.Long.Name),rB 28 [vS d_.Long.Name] (vW [vB y6.1,vI y6.2])] H5 (by kernel_rfl) ⟨((hS.bk 0 rfl).at1 rfl),((r25_Inherited_ok 64 _ _ hy6).b),trivial⟩ fun _ _ H8 hb => ?_
 replace hS:=hS.below hb
 obtain ⟨y9,hy9,hm⟩:=bindE hm
 obtain ⟨y10,hy10,hm⟩:=bindE hm
 obtain ⟨x11,hx11,hm⟩:=letE hm
 refine s_reg [(vL g_d__0 d_.Long.Value),(vI y9),(vG [vS d_.Long.Name,vL g_d__0 d_.Long.Value,vS d_.Long.Whole]),(vB y10)] [1,26] (fS [1,26] [vP b1,vB x11]) [fun wz => ((y6.2 != 0) = false ∧ True → V.at1 ⟨b1,1,none⟩ (vL g_d__0 d_.Long.Value) wz),fun wz => ((y6.2 != 0) = false ∧ True → RetB Tryz.prog 67 ⟨[vL g_d__0 d_.Long.Value]⟩ (vI y9) wz),fun wz => ((cond (y6.2 != 0) true (y9 != 0)) = false ∧ True → V.atN b1 0 [vS d_.Long.Name,vL g_d__0 d_.Long.Value,vS d_.Long.Whole] 0 wz),fun wz => ((cond (y6.2 != 0) true (y9 != 0)) = false ∧ True → RetB Tryz.prog 68 ⟨[vG [vS d_.Long.Name,vL g_d__0 d_.Long.Value,vS d_.Long.Whole]]⟩ (vB y10) wz)] H8 (by subst hx11; kernel_rfl) ⟨fun hg => (hS.bk 0 rfl).at1 rfl,fun hg => r04_Check_ok (g_v_:=g_d__0) m _ _ (bF (hg.1) hy9) _ (s0im s0nil (hS.im 1 rfl)),fun hg => (hS.bk 0 rfl).atD rfl,fun hg => r29_whole_ok (g_x__0:=g_d__0) m _ _ (bF (hg.1) hy10) _ (s0im s0nil (hS.im 1 rfl)),trivial⟩ fun _ _ H13 hb => ?_
 replace hS:=hS.below hb
 refine w_if H13 rfl (fun hc => ?c32) (fun hc => ?_)
 case c32 =>
  replace hm:=bT hc hm
  refine s_reg [] [2] [(2,[],vI 8)] [] H13 (by kernel_rfl) trivial fun _ _ H15 hb => ?_
  replace hS:=hS.below hb
  replace hS : SH M X w [] _:=hS.sel [] rfl
  apply w_ret
  obtain rfl:=someE hm
  exact retR1 H15 rfl rfl ⟨_,rfl,rfl,(hS.sel [] rfl)⟩
 replace hm:=bF hc hm
 apply w_skip
 apply w_seq
 obtain ⟨x16,hx16,hm⟩:=letE hm
 obtain ⟨x17,hx17,hm⟩:=letE hm
 obtain ⟨x18,hx18,hm⟩:=letE hm
 refine s_reg [(vU d_.Origin),(vU d_.Origin),(vI d_.Layer),(vB (r29_in d_.Layer)),(vI d_.Order),(vB (r29_in d_.Order)),(vI d_.Weight.e0),(vB (r29_in d_.Weight.e0)),(vI d_.Weight.e1),(vB (r29_in d_.Weight.e1)),(vI d_.Weight.e2),(vB (r29_in d_.Weight.e2))] [1,67] (fS [1,67] [vP b1,vB (cond x18 true (!(r29_in d_.Weight.e2)))]) [rA b1 4 (vU d_.Origin),fun wz => ((decide (d_.Origin < 1)) = false ∧ True → V.at1 ⟨b1,4,none⟩ (vU d_.Origin) wz),fun wz => (x16 = false ∧ True → V.at1 ⟨b1,6,none⟩ (vI d_.Layer) wz),fun wz => (x16 = false ∧ True → RetB Tryz.prog 69 ⟨[vI d_.Layer]⟩ (vB (r29_in d_.Layer)) wz),fun wz => ((cond x16 true (!(r29_in d_.Layer))) = false ∧ True → V.at1 ⟨b1,10,none⟩ (vI d_.Order) wz),fun wz => ((cond x16 true (!(r29_in d_.Layer))) = false ∧ True → RetB Tryz.prog 69 ⟨[vI d_.Order]⟩ (vB (r29_in d_.Order)) wz),fun _ => (x17 = false ∧ True → 0 ≤ (0 : Int) ∧ (0 : Int) < 3),fun wz => (x17 = false ∧ True → V.at1 ⟨b1,7,none⟩ (vI d_.Weight.e0) wz),fun wz => (x17 = false ∧ True → RetB Tryz.prog 69 ⟨[vI d_.Weight.e0]⟩ (vB (r29_in d_.Weight.e0)) wz),fun _ => ((cond x17 true (!(r29_in d_.Weight.e0))) = false ∧ True → 0 ≤ (1 : Int) ∧ (1 : Int) < 3),fun wz => ((cond x17 true (!(r29_in d_.Weight.e0))) = false ∧ True → V.at1 ⟨b1,8,none⟩ (vI d_.Weight.e1) wz),fun wz => ((cond x17 true (!(r29_in d_.Weight.e0))) = false ∧ True → RetB Tryz.prog 69 ⟨[vI d_.Weight.e1]⟩ (vB (r29_in d_.Weight.e1)) wz),fun _ => (x18 = false ∧ True → 0 ≤ (2 : Int) ∧ (2 : Int) < 3),fun wz => (x18 = false ∧ True → V.at1 ⟨b1,9,none⟩ (vI d_.Weight.e2) wz),fun wz => (x18 = false ∧ True → RetB Tryz.prog 69 ⟨[vI d_.Weight.e2]⟩ (vB (r29_in d_.Weight.e2)) wz)] H13 (by subst hx16 hx17 hx18; kernel_rfl) ⟨((hS.bk 0 rfl).at1 rfl),fun hg => (hS.bk 0 rfl).at1 rfl,fun hg => (hS.bk 0 rfl).at1 rfl,fun hg => (r29_in_ok _).b,fun hg => (hS.bk 0 rfl).at1 rfl,fun hg => (r29_in_ok _).b,fun hg => (show 0 ≤ (0 : Int) ∧ (0 : Int) < 3 from by decide),fun hg => (hS.bk 0 rfl).at1 rfl,fun hg => (r29_in_ok _).b,fun hg => (show 0 ≤ (1 : Int) ∧ (1 : Int) < 3 from by decide),fun hg => (hS.bk 0 rfl).at1 rfl,fun hg => (r29_in_ok _).b,fun hg => (show 0 ≤ (2 : Int) ∧ (2 : Int) < 3 from by decide),fun hg => (hS.bk 0 rfl).at1 rfl,fun hg => (r29_in_ok _).b,trivial⟩ fun _ _ H20 hb => ?_
 replace hS:=hS.below hb
 refine w_if H20 rfl (fun hc => ?c31) (fun hc => ?_)
 case c31 =>
  replace hm:=bT hc hm
  refine s_reg [] [2] [(2,[],vI 8)] [] H20 (by kernel_rfl) trivial fun _ _ H22 hb => ?_
  replace hS:=hS.below hb
  replace hS : SH M X w [] _:=hS.sel [] rfl
  apply w_ret
  obtain rfl:=someE hm
  exact retR1 H22 rfl rfl ⟨_,rfl,rfl,(hS.sel [] rfl)⟩
 replace hm:=bF hc hm
 apply w_skip
 apply w_seq
 obtain ⟨x23,hx23,hm⟩:=letE hm
 refine s_reg [(vB d_.Attached),(vU d_.Origin),(vI d_.Layer),(vG [vI d_.Weight.e0,vI d_.Weight.e1,vI d_.Weight.e2])] [85] [(85,[],vB x23)] [rA b1 5 (vB d_.Attached),fun wz => (d_.Attached = true ∧ True → V.at1 ⟨b1,4,none⟩ (vU d_.Origin) wz),fun wz => ((d_.Origin != 3) = false ∧ d_.Attached = true ∧ True → V.at1 ⟨b1,6,none⟩ (vI d_.Layer) wz),fun wz => ((cond (d_.Origin != 3) true (d_.Layer != 0)) = false ∧ d_.Attached = true ∧ True → V.atN b1 7 [vI d_.Weight.e0,vI d_.Weight.e1,vI d_.Weight.e2] 0 wz)] H20 (by subst hx23; kernel_rfl) ⟨((hS.bk 0 rfl).at1 rfl),fun hg => (hS.bk 0 rfl).at1 rfl,fun hg => (hS.bk 0 rfl).at1 rfl,fun hg => (hS.bk 0 rfl).atD rfl,trivial⟩ fun _ _ H25 hb => ?_
 replace hS:=hS.below hb
 replace hS : SH M X w [] _:=hS.sel [] rfl
 refine w_if H25 rfl (fun hc => ?c30) (fun hc => ?_)
 case c30 =>
  replace hm:=bT hc hm
  refine s_reg [] [2] [(2,[],vI 8)] [] H25 (by kernel_rfl) trivial fun _ _ H27 hb => ?_
  replace hS:=hS.below hb
  apply w_ret
  obtain rfl:=someE hm
  exact retR1 H27 rfl rfl ⟨_,rfl,rfl,(hS.sel [] rfl)⟩
 replace hm:=bF hc hm
 apply w_skip
 refine s_reg [] [2] [(2,[],vI 0)] [] H25 (by kernel_rfl) trivial fun _ _ H29 hb => ?_
 replace hS:=hS.below hb
 apply w_ret
 obtain rfl:=someE hm
 exact retR1 H29 rfl rfl ⟨_,rfl,rfl,(hS.sel [] rfl)⟩
theorem r29_Check_ok {g_d__0 : Gh} (m : Nat) (d_ : TDeclared) (r : Int) (hm : r29_Check m d_ = some r) (w : World) (hL : S0 F0 [eI tyValue d_.Long.Value g_d__0] w ∧ fpl [eI tyValue d_.Long.Value g_d__0] = []) : RetB Tryz.prog 43 ⟨[vG [vS d_.Long.Name,vL g_d__0 d_.Long.Value,vS d_.Long.Whole,vB d_.Important,vU d_.Origin,vB d_.Attached,vI d_.Layer,vI d_.Weight.e0,vI d_.Weight.e1,vI d_.Weight.e2,vI d_.Order]]⟩ (vI r) w:=retB_of hL (Tryz.call43 _) (fun w' h => r29_Check_w F0 m   d_ r hm w' h)

theorem r29_All_w {g_l_ : Gh} (M : Av) (m : Nat) (l_ : List TDeclared) (r : Int) (hm : r29_All m l_ = some r) (w : World) (hS : S0 M [eI tyDeclared l_ g_l_] w) : Calls Tryz.prog 23 ⟨[vL g_l_ l_]⟩ w (fun e w' => ∃ v,e = .returned v ∧ v = vI r ∧ SH M (fpl [eI tyDeclared l_ g_l_]) w [] w'):=by
 rw [r29_All] at hm
 have hS0 : SH M (fpl [eI tyDeclared l_ g_l_]) w [eI tyDeclared l_ g_l_] w:=hS
 generalize hX : fpl [eI tyDeclared l_ g_l_] = X at hS0 ⊢
 clear hS hX
 have hS:=hS0
 clear hS0
 refine calls_entryP Tryz.func23 rfl Tryz.ntmps23 rfl fun _ H => ?_
 refine s_reg [] [0] [(0,[],vL g_l_ l_)] [] H (by kernel_rfl) trivial fun _ _ H2 hb => ?_
 replace hS:=hS.below hb
 obtain ⟨z3,hz,hm_z3⟩:=bindE hm
 refine w_cut (fun a' w' => ∃ s_z3 : Unit,z3 = Sum.inr s_z3 ∧ Fr 19 [] a' ∧ SH M X w [eI tyDeclared l_ g_l_] w') ?_ ?_
 ·replace hm:=hz
  refine s_reg [] [0,3] (fS [0,3] [vL g_l_ l_,vI 0]) [] H2 (by kernel_rfl) trivial fun _ _ H5 hb => ?_
  replace hS:=hS.below hb
  apply w_block
  refine w_loop (fun kk a' w' => ∃ (v6 : Int),r29_All_L1 m l_ kk v6 = some _ ∧ Fr 19 (fS [0,3] [vL g_l_ l_,vI v6]) a' ∧ SH M X w [eI tyDeclared l_ g_l_] w') ⟨_,0,hm,FrG.keep (ks:=[0,3]) H5 (by kernel_rfl),hS⟩ ?_
  clear hm H5 hS
  rintro kk _ _ ⟨v6,hm,H,hS⟩
  cases kk with
  | zero => exact noneE hm
  | succ kk =>
   rw [r29_All_L1] at hm
   apply w_seq
   refine s_reg [] [0,3,8] (fS [0,3,8] [vL g_l_ l_,vI v6,vB (decide (v6 < (ln l_)))]) [] H (by kernel_rfl) trivial fun _ _ H8 hb => ?_
   replace hS:=hS.below hb
   refine w_if H8 rfl (fun hc => ?_) (fun hc => ?c20)
   case c20 =>
    replace hm:=bF hc hm
    apply w_exit rfl
    obtain rfl:=someE hm
    exact ⟨_,rfl,FrG.keep (ks:=[]) H8 (by kernel_rfl),hS⟩
   replace hm:=bT hc hm
   apply w_skip
   apply w_seq
   apply w_block
   obtain ⟨ho9,hm⟩:=chkE hm
   obtain ⟨y10,hy10,hm⟩:=bindE hm
   refine s_reg [(vG [vS (gi l_ v6).Long.Name,.slice (g_l_.s (v6).toNat 0).a (((gi l_ v6).Long.Value).length) (g_l_.s (v6).toNat 0).c,vS (gi l_ v6).Long.Whole,vB ((gi l_ v6).Important),vU ((gi l_ v6).Origin),vB ((gi l_ v6).Attached),vI ((gi l_ v6).Layer),vI ((gi l_ v6).Weight.e0),vI ((gi l_ v6).Weight.e1),vI ((gi l_ v6).Weight.e2),vI ((gi l_ v6).Order)]),(vI y10)] [0,3,4] (fS [0,3,4] [vL g_l_ l_,vI v6,vI y10]) [fun _ => oka g_l_.a ∧ 0 ≤ v6 ∧ v6 < ln l_,fun wz => V.atN (ab g_l_.a) (ao g_l_.a + (v6).toNat * 11) [vS (gi l_ v6).Long.Name,.slice (g_l_.s (v6).toNat 0).a (((gi l_ v6).Long.Value).length) (g_l_.s (v6).toNat 0).c,vS (gi l_ v6).Long.Whole,vB ((gi l_ v6).Important),vU ((gi l_ v6).Origin),vB ((gi l_ v6).Attached),vI ((gi l_ v6).Layer),vI ((gi l_ v6).Weight.e0),vI ((gi l_ v6).Weight.e1),vI ((gi l_ v6).Weight.e2),vI ((gi l_ v6).Order)] 0 wz,rB 43 [vG [vS (gi l_ v6).Long.Name,.slice (g_l_.s (v6).toNat 0).a (((gi l_ v6).Long.Value).length) (g_l_.s (v6).toNat 0).c,vS (gi l_ v6).Long.Whole,vB ((gi l_ v6).Important),vU ((gi l_ v6).Origin),vB ((gi l_ v6).Attached),vI ((gi l_ v6).Layer),vI ((gi l_ v6).Weight.e0),vI ((gi l_ v6).Weight.e1),vI ((gi l_ v6).Weight.e2),vI ((gi l_ v6).Order)]] (vI y10)] H8 (by kernel_rfl) ⟨((hS.im 0 rfl).oki ho9),((hS.im 0 rfl).atA ho9 0 rfl),(r29_Check_ok (g_d__0:=(g_l_.s (v6).toNat 0)) m _ _ hy10 _ (s0im s0nil (tyDeclared_i0 ((hS.im 0 rfl).el ho9)))),trivial⟩ fun _ _ H12 hb => ?_
   replace hS:=hS.below hb
   refine s_reg [] [0,3,4,17] (fS [0,3,4,17] [vL g_l_ l_,vI v6,vI y10,vB (y10 != 0)]) [] H12 (by kernel_rfl) trivial fun _ _ H14 hb => ?_
   replace hS:=hS.below hb
   refine w_if H14 rfl (fun hc => ?_) (fun hc => ?c19)
   case c19 =>
    replace hm:=bF hc hm
    apply w_skip
    refine w_reg [] [0,3] (fS [0,3] [vL g_l_ l_,vI (w64 (v6 + 1))]) [] H14 (by kernel_rfl) trivial fun _ _ H18 hb => ?_
    replace hS:=hS.below hb
    exact ⟨_,Nat.lt_succ_self _,w64 (v6 + 1),hm,FrG.keep (ks:=[0,3]) H18 (by kernel_rfl),hS⟩
   replace hm:=bT hc hm
   refine s_reg [] [2] [(2,[],vI y10)] [] H14 (by kernel_rfl) trivial fun _ _ H16 hb => ?_
   replace hS:=hS.below hb
   apply w_ret
   obtain rfl:=someE hm
   have hm:=hm_z3
   obtain rfl:=someE hm
   exact retR1 H16 rfl rfl ⟨_,rfl,rfl,(hS.sel [] rfl)⟩
 ·rintro _ _ ⟨s_z3,hz,H,hS⟩
  subst hz
  replace hm:=sumR hm_z3
  replace hS : SH M X w [] _:=hS.sel [] rfl
  refine s_reg [] [2] [(2,[],vI 0)] [] H (by kernel_rfl) trivial fun _ _ H23 hb => ?_
  replace hS:=hS.below hb
  apply w_ret
  obtain rfl:=someE hm
  exact retR1 H23 rfl rfl ⟨_,rfl,rfl,(hS.sel [] rfl)⟩
theorem r29_All_ok {g_l_ : Gh} (m : Nat) (l_ : List TDeclared) (r : Int) (hm : r29_All m l_ = some r) (w : World) (hL : S0 F0 [eI tyDeclared l_ g_l_] w ∧ fpl [eI tyDeclared l_ g_l_] = []) : RetB Tryz.prog 23 ⟨[vL g_l_ l_]⟩ (vI r) w:=retB_of hL (Tryz.call23 _) (fun w' h => r29_All_w F0 m   l_ r hm w' h)

def tyA7_int : Ty TA7_int where
  z:=7
  enc:=fun x g => [vI x.e0,vI x.e1,vI x.e2,vI x.e3,vI x.e4,vI x.e5,vI x.e6]
  inn:=fun _ _ _ _ => True
  len:=fun _ _ => rfl
  one:=fun _ _ => rfl
  kp:=fun _ _ _ => trivial
  anti:=fun _ _ => trivial
  fresh:=fun _ => trivial
theorem r29_Ranked_w {g_d__0 : Gh} (M : Av) (d_ : TDeclared) (r : TA7_int) (hm : r29_Ranked d_ = r) (w : World) (hS : S0 M [eI tyValue d_.Long.Value g_d__0] w) : Calls Tryz.prog 70 ⟨[vG [vS d_.Long.Name,vL g_d__0 d_.Long.Value,vS d_.Long.Whole,vB d_.Important,vU d_.Origin,vB d_.Attached,vI d_.Layer,vI d_.Weight.e0,vI d_.Weight.e1,vI d_.Weight.e2,vI d_.Order]]⟩ w (fun e w' => ∃ v,e = .returned v ∧ v = vG [vI r.e0,vI r.e1,vI r.e2,vI r.e3,vI r.e4,vI r.e5,vI r.e6] ∧ SH M (fpl [eI tyValue d_.Long.Value g_d__0]) w [] w'):=by
 rw [r29_Ranked] at hm
 have hS0 : SH M (fpl [eI tyValue d_.Long.Value g_d__0]) w [eI tyValue d_.Long.Value g_d__0] w:=hS
 generalize hX : fpl [eI tyValue d_.Long.Value g_d__0] = X at hS0 ⊢
 clear hS hX
 have hS:=hS0
 clear hS0
 refine calls_entryP Tryz.func70 rfl Tryz.ntmps70 rfl fun _ H => ?_
 apply w_seq
 apply wl_start
 have hd:=hS.hand [] [0] rfl rfl
 refine m_stp [1] [] H rfl rfl rfl rfl (o_box [vS d_.Long.Name,vL g_d__0 d_.Long.Value,vS d_.Long.Whole,vB d_.Important,vU d_.Origin,vB d_.Attached,vI d_.Layer,vI d_.Weight.e0,vI d_.Weight.e1,vI d_.Weight.e2,vI d_.Order] H hd rfl rfl) (fun _ => rfl) fun _ _ v H3 hq => ?_
 obtain ⟨b1,rfl,hq⟩:=hq
 replace hS : SH M X w [eB b1 [vS d_.Long.Name,vL g_d__0 d_.Long.Value,vS d_.Long.Whole,vB d_.Important,vU d_.Origin,vB d_.Attached,vI d_.Layer,vI d_.Weight.e0,vI d_.Weight.e1,vI d_.Weight.e2,vI d_.Order],eI tyValue d_.Long.Value g_d__0] _:=hS.join [] [0] rfl rfl hq
 have hd:=hS.hand [] [0,1] rfl rfl
 refine m_stp [2,1] [(1,[],vP b1)] H3 rfl rfl rfl rfl (o_alloc [vI 0,vI 0,vI 0,vI 0,vI 0,vI 0,vI 0] (z:=vG [vI 0,vI 0,vI 0,vI 0,vI 0,vI 0,vI 0]) hd (by kernel_rfl) rfl) (fun _ => rfl) fun _ _ v H6 hq => ?_
 obtain ⟨b4,rfl,hq⟩:=hq
 replace hS : SH M X w [eB b4 [vI 0,vI 0,vI 0,vI 0,vI 0,vI 0,vI 0],eB b1 [vS d_.Long.Name,vL g_d__0 d_.Long.Value,vS d_.Long.Whole,vB d_.Important,vU d_.Origin,vB d_.Attached,vI d_.Layer,vI d_.Weight.e0,vI d_.Weight.e1,vI d_.Weight.e2,vI d_.Order],eI tyValue d_.Long.Value g_d__0] _:=hS.join [] [0,1] rfl rfl hq
 apply wl_end rfl
 apply w_seq
 apply wl_start
 refine wl_batch 0 17 [(vU d_.Origin),(vI d_.Layer),(vI d_.Weight.e0),(vI d_.Weight.e1),(vI d_.Weight.e2),(vI d_.Order)] [1,2,20] (fS [1,2,20] [vP b1,vP b4,vG [vI (w64 d_.Origin),vI 0,vI d_.Layer,vI d_.Weight.e0,vI d_.Weight.e1,vI d_.Weight.e2,vI d_.Order]]) [rA b1 4 (vU d_.Origin),rA b1 6 (vI d_.Layer),fun _ => 0 ≤ (0 : Int) ∧ (0 : Int) < 3,rA b1 7 (vI d_.Weight.e0),fun _ => 0 ≤ (1 : Int) ∧ (1 : Int) < 3,rA b1 8 (vI d_.Weight.e1),fun _ => 0 ≤ (2 : Int) ∧ (2 : Int) < 3,rA b1 9 (vI d_.Weight.e2),rA b1 10 (vI d_.Order)] H6 (by decide) (by kernel_rfl) ⟨((hS.bk 1 rfl).at1 rfl),((hS.bk 1 rfl).at1 rfl),(show 0 ≤ (0 : Int) ∧ (0 : Int) < 3 from by decide),((hS.bk 1 rfl).at1 rfl),(show 0 ≤ (1 : Int) ∧ (1 : Int) < 3 from by decide),((hS.bk 1 rfl).at1 rfl),(show 0 ≤ (2 : Int) ∧ (2 : Int) < 3 from by decide),((hS.bk 1 rfl).at1 rfl),((hS.bk 1 rfl).at1 rfl),trivial⟩ fun _ _ H8 hb => ?_
 replace hS:=hS.below hb
 have hd:=hS.hand [] [0,1,2] rfl rfl
 refine m_stp [3,1,2,20] (fS [1,2,20] [vP b1,vP b4,vG [vI (w64 d_.Origin),vI 0,vI d_.Layer,vI d_.Weight.e0,vI d_.Weight.e1,vI d_.Weight.e2,vI d_.Order]]) H8 rfl rfl rfl rfl (o_alloc [vI 0,vI 0,vI 0,vI 0,vI 0,vI 0,vI 0] (z:=vG [vI 0,vI 0,vI 0,vI 0,vI 0,vI 0,vI 0]) hd (by kernel_rfl) rfl) (fun _ => rfl) fun _ _ v H11 hq => ?_
 obtain ⟨b9,rfl,hq⟩:=hq
 replace hS : SH M X w [eB b9 [vI 0,vI 0,vI 0,vI 0,vI 0,vI 0,vI 0],eB b4 [vI 0,vI 0,vI 0,vI 0,vI 0,vI 0,vI 0],eB b1 [vS d_.Long.Name,vL g_d__0 d_.Long.Value,vS d_.Long.Whole,vB d_.Important,vU d_.Origin,vB d_.Attached,vI d_.Layer,vI d_.Weight.e0,vI d_.Weight.e1,vI d_.Weight.e2,vI d_.Order],eI tyValue d_.Long.Value g_d__0] _:=hS.join [] [0,1,2] rfl rfl hq
 have hd:=hS.hand [0] [1,2,3] rfl rfl
 refine m_stp0 [1,2,3] (fS [1,2,3] [vP b1,vP b4,vP b9]) H11 rfl rfl rfl (o_store [vI (w64 d_.Origin),vI 0,vI d_.Layer,vI d_.Weight.e0,vI d_.Weight.e1,vI d_.Weight.e2,vI d_.Order] H11 hd rfl rfl (by kernel_rfl) rfl rfl rfl) rfl fun _ _ H13 hq => ?_
 obtain ⟨_,hq⟩:=hq
 replace hS : SH M X w [eB b9 [vI (w64 d_.Origin),vI 0,vI d_.Layer,vI d_.Weight.e0,vI d_.Weight.e1,vI d_.Weight.e2,vI d_.Order],eB b4 [vI 0,vI 0,vI 0,vI 0,vI 0,vI 0,vI 0],eB b1 [vS d_.Long.Name,vL g_d__0 d_.Long.Value,vS d_.Long.Whole,vB d_.Important,vU d_.Origin,vB d_.Attached,vI d_.Layer,vI d_.Weight.e0,vI d_.Weight.e1,vI d_.Weight.e2,vI d_.Order],eI tyValue d_.Long.Value g_d__0] _:=hS.join [0] [1,2,3] rfl rfl hq
 apply wl_end rfl
 obtain ⟨z14,hz,hm⟩:=letE hm
 refine w_cut (fun a' w' => Fr 36 (fS [1,2,3] [vP b1,vP b4,vP b9]) a' ∧ SH M X w [eB b9 [vI (w64 d_.Origin),vI z14,vI d_.Layer,vI d_.Weight.e0,vI d_.Weight.e1,vI d_.Weight.e2,vI d_.Order],eB b4 [vI 0,vI 0,vI 0,vI 0,vI 0,vI 0,vI 0],eB b1 [vS d_.Long.Name,vL g_d__0 d_.Long.Value,vS d_.Long.Whole,vB d_.Important,vU d_.Origin,vB d_.Attached,vI d_.Layer,vI d_.Weight.e0,vI d_.Weight.e1,vI d_.Weight.e2,vI d_.Order],eI tyValue d_.Long.Value g_d__0] w') ?_ ?_
 ·replace hm:=hz.symm
  refine s_reg [(vB d_.Attached)] [1,2,3,22] (fS [1,2,3,22] [vP b1,vP b4,vP b9,vB d_.Attached]) [rA b1 5 (vB d_.Attached)] H13 (by kernel_rfl) ⟨((hS.bk 2 rfl).at1 rfl),trivial⟩ fun _ _ H16 hb => ?_
  replace hS:=hS.below hb
  refine w_if H16 rfl (fun hc => ?_) (fun hc => ?c21)
  case c21 =>
   replace hm:=bF hc hm
   apply w_skip
   subst hm
   exact ⟨FrG.keep (ks:=[1,2,3]) H16 (by kernel_rfl),hS⟩
  replace hm:=bT hc hm
  apply wl_start
  refine wl_batch 0 1 [] [1,2,3,23] (fS [1,2,3,23] [vP b1,vP b4,vP b9,vA b9 1]) [fun _ => 0 ≤ (1 : Int) ∧ (1 : Int) < 7] H16 (by decide) (by kernel_rfl) ⟨(show 0 ≤ (1 : Int) ∧ (1 : Int) < 7 from by decide),trivial⟩ fun _ _ H18 hb => ?_
  replace hS:=hS.below hb
  have hd:=hS.hand [0] [1,2,3] rfl rfl
  refine m_stp0 [1,2,3] (fS [1,2,3] [vP b1,vP b4,vP b9]) H18 rfl rfl rfl (o_store [vI (w64 d_.Origin),vI 1,vI d_.Layer,vI d_.Weight.e0,vI d_.Weight.e1,vI d_.Weight.e2,vI d_.Order] H18 hd rfl rfl (by kernel_rfl) rfl rfl rfl) rfl fun _ _ H20 hq => ?_
  obtain ⟨_,hq⟩:=hq
  replace hS : SH M X w [eB b9 [vI (w64 d_.Origin),vI 1,vI d_.Layer,vI d_.Weight.e0,vI d_.Weight.e1,vI d_.Weight.e2,vI d_.Order],eB b4 [vI 0,vI 0,vI 0,vI 0,vI 0,vI 0,vI 0],eB b1 [vS d_.Long.Name,vL g_d__0 d_.Long.Value,vS d_.Long.Whole,vB d_.Important,vU d_.Origin,vB d_.Attached,vI d_.Layer,vI d_.Weight.e0,vI d_.Weight.e1,vI d_.Weight.e2,vI d_.Order],eI tyValue d_.Long.Value g_d__0] _:=hS.join [0] [1,2,3] rfl rfl hq
  apply wl_end rfl
  subst hm
  exact ⟨FrG.keep (ks:=[1,2,3]) H20 (by kernel_rfl),hS⟩
 ·rintro _ _ ⟨H,hS⟩
  obtain ⟨z22,hz,hm⟩:=letE hm
  refine w_cut (fun a' w' => Fr 36 (fS [2,3] [vP b4,vP b9]) a' ∧ SH M X w [eB b9 [vI z22.1,vI z14,vI z22.2,vI d_.Weight.e0,vI d_.Weight.e1,vI d_.Weight.e2,vI d_.Order],eB b4 [vI 0,vI 0,vI 0,vI 0,vI 0,vI 0,vI 0],eB b1 [vS d_.Long.Name,vL g_d__0 d_.Long.Value,vS d_.Long.Whole,vB d_.Important,vU d_.Origin,vB d_.Attached,vI d_.Layer,vI d_.Weight.e0,vI d_.Weight.e1,vI d_.Weight.e2,vI d_.Order],eI tyValue d_.Long.Value g_d__0] w') ?_ ?_
  ·replace hm:=hz.symm
   refine s_reg [(vB d_.Important)] [1,2,3,25] (fS [1,2,3,25] [vP b1,vP b4,vP b9,vB d_.Important]) [rA b1 3 (vB d_.Important)] H (by kernel_rfl) ⟨((hS.bk 2 rfl).at1 rfl),trivial⟩ fun _ _ H24 hb => ?_
   replace hS:=hS.below hb
   refine w_if H24 rfl (fun hc => ?_) (fun hc => ?c33)
   case c33 =>
    replace hm:=bF hc hm
    apply w_skip
    subst hm
    exact ⟨FrG.keep (ks:=[2,3]) H24 (by kernel_rfl),hS⟩
   replace hm:=bT hc hm
   apply w_seq
   apply wl_start
   refine wl_batch 0 5 [(vU d_.Origin)] [1,2,3,29,30] (fS [1,2,3,29,30] [vP b1,vP b4,vP b9,vI (w64 (7 - (w64 d_.Origin))),vP b9]) [rA b1 4 (vU d_.Origin),fun _ => 0 ≤ (0 : Int) ∧ (0 : Int) < 7] H24 (by decide) (by kernel_rfl) ⟨((hS.bk 2 rfl).at1 rfl),(show 0 ≤ (0 : Int) ∧ (0 : Int) < 7 from by decide),trivial⟩ fun _ _ H26 hb => ?_
   replace hS:=hS.below hb
   have hd:=hS.hand [0] [1,2,3] rfl rfl
   refine m_stp0 [1,2,3] (fS [1,2,3] [vP b1,vP b4,vP b9]) H26 rfl rfl rfl (o_store [vI (w64 (7 - (w64 d_.Origin))),vI z14,vI d_.Layer,vI d_.Weight.e0,vI d_.Weight.e1,vI d_.Weight.e2,vI d_.Order] H26 hd rfl rfl (by kernel_rfl) rfl rfl rfl) rfl fun _ _ H28 hq => ?_
   obtain ⟨_,hq⟩:=hq
   replace hS : SH M X w [eB b9 [vI (w64 (7 - (w64 d_.Origin))),vI z14,vI d_.Layer,vI d_.Weight.e0,vI d_.Weight.e1,vI d_.Weight.e2,vI d_.Order],eB b4 [vI 0,vI 0,vI 0,vI 0,vI 0,vI 0,vI 0],eB b1 [vS d_.Long.Name,vL g_d__0 d_.Long.Value,vS d_.Long.Whole,vB d_.Important,vU d_.Origin,vB d_.Attached,vI d_.Layer,vI d_.Weight.e0,vI d_.Weight.e1,vI d_.Weight.e2,vI d_.Order],eI tyValue d_.Long.Value g_d__0] _:=hS.join [0] [1,2,3] rfl rfl hq
   apply wl_end rfl
   apply wl_start
   refine wl_batch 0 4 [(vI d_.Layer)] [2,3,33,34] (fS [2,3,33,34] [vP b4,vP b9,vI (w64 (1000000 - d_.Layer)),vA b9 2]) [rA b1 6 (vI d_.Layer),fun _ => 0 ≤ (2 : Int) ∧ (2 : Int) < 7] H28 (by decide) (by kernel_rfl) ⟨((hS.bk 2 rfl).at1 rfl),(show 0 ≤ (2 : Int) ∧ (2 : Int) < 7 from by decide),trivial⟩ fun _ _ H30 hb => ?_
   replace hS:=hS.below hb
   have hd:=hS.hand [0] [1,2,3] rfl rfl
   refine m_stp0 [2,3] (fS [2,3] [vP b4,vP b9]) H30 rfl rfl rfl (o_store [vI (w64 (7 - (w64 d_.Origin))),vI z14,vI (w64 (1000000 - d_.Layer)),vI d_.Weight.e0,vI d_.Weight.e1,vI d_.Weight.e2,vI d_.Order] H30 hd rfl rfl (by kernel_rfl) rfl rfl rfl) rfl fun _ _ H32 hq => ?_
   obtain ⟨_,hq⟩:=hq
   replace hS : SH M X w [eB b9 [vI (w64 (7 - (w64 d_.Origin))),vI z14,vI (w64 (1000000 - d_.Layer)),vI d_.Weight.e0,vI d_.Weight.e1,vI d_.Weight.e2,vI d_.Order],eB b4 [vI 0,vI 0,vI 0,vI 0,vI 0,vI 0,vI 0],eB b1 [vS d_.Long.Name,vL g_d__0 d_.Long.Value,vS d_.Long.Whole,vB d_.Important,vU d_.Origin,vB d_.Attached,vI d_.Layer,vI d_.Weight.e0,vI d_.Weight.e1,vI d_.Weight.e2,vI d_.Order],eI tyValue d_.Long.Value g_d__0] _:=hS.join [0] [1,2,3] rfl rfl hq
   apply wl_end rfl
   subst hm
   exact ⟨FrG.keep (ks:=[2,3]) H32 (by kernel_rfl),hS⟩
  ·rintro _ _ ⟨H,hS⟩
   replace hS : SH M X w [eB b9 [vI z22.1,vI z14,vI z22.2,vI d_.Weight.e0,vI d_.Weight.e1,vI d_.Weight.e2,vI d_.Order],eB b4 [vI 0,vI 0,vI 0,vI 0,vI 0,vI 0,vI 0]] _:=hS.sel [0,1] rfl
   apply w_seq
   apply wl_start
   refine wl_batch 0 1 [(vG [vI z22.1,vI z14,vI z22.2,vI d_.Weight.e0,vI d_.Weight.e1,vI d_.Weight.e2,vI d_.Order])] [2,35] (fS [2,35] [vP b4,vG [vI z22.1,vI z14,vI z22.2,vI d_.Weight.e0,vI d_.Weight.e1,vI d_.Weight.e2,vI d_.Order]]) [rN b9 0 [vI z22.1,vI z14,vI z22.2,vI d_.Weight.e0,vI d_.Weight.e1,vI d_.Weight.e2,vI d_.Order]] H (by decide) (by kernel_rfl) ⟨((hS.bk 0 rfl).atD rfl),trivial⟩ fun _ _ H35 hb => ?_
   replace hS:=hS.below hb
   have hd:=hS.hand [1] [0] rfl rfl
   refine m_stp0 [2] [(2,[],vP b4)] H35 rfl rfl rfl (o_store [vI z22.1,vI z14,vI z22.2,vI d_.Weight.e0,vI d_.Weight.e1,vI d_.Weight.e2,vI d_.Order] H35 hd rfl rfl (by kernel_rfl) rfl rfl rfl) rfl fun _ _ H37 hq => ?_
   obtain ⟨_,hq⟩:=hq
   replace hS : SH M X w [eB b4 [vI z22.1,vI z14,vI z22.2,vI d_.Weight.e0,vI d_.Weight.e1,vI d_.Weight.e2,vI d_.Order],eB b9 [vI z22.1,vI z14,vI z22.2,vI d_.Weight.e0,vI d_.Weight.e1,vI d_.Weight.e2,vI d_.Order]] _:=hS.join [1] [0] rfl rfl hq
   apply wl_end rfl
   replace hS : SH M X w [eB b4 [vI z22.1,vI z14,vI z22.2,vI d_.Weight.e0,vI d_.Weight.e1,vI d_.Weight.e2,vI d_.Order]] _:=hS.sel [0] rfl
   apply w_ret
   subst hm
   exact retR1 H37 rfl (oneRes_agg rfl (hS.bk 0 rfl) Tryz.underlying114 rfl (by kernel_rfl)) ⟨_,rfl,rfl,(hS.sel [] rfl)⟩
theorem r29_Ranked_ok {g_d__0 : Gh} (d_ : TDeclared) (w : World) (hL : S0 F0 [eI tyValue d_.Long.Value g_d__0] w ∧ fpl [eI tyValue d_.Long.Value g_d__0] = []) : RetB Tryz.prog 70 ⟨[vG [vS d_.Long.Name,vL g_d__0 d_.Long.Value,vS d_.Long.Whole,vB d_.Important,vU d_.Origin,vB d_.Attached,vI d_.Layer,vI d_.Weight.e0,vI d_.Weight.e1,vI d_.Weight.e2,vI d_.Order]]⟩ (vG [vI (r29_Ranked d_).e0,vI (r29_Ranked d_).e1,vI (r29_Ranked d_).e2,vI (r29_Ranked d_).e3,vI (r29_Ranked d_).e4,vI (r29_Ranked d_).e5,vI (r29_Ranked d_).e6]) w:=retB_of hL (Tryz.call70 _) (fun w' h => r29_Ranked_w F0   d_ _ rfl w' h)

theorem r29_Less_w {g_a__0 : Gh} {g_b__0 : Gh} (M : Av) (m : Nat) (a_ : TDeclared) (b_ : TDeclared) (r : Bool) (hm : r29_Less m a_ b_ = some r) (w : World) (hS : S0 M [eI tyValue a_.Long.Value g_a__0,eI tyValue b_.Long.Value g_b__0] w) : Calls Tryz.prog 44 ⟨[vG [vS a_.Long.Name,vL g_a__0 a_.Long.Value,vS a_.Long.Whole,vB a_.Important,vU a_.Origin,vB a_.Attached,vI a_.Layer,vI a_.Weight.e0,vI a_.Weight.e1,vI a_.Weight.e2,vI a_.Order],vG [vS b_.Long.Name,vL g_b__0 b_.Long.Value,vS b_.Long.Whole,vB b_.Important,vU b_.Origin,vB b_.Attached,vI b_.Layer,vI b_.Weight.e0,vI b_.Weight.e1,vI b_.Weight.e2,vI b_.Order]]⟩ w (fun e w' => ∃ v,e = .returned v ∧ v = vB r ∧ SH M (fpl [eI tyValue a_.Long.Value g_a__0,eI tyValue b_.Long.Value g_b__0]) w [] w'):=by
 rw [r29_Less] at hm
 have hS0 : SH M (fpl [eI tyValue a_.Long.Value g_a__0,eI tyValue b_.Long.Value g_b__0]) w [eI tyValue a_.Long.Value g_a__0,eI tyValue b_.Long.Value g_b__0] w:=hS
 generalize hX : fpl [eI tyValue a_.Long.Value g_a__0,eI tyValue b_.Long.Value g_b__0] = X at hS0 ⊢
 clear hS hX
 have hS:=hS0
 clear hS0
 refine calls_entryP Tryz.func44 rfl Tryz.ntmps44 rfl fun _ H => ?_
 apply w_seq
 apply wl_start
 have hd:=hS.hand [] [0,1] rfl rfl
 refine m_stp [2,1] [(1,[],vG [vS b_.Long.Name,vL g_b__0 b_.Long.Value,vS b_.Long.Whole,vB b_.Important,vU b_.Origin,vB b_.Attached,vI b_.Layer,vI b_.Weight.e0,vI b_.Weight.e1,vI b_.Weight.e2,vI b_.Order])] H rfl rfl rfl rfl (o_box [vS a_.Long.Name,vL g_a__0 a_.Long.Value,vS a_.Long.Whole,vB a_.Important,vU a_.Origin,vB a_.Attached,vI a_.Layer,vI a_.Weight.e0,vI a_.Weight.e1,vI a_.Weight.e2,vI a_.Order] H hd rfl rfl) (fun _ => rfl) fun _ _ v H3 hq => ?_
 obtain ⟨b1,rfl,hq⟩:=hq
 replace hS : SH M X w [eB b1 [vS a_.Long.Name,vL g_a__0 a_.Long.Value,vS a_.Long.Whole,vB a_.Important,vU a_.Origin,vB a_.Attached,vI a_.Layer,vI a_.Weight.e0,vI a_.Weight.e1,vI a_.Weight.e2,vI a_.Order],eI tyValue a_.Long.Value g_a__0,eI tyValue b_.Long.Value g_b__0] _:=hS.join [] [0,1] rfl rfl hq
 have hd:=hS.hand [] [0,1,2] rfl rfl
 refine m_stp [3,2] [(2,[],vP b1)] H3 rfl rfl rfl rfl (o_box [vS b_.Long.Name,vL g_b__0 b_.Long.Value,vS b_.Long.Whole,vB b_.Important,vU b_.Origin,vB b_.Attached,vI b_.Layer,vI b_.Weight.e0,vI b_.Weight.e1,vI b_.Weight.e2,vI b_.Order] H3 hd rfl rfl) (fun _ => rfl) fun _ _ v H6 hq => ?_
 obtain ⟨b4,rfl,hq⟩:=hq
 replace hS : SH M X w [eB b4 [vS b_.Long.Name,vL g_b__0 b_.Long.Value,vS b_.Long.Whole,vB b_.Important,vU b_.Origin,vB b_.Attached,vI b_.Layer,vI b_.Weight.e0,vI b_.Weight.e1,vI b_.Weight.e2,vI b_.Order],eB b1 [vS a_.Long.Name,vL g_a__0 a_.Long.Value,vS a_.Long.Whole,vB a_.Important,vU a_.Origin,vB a_.Attached,vI a_.Layer,vI a_.Weight.e0,vI a_.Weight.e1,vI a_.Weight.e2,vI a_.Order],eI tyValue a_.Long.Value g_a__0,eI tyValue b_.Long.Value g_b__0] _:=hS.join [] [0,1,2] rfl rfl hq
 refine wl_batch 2 3 [] [2,3] (fS [2,3] [vP b1,vP b4]) [] H6 (by decide) (by kernel_rfl) trivial fun _ _ H8 hb => ?_
 replace hS:=hS.below hb
 apply wl_end rfl
 obtain ⟨y10,hy10,hm⟩:=letE hm
 obtain ⟨y11,hy11,hm⟩:=letE hm
 refine s_drawS (base:=(fS [2,3] [vP b1,vP b4])) (L:=[eB b4 [vS b_.Long.Name,vL g_b__0 b_.Long.Value,vS b_.Long.Whole,vB b_.Important,vU b_.Origin,vB b_.Attached,vI b_.Layer,vI b_.Weight.e0,vI b_.Weight.e1,vI b_.Weight.e2,vI b_.Order],eB b1 [vS a_.Long.Name,vL g_a__0 a_.Long.Value,vS a_.Long.Whole,vB a_.Important,vU a_.Origin,vB a_.Attached,vI a_.Layer,vI a_.Weight.e0,vI a_.Weight.e1,vI a_.Weight.e2,vI a_.Order],eI tyValue a_.Long.Value g_a__0,eI tyValue b_.Long.Value g_b__0]) 8 4 (fun yg9 => [vG [vS a_.Long.Name,vL g_a__0 a_.Long.Value,vS a_.Long.Whole,vB a_.Important,vU a_.Origin,vB a_.Attached,vI a_.Layer,vI a_.Weight.e0,vI a_.Weight.e1,vI a_.Weight.e2,vI a_.Order],vG [vI y10.e0,vI y10.e1,vI y10.e2,vI y10.e3,vI y10.e4,vI y10.e5,vI y10.e6],vG [vS b_.Long.Name,vL g_b__0 b_.Long.Value,vS b_.Long.Whole,vB b_.Important,vU b_.Origin,vB b_.Attached,vI b_.Layer,vI b_.Weight.e0,vI b_.Weight.e1,vI b_.Weight.e2,vI b_.Order],vG [vI y11.e0,vI y11.e1,vI y11.e2,vI y11.e3,vI y11.e4,vI y11.e5,vI y11.e6],.pointer (some ⟨(ab (yg9 4 0).a),0,none⟩),.pointer (some ⟨(ab (yg9 5 0).a),0,none⟩),undef,undef]) (fun yg9 => [[],[],[],[],[eB (ab (yg9 4 0).a) [vI 0,vI 0,vI 0,vI 0,vI 0,vI 0,vI 0]],[eB (ab (yg9 5 0).a) [vI 0,vI 0,vI 0,vI 0,vI 0,vI 0,vI 0]],[eB (ab (yg9 4 0).a) [vI y10.e0,vI y10.e1,vI y10.e2,vI y10.e3,vI y10.e4,vI y10.e5,vI y10.e6]],[eB (ab (yg9 5 0).a) [vI y11.e0,vI y11.e1,vI y11.e2,vI y11.e3,vI y11.e4,vI y11.e5,vI y11.e6]]]) [[9,10],[10],[8,11],[11],[],[],[4],[5]] [[],[],[],[],[],[],[4],[5]] [[0],[0,1],[2],[2,3],[4],[5],[0,1,4,6],[2,3,5,7]] [] (FrG.keep (ks:=[2,3]) H8 (by kernel_rfl)) (fun _ _ h => by cases h) (by kernel_rfl) hS (by kernel_rfl) rfl rfl (by kernel_rfl) (by kernel_rfl) (by kernel_rfl) (gd_none (by kernel_rfl) _ _) ?hloc_yg9 ?hstep_yg9 fun _ _ yg9 H15 hv hS => ?hK_yg9
 case hloc_yg9 => exact ⟨(fun _ _ _ _ => ⟨rfl,rfl⟩),(fun _ _ _ _ => ⟨rfl,rfl⟩),(fun _ _ _ _ => ⟨rfl,rfl⟩),(fun _ _ _ _ => ⟨rfl,rfl⟩),(fun _ i g hi => lcG [4] (fun yg9 => (.pointer (some ⟨(ab (yg9 4 0).a),0,none⟩),[eB (ab (yg9 4 0).a) [vI 0,vI 0,vI 0,vI 0,vI 0,vI 0,vI 0]])) hi rfl),(fun _ i g hi => lcG [5] (fun yg9 => (.pointer (some ⟨(ab (yg9 5 0).a),0,none⟩),[eB (ab (yg9 5 0).a) [vI 0,vI 0,vI 0,vI 0,vI 0,vI 0,vI 0]])) hi rfl),(fun _ i g hi => lcG [4] (fun yg9 => (undef,[eB (ab (yg9 4 0).a) [vI y10.e0,vI y10.e1,vI y10.e2,vI y10.e3,vI y10.e4,vI y10.e5,vI y10.e6]])) hi rfl),(fun _ i g hi => lcG [5] (fun yg9 => (undef,[eB (ab (yg9 5 0).a) [vI y11.e0,vI y11.e1,vI y11.e2,vI y11.e3,vI y11.e4,vI y11.e5,vI y11.e6]])) hi rfl),trivial⟩
 case hstep_yg9 =>
  refine ⟨?_,?_,?_,?_,?_,?_,?_,?_,trivial⟩
  ·intro o ho a w yg9 M Hb hv hO hS
   obtain rfl:=someE ho
   exact Stp.mono (o_evs [(vG [vS a_.Long.Name,vL g_a__0 a_.Long.Value,vS a_.Long.Whole,vB a_.Important,vU a_.Origin,vB a_.Attached,vI a_.Layer,vI a_.Weight.e0,vI a_.Weight.e1,vI a_.Weight.e2,vI a_.Order])] (vG [vS a_.Long.Name,vL g_a__0 a_.Long.Value,vS a_.Long.Whole,vB a_.Important,vU a_.Origin,vB a_.Attached,vI a_.Layer,vI a_.Weight.e0,vI a_.Weight.e1,vI a_.Weight.e2,vI a_.Order]) (some (rN b1 0 [vS a_.Long.Name,vL g_a__0 a_.Long.Value,vS a_.Long.Whole,vB a_.Important,vU a_.Origin,vB a_.Attached,vI a_.Layer,vI a_.Weight.e0,vI a_.Weight.e1,vI a_.Weight.e2,vI a_.Order])) [] Hb rfl (by kernel_rfl) (fun q e => by cases e; exact ((hS.bk 0 rfl).atD rfl))) fun _ _ hq => ⟨gL [],fun _ _ => hq.1,(hS.below hq.2.below).sel [0,1] rfl⟩
  ·intro o ho a w yg9 M Hb hv hO hS
   obtain rfl:=someE ho
   exact Stp.mono (o_evs [(vG [vI y10.e0,vI y10.e1,vI y10.e2,vI y10.e3,vI y10.e4,vI y10.e5,vI y10.e6])] (vG [vI y10.e0,vI y10.e1,vI y10.e2,vI y10.e3,vI y10.e4,vI y10.e5,vI y10.e6]) (some (rB 70 [vG [vS a_.Long.Name,vL g_a__0 a_.Long.Value,vS a_.Long.Whole,vB a_.Important,vU a_.Origin,vB a_.Attached,vI a_.Layer,vI a_.Weight.e0,vI a_.Weight.e1,vI a_.Weight.e2,vI a_.Order]] (vG [vI y10.e0,vI y10.e1,vI y10.e2,vI y10.e3,vI y10.e4,vI y10.e5,vI y10.e6]))) [] ((Hb).add (hv 0 (by decide) (by decide) 8 rfl)) rfl (by subst hy10; kernel_rfl) (fun q e => by cases e; exact ((by rw [hy10]; exact r29_Ranked_ok (g_d__0:=g_a__0) _ _ (s0im s0nil (hS.im 0 rfl)))))) fun _ _ hq => ⟨gL [],fun _ _ => hq.1,(hS.below hq.2.below).sel [0] rfl⟩
  ·intro o ho a w yg9 M Hb hv hO hS
   obtain rfl:=someE ho
   exact Stp.mono (o_evs [(vG [vS b_.Long.Name,vL g_b__0 b_.Long.Value,vS b_.Long.Whole,vB b_.Important,vU b_.Origin,vB b_.Attached,vI b_.Layer,vI b_.Weight.e0,vI b_.Weight.e1,vI b_.Weight.e2,vI b_.Order])] (vG [vS b_.Long.Name,vL g_b__0 b_.Long.Value,vS b_.Long.Whole,vB b_.Important,vU b_.Origin,vB b_.Attached,vI b_.Layer,vI b_.Weight.e0,vI b_.Weight.e1,vI b_.Weight.e2,vI b_.Order]) (some (rN b4 0 [vS b_.Long.Name,vL g_b__0 b_.Long.Value,vS b_.Long.Whole,vB b_.Important,vU b_.Origin,vB b_.Attached,vI b_.Layer,vI b_.Weight.e0,vI b_.Weight.e1,vI b_.Weight.e2,vI b_.Order])) [] Hb rfl (by kernel_rfl) (fun q e => by cases e; exact ((hS.bk 0 rfl).atD rfl))) fun _ _ hq => ⟨gL [],fun _ _ => hq.1,(hS.below hq.2.below).sel [0,1] rfl⟩
  ·intro o ho a w yg9 M Hb hv hO hS
   obtain rfl:=someE ho
   exact Stp.mono (o_evs [(vG [vI y11.e0,vI y11.e1,vI y11.e2,vI y11.e3,vI y11.e4,vI y11.e5,vI y11.e6])] (vG [vI y11.e0,vI y11.e1,vI y11.e2,vI y11.e3,vI y11.e4,vI y11.e5,vI y11.e6]) (some (rB 70 [vG [vS b_.Long.Name,vL g_b__0 b_.Long.Value,vS b_.Long.Whole,vB b_.Important,vU b_.Origin,vB b_.Attached,vI b_.Layer,vI b_.Weight.e0,vI b_.Weight.e1,vI b_.Weight.e2,vI b_.Order]] (vG [vI y11.e0,vI y11.e1,vI y11.e2,vI y11.e3,vI y11.e4,vI y11.e5,vI y11.e6]))) [] ((Hb).add (hv 2 (by decide) (by decide) 10 rfl)) rfl (by subst hy11; kernel_rfl) (fun q e => by cases e; exact ((by rw [hy11]; exact r29_Ranked_ok (g_d__0:=g_b__0) _ _ (s0im s0nil (hS.im 0 rfl)))))) fun _ _ hq => ⟨gL [],fun _ _ => hq.1,(hS.below hq.2.below).sel [0] rfl⟩
  ·intro o ho a w yg9 M Hb hv hO hS0
   obtain rfl:=someE ho
   have H : Fr 30 ([] ++ (fS [2,3] [vP b1,vP b4])) _:=Hb
   obtain ⟨X,hX⟩ : ∃ X,X = fpl []:=⟨_,rfl⟩
   have hS : SH M X w [] w:=by rw [hX]; exact hS0
   have hd:=hS.hand [] [] rfl rfl
   refine Stp.mono (o_alloc [vI 0,vI 0,vI 0,vI 0,vI 0,vI 0,vI 0] (z:=vG [vI 0,vI 0,vI 0,vI 0,vI 0,vI 0,vI 0]) hd (by kernel_rfl) rfl) ?_
   rintro v w2 hq
   obtain ⟨b12,rfl,hq⟩:=hq
   replace hS : SH M X w [eB b12 [vI 0,vI 0,vI 0,vI 0,vI 0,vI 0,vI 0]] _:=hS.join [] [] rfl rfl hq
   rw [hX] at hS
   exact ⟨gL [Gh.mk (some ⟨b12,0,none⟩) 0 fun _ _ => .nil],fun _ _ => rfl,hS.sel [0] rfl⟩
  ·intro o ho a w yg9 M Hb hv hO hS0
   obtain rfl:=someE ho
   have H : Fr 30 ([] ++ (fS [2,3] [vP b1,vP b4])) _:=Hb
   obtain ⟨X,hX⟩ : ∃ X,X = fpl []:=⟨_,rfl⟩
   have hS : SH M X w [] w:=by rw [hX]; exact hS0
   have hd:=hS.hand [] [] rfl rfl
   refine Stp.mono (o_alloc [vI 0,vI 0,vI 0,vI 0,vI 0,vI 0,vI 0] (z:=vG [vI 0,vI 0,vI 0,vI 0,vI 0,vI 0,vI 0]) hd (by kernel_rfl) rfl) ?_
   rintro v w2 hq
   obtain ⟨b13,rfl,hq⟩:=hq
   replace hS : SH M X w [eB b13 [vI 0,vI 0,vI 0,vI 0,vI 0,vI 0,vI 0]] _:=hS.join [] [] rfl rfl hq
   rw [hX] at hS
   exact ⟨gL [Gh.mk (some ⟨b13,0,none⟩) 0 fun _ _ => .nil],fun _ _ => rfl,hS.sel [0] rfl⟩
  ·intro o ho a w yg9 M Hb hv hO hS0
   obtain rfl:=someE ho
   have H : Fr 30 ((fS [9,5] [vG [vI y10.e0,vI y10.e1,vI y10.e2,vI y10.e3,vI y10.e4,vI y10.e5,vI y10.e6],.pointer (some ⟨(ab (yg9 4 0).a),0,none⟩)]) ++ (fS [2,3] [vP b1,vP b4])) _:=((Hb).add (hv 4 (by decide) (by decide) 5 rfl)).add (hv 1 (by decide) (by decide) 9 rfl)
   obtain ⟨X,hX⟩ : ∃ X,X = fpl [eB (ab (yg9 4 0).a) [vI 0,vI 0,vI 0,vI 0,vI 0,vI 0,vI 0]]:=⟨_,rfl⟩
   have hS : SH M X w [eB (ab (yg9 4 0).a) [vI 0,vI 0,vI 0,vI 0,vI 0,vI 0,vI 0]] w:=by rw [hX]; exact hS0
   have hd:=hS.hand [0] [] rfl rfl
   refine Stp.mono (o_store [vI y10.e0,vI y10.e1,vI y10.e2,vI y10.e3,vI y10.e4,vI y10.e5,vI y10.e6] H hd rfl rfl (by kernel_rfl) rfl rfl rfl) ?_
   rintro v w2 hq
   replace hS : SH M X w [eB (ab (yg9 4 0).a) [vI y10.e0,vI y10.e1,vI y10.e2,vI y10.e3,vI y10.e4,vI y10.e5,vI y10.e6]] _:=hS.join [0] [] rfl rfl hq
   rw [hX] at hS
   exact ⟨gL [],(fun _ h => by cases h),hS.sel [0] rfl⟩
  ·intro o ho a w yg9 M Hb hv hO hS0
   obtain rfl:=someE ho
   have H : Fr 30 ((fS [11,6] [vG [vI y11.e0,vI y11.e1,vI y11.e2,vI y11.e3,vI y11.e4,vI y11.e5,vI y11.e6],.pointer (some ⟨(ab (yg9 5 0).a),0,none⟩)]) ++ (fS [2,3] [vP b1,vP b4])) _:=((Hb).add (hv 5 (by decide) (by decide) 6 rfl)).add (hv 3 (by decide) (by decide) 11 rfl)
   obtain ⟨X,hX⟩ : ∃ X,X = fpl [eB (ab (yg9 5 0).a) [vI 0,vI 0,vI 0,vI 0,vI 0,vI 0,vI 0]]:=⟨_,rfl⟩
   have hS : SH M X w [eB (ab (yg9 5 0).a) [vI 0,vI 0,vI 0,vI 0,vI 0,vI 0,vI 0]] w:=by rw [hX]; exact hS0
   have hd:=hS.hand [0] [] rfl rfl
   refine Stp.mono (o_store [vI y11.e0,vI y11.e1,vI y11.e2,vI y11.e3,vI y11.e4,vI y11.e5,vI y11.e6] H hd rfl rfl (by kernel_rfl) rfl rfl rfl) ?_
   rintro v w2 hq
   replace hS : SH M X w [eB (ab (yg9 5 0).a) [vI y11.e0,vI y11.e1,vI y11.e2,vI y11.e3,vI y11.e4,vI y11.e5,vI y11.e6]] _:=hS.join [0] [] rfl rfl hq
   rw [hX] at hS
   exact ⟨gL [],(fun _ h => by cases h),hS.sel [0] rfl⟩
 have H16 : Fr 30 (fS [6,5] [.pointer (some ⟨(ab (yg9 5 0).a),0,none⟩),.pointer (some ⟨(ab (yg9 4 0).a),0,none⟩)]) _:=(FrG.add (FrG.add (FrG.keep (ks:=[]) H15 (by kernel_rfl)) (hv 4 5 rfl)) (hv 5 6 rfl))
 replace hS : SH M X w [eB (ab (yg9 4 0).a) [vI y10.e0,vI y10.e1,vI y10.e2,vI y10.e3,vI y10.e4,vI y10.e5,vI y10.e6],eB (ab (yg9 5 0).a) [vI y11.e0,vI y11.e1,vI y11.e2,vI y11.e3,vI y11.e4,vI y11.e5,vI y11.e6],eB b4 [vS b_.Long.Name,vL g_b__0 b_.Long.Value,vS b_.Long.Whole,vB b_.Important,vU b_.Origin,vB b_.Attached,vI b_.Layer,vI b_.Weight.e0,vI b_.Weight.e1,vI b_.Weight.e2,vI b_.Order],eB b1 [vS a_.Long.Name,vL g_a__0 a_.Long.Value,vS a_.Long.Whole,vB a_.Important,vU a_.Origin,vB a_.Attached,vI a_.Layer,vI a_.Weight.e0,vI a_.Weight.e1,vI a_.Weight.e2,vI a_.Order],eI tyValue a_.Long.Value g_a__0,eI tyValue b_.Long.Value g_b__0] _:=hS
 clear hv H15
 generalize ab (yg9 5 0).a = b17 at H16 hS
 generalize ab (yg9 4 0).a = b18 at H16 hS
 replace hS : SH M X w [eB b18 [vI y10.e0,vI y10.e1,vI y10.e2,vI y10.e3,vI y10.e4,vI y10.e5,vI y10.e6],eB b17 [vI y11.e0,vI y11.e1,vI y11.e2,vI y11.e3,vI y11.e4,vI y11.e5,vI y11.e6]] _:=hS.sel [0,1] rfl
 replace hS : SH M X w [Ent.row .i64 b18 [y10.e0,y10.e1,y10.e2,y10.e3,y10.e4,y10.e5,y10.e6] (7 : Int),eB b17 [vI y11.e0,vI y11.e1,vI y11.e2,vI y11.e3,vI y11.e4,vI y11.e5,vI y11.e6]] _:=SH.toRow (q:=[y10.e0,y10.e1,y10.e2,y10.e3,y10.e4,y10.e5,y10.e6]) rfl (hS.sel [0,1] rfl)
 replace hS : SH M X w [Ent.row .i64 b17 [y11.e0,y11.e1,y11.e2,y11.e3,y11.e4,y11.e5,y11.e6] (7 : Int),Ent.row .i64 b18 [y10.e0,y10.e1,y10.e2,y10.e3,y10.e4,y10.e5,y10.e6] (7 : Int)] _:=SH.toRow (q:=[y11.e0,y11.e1,y11.e2,y11.e3,y11.e4,y11.e5,y11.e6]) rfl (hS.sel [1,0] rfl)
 obtain ⟨z19,hz,hm_z19⟩:=bindE hm
 refine w_cut (fun a' w' => ∃ s_z19 : Unit,z19 = Sum.inr s_z19 ∧ Fr 30 [] a' ∧ SH M X w [Ent.row .i64 b17 [y11.e0,y11.e1,y11.e2,y11.e3,y11.e4,y11.e5,y11.e6] (7 : Int),Ent.row .i64 b18 [y10.e0,y10.e1,y10.e2,y10.e3,y10.e4,y10.e5,y10.e6] (7 : Int)] w') ?_ ?_
 ·replace hm:=hz
  refine s_reg [] [5,6,7] (fS [5,6,7] [vP b18,vP b17,vI 0]) [] H16 (by kernel_rfl) trivial fun _ _ H21 hb => ?_
  replace hS:=hS.below hb
  apply w_block
  refine w_loop (fun kk a' w' => ∃ (v22 : Int),r29_Less_L1 m y10 y11 kk v22 = some _ ∧ Fr 30 (fS [5,6,7] [vP b18,vP b17,vI v22]) a' ∧ SH M X w [Ent.row .i64 b17 [y11.e0,y11.e1,y11.e2,y11.e3,y11.e4,y11.e5,y11.e6] (7 : Int),Ent.row .i64 b18 [y10.e0,y10.e1,y10.e2,y10.e3,y10.e4,y10.e5,y10.e6] (7 : Int)] w') ⟨_,0,hm,FrG.keep (ks:=[5,6,7]) H21 (by kernel_rfl),hS⟩ ?_
  clear hm H21 hS
  rintro kk _ _ ⟨v22,hm,H,hS⟩
  cases kk with
  | zero => exact noneE hm
  | succ kk =>
   rw [r29_Less_L1] at hm
   apply w_seq
   refine s_reg [] [5,6,7,13] (fS [5,6,7,13] [vP b18,vP b17,vI v22,vB (decide (v22 < 7))]) [] H (by kernel_rfl) trivial fun _ _ H24 hb => ?_
   replace hS:=hS.below hb
   refine w_if H24 rfl (fun hc => ?_) (fun hc => ?c37)
   case c37 =>
    replace hm:=bF hc hm
    apply w_exit rfl
    obtain rfl:=someE hm
    exact ⟨_,rfl,FrG.keep (ks:=[]) H24 (by kernel_rfl),hS⟩
   replace hm:=bT hc hm
   apply w_skip
   apply w_seq
   apply w_block
   obtain ⟨ho25,hm⟩:=chkE hm
   obtain ⟨x26,hx26,hm⟩:=letE hm
   obtain ⟨x27,hx27,hm⟩:=letE hm
   refine s_draw [(vI (gi [y10.e0,y10.e1,y10.e2,y10.e3,y10.e4,y10.e5,y10.e6] v22)),(vI (gi [y11.e0,y11.e1,y11.e2,y11.e3,y11.e4,y11.e5,y11.e6] v22))] [5,6,7,22] (fS [5,6,7,22] [vP b18,vP b17,vI v22,vB (x26 != x27)]) [fun _ => 0 ≤ v22 ∧ v22 < (7 : Int),fun wz => V.at1 ⟨b18,0 + (v22).toNat * 1,none⟩ (vI (gi [y10.e0,y10.e1,y10.e2,y10.e3,y10.e4,y10.e5,y10.e6] v22)) wz,fun _ => 0 ≤ v22 ∧ v22 < (7 : Int),fun wz => V.at1 ⟨b17,0 + (v22).toNat * 1,none⟩ (vI (gi [y11.e0,y11.e1,y11.e2,y11.e3,y11.e4,y11.e5,y11.e6] v22)) wz] H24 (by kernel_rfl) (by kernel_rfl) (by subst hx26 hx27; kernel_rfl) ⟨ho25,(Rw.ixn (hS.rw 1 rfl) ho25),ho25,(Rw.ixn (hS.rw 0 rfl) ho25),trivial⟩ fun _ _ H29 hb => ?_
   replace hS:=hS.below hb
   refine w_if H29 rfl (fun hc => ?_) (fun hc => ?c36)
   case c36 =>
    replace hm:=bF hc hm
    apply w_skip
    refine w_reg [] [5,6,7] (fS [5,6,7] [vP b18,vP b17,vI (w64 (v22 + 1))]) [] H29 (by kernel_rfl) trivial fun _ _ H35 hb => ?_
    replace hS:=hS.below hb
    exact ⟨_,Nat.lt_succ_self _,w64 (v22 + 1),hm,FrG.keep (ks:=[5,6,7]) H35 (by kernel_rfl),hS⟩
   replace hm:=bT hc hm
   obtain ⟨x30,hx30,hm⟩:=letE hm
   obtain ⟨x31,hx31,hm⟩:=letE hm
   refine s_draw [(vI (gi [y10.e0,y10.e1,y10.e2,y10.e3,y10.e4,y10.e5,y10.e6] v22)),(vI (gi [y11.e0,y11.e1,y11.e2,y11.e3,y11.e4,y11.e5,y11.e6] v22))] [4] [(4,[],vB (decide (x30 < x31)))] [fun _ => 0 ≤ v22 ∧ v22 < (7 : Int),fun wz => V.at1 ⟨b18,0 + (v22).toNat * 1,none⟩ (vI (gi [y10.e0,y10.e1,y10.e2,y10.e3,y10.e4,y10.e5,y10.e6] v22)) wz,fun _ => 0 ≤ v22 ∧ v22 < (7 : Int),fun wz => V.at1 ⟨b17,0 + (v22).toNat * 1,none⟩ (vI (gi [y11.e0,y11.e1,y11.e2,y11.e3,y11.e4,y11.e5,y11.e6] v22)) wz] H29 (by kernel_rfl) (by kernel_rfl) (by subst hx30 hx31; kernel_rfl) ⟨ho25,(Rw.ixn (hS.rw 1 rfl) ho25),ho25,(Rw.ixn (hS.rw 0 rfl) ho25),trivial⟩ fun _ _ H33 hb => ?_
   replace hS:=hS.below hb
   apply w_ret
   obtain rfl:=someE hm
   have hm:=hm_z19
   obtain rfl:=someE hm
   exact retR1 H33 rfl rfl ⟨_,rfl,rfl,(hS.sel [] rfl)⟩
 ·rintro _ _ ⟨s_z19,hz,H,hS⟩
  subst hz
  replace hm:=sumR hm_z19
  replace hS : SH M X w [] _:=hS.sel [] rfl
  refine s_reg [] [4] [(4,[],vF)] [] H (by kernel_rfl) trivial fun _ _ H40 hb => ?_
  replace hS:=hS.below hb
  apply w_ret
  obtain rfl:=someE hm
  exact retR1 H40 rfl rfl ⟨_,rfl,rfl,(hS.sel [] rfl)⟩
theorem r29_Less_ok {g_a__0 : Gh} {g_b__0 : Gh} (m : Nat) (a_ : TDeclared) (b_ : TDeclared) (r : Bool) (hm : r29_Less m a_ b_ = some r) (w : World) (hL : S0 F0 [eI tyValue a_.Long.Value g_a__0,eI tyValue b_.Long.Value g_b__0] w ∧ fpl [eI tyValue a_.Long.Value g_a__0,eI tyValue b_.Long.Value g_b__0] = []) : RetB Tryz.prog 44 ⟨[vG [vS a_.Long.Name,vL g_a__0 a_.Long.Value,vS a_.Long.Whole,vB a_.Important,vU a_.Origin,vB a_.Attached,vI a_.Layer,vI a_.Weight.e0,vI a_.Weight.e1,vI a_.Weight.e2,vI a_.Order],vG [vS b_.Long.Name,vL g_b__0 b_.Long.Value,vS b_.Long.Whole,vB b_.Important,vU b_.Origin,vB b_.Attached,vI b_.Layer,vI b_.Weight.e0,vI b_.Weight.e1,vI b_.Weight.e2,vI b_.Order]]⟩ (vB r) w:=retB_of hL (Tryz.call44 _) (fun w' h => r29_Less_w F0 m   a_ b_ r hm w' h)

theorem r29_InOrder_w {g_l_ : Gh} (M : Av) (m : Nat) (l_ : List TDeclared) (r : Bool) (hm : r29_InOrder m l_ = some r) (w : World) (hS : S0 M [eI tyDeclared l_ g_l_] w) : Calls Tryz.prog 24 ⟨[vL g_l_ l_]⟩ w (fun e w' => ∃ v,e = .returned v ∧ v = vB r ∧ SH M (fpl [eI tyDeclared l_ g_l_]) w [] w'):=by
 rw [r29_InOrder] at hm
 have hS0 : SH M (fpl [eI tyDeclared l_ g_l_]) w [eI tyDeclared l_ g_l_] w:=hS
 generalize hX : fpl [eI tyDeclared l_ g_l_] = X at hS0 ⊢
 clear hS hX
 have hS:=hS0
 clear hS0
 refine calls_entryP Tryz.func24 rfl Tryz.ntmps24 rfl fun _ H => ?_
 refine s_reg [] [0] [(0,[],vL g_l_ l_)] [] H (by kernel_rfl) trivial fun _ _ H2 hb => ?_
 replace hS:=hS.below hb
 obtain ⟨z3,hz,hm_z3⟩:=bindE hm
 refine w_cut (fun a' w' => ∃ s_z3 : Unit,z3 = Sum.inr s_z3 ∧ Fr 20 [] a' ∧ SH M X w [eI tyDeclared l_ g_l_] w') ?_ ?_
 ·replace hm:=hz
  refine s_reg [] [0,3] (fS [0,3] [vL g_l_ l_,vI 1]) [] H2 (by kernel_rfl) trivial fun _ _ H5 hb => ?_
  replace hS:=hS.below hb
  apply w_block
  refine w_loop (fun kk a' w' => ∃ (v6 : Int),r29_InOrder_L1 m l_ kk v6 = some _ ∧ Fr 20 (fS [0,3] [vL g_l_ l_,vI v6]) a' ∧ SH M X w [eI tyDeclared l_ g_l_] w') ⟨_,1,hm,FrG.keep (ks:=[0,3]) H5 (by kernel_rfl),hS⟩ ?_
  clear hm H5 hS
  rintro kk _ _ ⟨v6,hm,H,hS⟩
  cases kk with
  | zero => exact noneE hm
  | succ kk =>
   rw [r29_InOrder_L1] at hm
   apply w_seq
   refine s_reg [] [0,3,7] (fS [0,3,7] [vL g_l_ l_,vI v6,vB (decide (v6 < (ln l_)))]) [] H (by kernel_rfl) trivial fun _ _ H8 hb => ?_
   replace hS:=hS.below hb
   refine w_if H8 rfl (fun hc => ?_) (fun hc => ?c19)
   case c19 =>
    replace hm:=bF hc hm
    apply w_exit rfl
    obtain rfl:=someE hm
    exact ⟨_,rfl,FrG.keep (ks:=[]) H8 (by kernel_rfl),hS⟩
   replace hm:=bT hc hm
   apply w_skip
   apply w_seq
   apply w_block
   obtain ⟨ho9,hm⟩:=chkE hm
   obtain ⟨ho10,hm⟩:=chkE hm
   obtain ⟨y11,hy11,hm⟩:=bindE hm
   refine s_draw [(vG [vS (gi l_ v6).Long.Name,.slice (g_l_.s (v6).toNat 0).a (((gi l_ v6).Long.Value).length) (g_l_.s (v6).toNat 0).c,vS (gi l_ v6).Long.Whole,vB ((gi l_ v6).Important),vU ((gi l_ v6).Origin),vB ((gi l_ v6).Attached),vI ((gi l_ v6).Layer),vI ((gi l_ v6).Weight.e0),vI ((gi l_ v6).Weight.e1),vI ((gi l_ v6).Weight.e2),vI ((gi l_ v6).Order)]),(vG [vS (gi l_ (w64 (v6 - 1))).Long.Name,.slice (g_l_.s ((w64 (v6 - 1))).toNat 0).a (((gi l_ (w64 (v6 - 1))).Long.Value).length) (g_l_.s ((w64 (v6 - 1))).toNat 0).c,vS (gi l_ (w64 (v6 - 1))).Long.Whole,vB ((gi l_ (w64 (v6 - 1))).Important),vU ((gi l_ (w64 (v6 - 1))).Origin),vB ((gi l_ (w64 (v6 - 1))).Attached),vI ((gi l_ (w64 (v6 - 1))).Layer),vI ((gi l_ (w64 (v6 - 1))).Weight.e0),vI ((gi l_ (w64 (v6 - 1))).Weight.e1),vI ((gi l_ (w64 (v6 - 1))).Weight.e2),vI ((gi l_ (w64 (v6 - 1))).Order)]),(vB y11)] [0,3,19] (fS [0,3,19] [vL g_l_ l_,vI v6,vB y11]) [fun _ => oka g_l_.a ∧ 0 ≤ v6 ∧ v6 < ln l_,fun wz => V.atN (ab g_l_.a) (ao g_l_.a + (v6).toNat * 11) [vS (gi l_ v6).Long.Name,.slice (g_l_.s (v6).toNat 0).a (((gi l_ v6).Long.Value).length) (g_l_.s (v6).toNat 0).c,vS (gi l_ v6).Long.Whole,vB ((gi l_ v6).Important),vU ((gi l_ v6).Origin),vB ((gi l_ v6).Attached),vI ((gi l_ v6).Layer),vI ((gi l_ v6).Weight.e0),vI ((gi l_ v6).Weight.e1),vI ((gi l_ v6).Weight.e2),vI ((gi l_ v6).Order)] 0 wz,fun _ => oka g_l_.a ∧ 0 ≤ (w64 (v6 - 1)) ∧ (w64 (v6 - 1)) < ln l_,fun wz => V.atN (ab g_l_.a) (ao g_l_.a + ((w64 (v6 - 1))).toNat * 11) [vS (gi l_ (w64 (v6 - 1))).Long.Name,.slice (g_l_.s ((w64 (v6 - 1))).toNat 0).a (((gi l_ (w64 (v6 - 1))).Long.Value).length) (g_l_.s ((w64 (v6 - 1))).toNat 0).c,vS (gi l_ (w64 (v6 - 1))).Long.Whole,vB ((gi l_ (w64 (v6 - 1))).Important),vU ((gi l_ (w64 (v6 - 1))).Origin),vB ((gi l_ (w64 (v6 - 1))).Attached),vI ((gi l_ (w64 (v6 - 1))).Layer),vI ((gi l_ (w64 (v6 - 1))).Weight.e0),vI ((gi l_ (w64 (v6 - 1))).Weight.e1),vI ((gi l_ (w64 (v6 - 1))).Weight.e2),vI ((gi l_ (w64 (v6 - 1))).Order)] 0 wz,rB 44 [vG [vS (gi l_ v6).Long.Name,.slice (g_l_.s (v6).toNat 0).a (((gi l_ v6).Long.Value).length) (g_l_.s (v6).toNat 0).c,vS (gi l_ v6).Long.Whole,vB ((gi l_ v6).Important),vU ((gi l_ v6).Origin),vB ((gi l_ v6).Attached),vI ((gi l_ v6).Layer),vI ((gi l_ v6).Weight.e0),vI ((gi l_ v6).Weight.e1),vI ((gi l_ v6).Weight.e2),vI ((gi l_ v6).Order)],vG [vS (gi l_ (w64 (v6 - 1))).Long.Name,.slice (g_l_.s ((w64 (v6 - 1))).toNat 0).a (((gi l_ (w64 (v6 - 1))).Long.Value).length) (g_l_.s ((w64 (v6 - 1))).toNat 0).c,vS (gi l_ (w64 (v6 - 1))).Long.Whole,vB ((gi l_ (w64 (v6 - 1))).Important),vU ((gi l_ (w64 (v6 - 1))).Origin),vB ((gi l_ (w64 (v6 - 1))).Attached),vI ((gi l_ (w64 (v6 - 1))).Layer),vI ((gi l_ (w64 (v6 - 1))).Weight.e0),vI ((gi l_ (w64 (v6 - 1))).Weight.e1),vI ((gi l_ (w64 (v6 - 1))).Weight.e2),vI ((gi l_ (w64 (v6 - 1))).Order)]] (vB y11)] H8 (by kernel_rfl) (by kernel_rfl) (by kernel_rfl) ⟨((hS.im 0 rfl).oki ho9),((hS.im 0 rfl).atA ho9 0 rfl),((hS.im 0 rfl).oki ho10),((hS.im 0 rfl).atA ho10 0 rfl),(r29_Less_ok (g_a__0:=(g_l_.s (v6).toNat 0)) (g_b__0:=(g_l_.s ((w64 (v6 - 1))).toNat 0)) 64 _ _ _ hy11 _ (s0im (s0im s0nil (tyDeclared_i0 ((hS.im 0 rfl).el ho10))) (tyDeclared_i0 ((hS.im 0 rfl).el ho9)))),trivial⟩ fun _ _ H13 hb => ?_
   replace hS:=hS.below hb
   refine w_if H13 rfl (fun hc => ?_) (fun hc => ?c18)
   case c18 =>
    replace hm:=bF hc hm
    apply w_skip
    refine w_reg [] [0,3] (fS [0,3] [vL g_l_ l_,vI (w64 (v6 + 1))]) [] H13 (by kernel_rfl) trivial fun _ _ H17 hb => ?_
    replace hS:=hS.below hb
    exact ⟨_,Nat.lt_succ_self _,w64 (v6 + 1),hm,FrG.keep (ks:=[0,3]) H17 (by kernel_rfl),hS⟩
   replace hm:=bT hc hm
   refine s_reg [] [2] [(2,[],vF)] [] H13 (by kernel_rfl) trivial fun _ _ H15 hb => ?_
   replace hS:=hS.below hb
   apply w_ret
   obtain rfl:=someE hm
   have hm:=hm_z3
   obtain rfl:=someE hm
   exact retR1 H15 rfl rfl ⟨_,rfl,rfl,(hS.sel [] rfl)⟩
 ·rintro _ _ ⟨s_z3,hz,H,hS⟩
  subst hz
  replace hm:=sumR hm_z3
  replace hS : SH M X w [] _:=hS.sel [] rfl
  refine s_reg [] [2] [(2,[],vT)] [] H (by kernel_rfl) trivial fun _ _ H22 hb => ?_
  replace hS:=hS.below hb
  apply w_ret
  obtain rfl:=someE hm
  exact retR1 H22 rfl rfl ⟨_,rfl,rfl,(hS.sel [] rfl)⟩
theorem r29_InOrder_ok {g_l_ : Gh} (m : Nat) (l_ : List TDeclared) (r : Bool) (hm : r29_InOrder m l_ = some r) (w : World) (hL : S0 F0 [eI tyDeclared l_ g_l_] w ∧ fpl [eI tyDeclared l_ g_l_] = []) : RetB Tryz.prog 24 ⟨[vL g_l_ l_]⟩ (vB r) w:=retB_of hL (Tryz.call24 _) (fun w' h => r29_InOrder_w F0 m   l_ r hm w' h)

theorem r31_Asked_w {g_l_ : Gh} (M : Av) (m : Nat) (l_ : List TDeclared) (r : Int) (hm : r31_Asked m l_ = some r) (w : World) (hS : S0 M [eI tyDeclared l_ g_l_] w) : Calls Tryz.prog 8 ⟨[vL g_l_ l_]⟩ w (fun e w' => ∃ v,e = .returned v ∧ v = vI r ∧ SH M (fpl [eI tyDeclared l_ g_l_]) w [] w'):=by
 rw [r31_Asked] at hm
 have hS0 : SH M (fpl [eI tyDeclared l_ g_l_]) w [eI tyDeclared l_ g_l_] w:=hS
 generalize hX : fpl [eI tyDeclared l_ g_l_] = X at hS0 ⊢
 clear hS hX
 have hS:=hS0
 clear hS0
 refine calls_entryP Tryz.func8 rfl Tryz.ntmps8 rfl fun _ H => ?_
 refine s_reg [] [0] [(0,[],vL g_l_ l_)] [] H (by kernel_rfl) trivial fun _ _ H2 hb => ?_
 replace hS:=hS.below hb
 apply w_seq
 obtain ⟨y3,hy3,hm⟩:=bindE hm
 refine s_reg [(vI y3)] [0,3] (fS [0,3] [vL g_l_ l_,vI y3]) [rB 23 [vL g_l_ l_] (vI y3)] H2 (by kernel_rfl) ⟨(r29_All_ok (g_l_:=g_l_) m _ _ hy3 _ (s0im s0nil (hS.im 0 rfl))),trivial⟩ fun _ _ H5 hb => ?_
 replace hS:=hS.below hb
 refine s_reg [] [0,3,7] (fS [0,3,7] [vL g_l_ l_,vI y3,vB (y3 != 0)]) [] H5 (by kernel_rfl) trivial fun _ _ H7 hb => ?_
 replace hS:=hS.below hb
 refine w_if H7 rfl (fun hc => ?c18) (fun hc => ?_)
 case c18 =>
  replace hm:=bT hc hm
  refine s_reg [] [2] [(2,[],vI y3)] [] H7 (by kernel_rfl) trivial fun _ _ H9 hb => ?_
  replace hS:=hS.below hb
  replace hS : SH M X w [] _:=hS.sel [] rfl
  apply w_ret
  obtain rfl:=someE hm
  exact retR1 H9 rfl rfl ⟨_,rfl,rfl,(hS.sel [] rfl)⟩
 replace hm:=bF hc hm
 apply w_skip
 apply w_seq
 obtain ⟨y10,hy10,hm⟩:=bindE hm
 refine s_reg [(vB y10)] [11] [(11,[],vB (!y10))] [rB 24 [vL g_l_ l_] (vB y10)] H7 (by kernel_rfl) ⟨(r29_InOrder_ok (g_l_:=g_l_) m _ _ hy10 _ (s0im s0nil (hS.im 0 rfl))),trivial⟩ fun _ _ H12 hb => ?_
 replace hS:=hS.below hb
 replace hS : SH M X w [] _:=hS.sel [] rfl
 refine w_if H12 rfl (fun hc => ?c17) (fun hc => ?_)
 case c17 =>
  replace hm:=bT hc hm
  refine s_reg [] [2] [(2,[],vI 2)] [] H12 (by kernel_rfl) trivial fun _ _ H14 hb => ?_
  replace hS:=hS.below hb
  apply w_ret
  obtain rfl:=someE hm
  exact retR1 H14 rfl rfl ⟨_,rfl,rfl,(hS.sel [] rfl)⟩
 replace hm:=bF hc hm
 apply w_skip
 refine s_reg [] [2] [(2,[],vI 0)] [] H12 (by kernel_rfl) trivial fun _ _ H16 hb => ?_
 replace hS:=hS.below hb
 apply w_ret
 obtain rfl:=someE hm
 exact retR1 H16 rfl rfl ⟨_,rfl,rfl,(hS.sel [] rfl)⟩
theorem r31_Asked_ok {g_l_ : Gh} (m : Nat) (l_ : List TDeclared) (r : Int) (hm : r31_Asked m l_ = some r) (w : World) (hL : S0 F0 [eI tyDeclared l_ g_l_] w ∧ fpl [eI tyDeclared l_ g_l_] = []) : RetB Tryz.prog 8 ⟨[vL g_l_ l_]⟩ (vI r) w:=retB_of hL (Tryz.call8 _) (fun w' h => r31_Asked_w F0 m   l_ r hm w' h)

def wide_clone_S (rec_ : (List TValue) → Option (List TValue)) : Prop:=∀ (g_l_ : Gh) (M : Av) (l_ : List TValue) (r : List TValue),rec_ l_ = some r → ∀ w,S0 M [eI tyValue l_ g_l_] w → Calls Tryz.prog 32 ⟨[vL g_l_ l_]⟩ w (fun e w' => ∃ v,e = .returned v ∧ ∃ (g901 : Gh),v = vL g901 r ∧ SH M (fpl [eI tyValue l_ g_l_]) w [eO 63 tyValue r g901] w')
theorem wide_clone_w (m : Nat) : ∀ (k : Nat),wide_clone_S (wide_clone_r m  k):=by
 intro k
 induction k with
 | zero => intro g_l_ M l_ r hm; exact noneE hm
 | succ k ih =>
  intro g_l_ M l_ r hm w hS
  rw [wide_clone_r] at hm
  have hS0 : SH M (fpl [eI tyValue l_ g_l_]) w [eI tyValue l_ g_l_] w:=hS
  generalize hX : fpl [eI tyValue l_ g_l_] = X at hS0 ⊢
  clear hS hX
  have hS:=hS0
  clear hS0
  refine calls_entryP Tryz.func32 rfl Tryz.ntmps32 rfl fun _ H => ?_
  refine s_reg [] [0] [(0,[],vL g_l_ l_)] [] H (by kernel_rfl) trivial fun _ _ H2 hb => ?_
  replace hS:=hS.below hb
  refine s_reg [] [0,3] (fS [0,3] [vL g_l_ l_,vO]) [] H2 (by kernel_rfl) trivial fun _ _ H4 hb => ?_
  replace hS:=hS.below hb
  obtain ⟨z5,hz,hm⟩:=bindE hm
  refine w_cut (fun a' w' => ∃ (g42 : Gh),Fr 23 [(3,[],vL g42 z5)] a' ∧ SH M X w [eO 63 tyValue z5 g42,eI tyValue l_ g_l_] w') ?_ ?_
  ·replace hm:=hz
   refine s_reg [] [3,6,7,8] (fS [3,6,7,8] [vO,vL g_l_ l_,vI (ln l_),vI 0]) [] H4 (by kernel_rfl) trivial fun _ _ H7 hb => ?_
   replace hS:=hS.below hb
   apply w_block
   replace hS : SH M X w [eO 63 tyValue ([] : List TValue) (.nil),eI tyValue l_ g_l_] _:=hS.addNil 63 tyValue
   refine w_loop (fun kk a' w' => ∃ (v9 : List TValue) (v11 : Int) (g10 : Gh),wide_clone_L1 m l_ (wide_clone_r m k) kk v9 v11 = some _ ∧ Fr 23 (fS [6,7,3,8] [vL g_l_ l_,vI (ln l_),vL g10 v9,vI v11]) a' ∧ SH M X w [eO 63 tyValue v9 g10,eI tyValue l_ g_l_] w') ⟨_,([] : List TValue),0,Gh.nil,hm,FrG.keep (ks:=[6,7,3,8]) H7 (by kernel_rfl),hS⟩ ?_
   clear hm H7 hS
   rintro kk _ _ ⟨v9,v11,g10,hm,H,hS⟩
   cases kk with
   | zero => exact noneE hm
   | succ kk =>
    rw [wide_clone_L1] at hm
    refine s_reg [] [3,6,7,8,9] (fS [3,6,7,8,9] [vL g10 v9,vL g_l_ l_,vI (ln l_),vI v11,vB (decide (v11 < (ln l_)))]) [] H (by kernel_rfl) trivial fun _ _ H13 hb => ?_
    replace hS:=hS.below hb
    apply w_seq
    refine w_if H13 rfl (fun hc => ?_) (fun hc => ?c40)
    case c40 =>
     replace hm:=bF hc hm
     apply w_exit rfl
     obtain rfl:=someE hm
     exact ⟨g10,FrG.keep (ks:=[3]) H13 (by kernel_rfl),hS⟩
    replace hm:=bT hc hm
    apply w_skip
    apply w_seq
    apply w_block
    apply w_seq
    apply wl_start
    obtain ⟨ho14,hm⟩:=chkE hm
    refine wl_batch 0 2 [(vG [vU ((gi l_ v11).Token.Kind),vS (gi l_ v11).Token.Text,vI ((gi l_ v11).Token.Num),vS (gi l_ v11).Token.Unit,vB ((gi l_ v11).Token.Flag),.slice (g_l_.s (v11).toNat 0).a (((gi l_ v11).List_).length) (g_l_.s (v11).toNat 0).c])] [3,6,7,8,11] (fS [3,6,7,8,11] [vL g10 v9,vL g_l_ l_,vI (ln l_),vI v11,vG [vU ((gi l_ v11).Token.Kind),vS (gi l_ v11).Token.Text,vI ((gi l_ v11).Token.Num),vS (gi l_ v11).Token.Unit,vB ((gi l_ v11).Token.Flag),.slice (g_l_.s (v11).toNat 0).a (((gi l_ v11).List_).length) (g_l_.s (v11).toNat 0).c]]) [fun _ => oka g_l_.a ∧ 0 ≤ v11 ∧ v11 < ln l_,fun wz => V.atN (ab g_l_.a) (ao g_l_.a + (v11).toNat * 6) [vU ((gi l_ v11).Token.Kind),vS (gi l_ v11).Token.Text,vI ((gi l_ v11).Token.Num),vS (gi l_ v11).Token.Unit,vB ((gi l_ v11).Token.Flag),.slice (g_l_.s (v11).toNat 0).a (((gi l_ v11).List_).length) (g_l_.s (v11).toNat 0).c] 0 wz] H13 (by decide) (by kernel_rfl) ⟨((hS.im 1 rfl).oki ho14),((hS.im 1 rfl).atA ho14 0 rfl),trivial⟩ fun _ _ H16 hb => ?_
    replace hS:=hS.below hb
    have hd:=hS.hand [] [0,1] rfl rfl
    refine m_stp [5,3,6,7,8,11] (fS [3,6,7,8,11] [vL g10 v9,vL g_l_ l_,vI (ln l_),vI v11,vG [vU ((gi l_ v11).Token.Kind),vS (gi l_ v11).Token.Text,vI ((gi l_ v11).Token.Num),vS (gi l_ v11).Token.Unit,vB ((gi l_ v11).Token.Flag),.slice (g_l_.s (v11).toNat 0).a (((gi l_ v11).List_).length) (g_l_.s (v11).toNat 0).c]]) H16 rfl rfl rfl rfl (o_alloc [vU 0,vN,vI 0,vN,vF,vO] (z:=vG [vU 0,vN,vI 0,vN,vF,vO]) hd (by kernel_rfl) rfl) (fun _ => rfl) fun _ _ v H19 hq => ?_
    obtain ⟨b17,rfl,hq⟩:=hq
    replace hS : SH M X w [eB b17 [vU 0,vN,vI 0,vN,vF,vO],eO 63 tyValue v9 g10,eI tyValue l_ g_l_] _:=hS.join [] [0,1] rfl rfl hq
    have hd:=hS.hand [0] [1,2] rfl rfl
    refine m_stp0 [3,5,6,7,8] (fS [3,5,6,7,8] [vL g10 v9,vP b17,vL g_l_ l_,vI (ln l_),vI v11]) H19 rfl rfl rfl (o_store [vU ((gi l_ v11).Token.Kind),vS (gi l_ v11).Token.Text,vI ((gi l_ v11).Token.Num),vS (gi l_ v11).Token.Unit,vB ((gi l_ v11).Token.Flag),.slice (g_l_.s (v11).toNat 0).a (((gi l_ v11).List_).length) (g_l_.s (v11).toNat 0).c] H19 hd rfl rfl (by kernel_rfl) rfl rfl rfl) rfl fun _ _ H21 hq => ?_
    obtain ⟨_,hq⟩:=hq
    replace hS : SH M X w [eB b17 [vU ((gi l_ v11).Token.Kind),vS (gi l_ v11).Token.Text,vI ((gi l_ v11).Token.Num),vS (gi l_ v11).Token.Unit,vB ((gi l_ v11).Token.Flag),.slice (g_l_.s (v11).toNat 0).a (((gi l_ v11).List_).length) (g_l_.s (v11).toNat 0).c],eO 63 tyValue v9 g10,eI tyValue l_ g_l_] _:=hS.join [0] [1,2] rfl rfl hq
    apply wl_end rfl
    obtain ⟨y24,hy24,hm⟩:=bindE hm
    obtain ⟨ho29,hm⟩:=chkE hm
    obtain ⟨q30,hq30,hm⟩:=letE hm
    refine w_drawS (base:=(fS [5,6,7,8] [vP b17,vL g_l_ l_,vI (ln l_),vI v11])) (L:=[eB b17 [vU ((gi l_ v11).Token.Kind),vS (gi l_ v11).Token.Text,vI ((gi l_ v11).Token.Num),vS (gi l_ v11).Token.Unit,vB ((gi l_ v11).Token.Flag),.slice (g_l_.s (v11).toNat 0).a (((gi l_ v11).List_).length) (g_l_.s (v11).toNat 0).c],eO 63 tyValue v9 g10,eI tyValue l_ g_l_]) 10 3 (fun yg22 => [vL g10 v9,vP b17,vG [vU ((gi l_ v11).Token.Kind),vS (gi l_ v11).Token.Text,vI ((gi l_ v11).Token.Num),vS (gi l_ v11).Token.Unit,vB ((gi l_ v11).Token.Flag)],vA b17 5,.slice (g_l_.s (v11).toNat 0).a (((gi l_ v11).List_).length) (g_l_.s (v11).toNat 0).c,.slice (yg22 5 0).a y24.length (yg22 5 0).c,vG [vU ((gi l_ v11).Token.Kind),vS (gi l_ v11).Token.Text,vI ((gi l_ v11).Token.Num),vS (gi l_ v11).Token.Unit,vB ((gi l_ v11).Token.Flag),.slice (yg22 5 0).a y24.length (yg22 5 0).c],vK (yg22 7 0) 1,.slice (yg22 8 0).a q30.length (yg22 8 0).c,.slice (yg22 8 0).a q30.length (yg22 8 0).c]) (fun yg22 => [[],[],[],[],[],[eO 63 tyValue y24 (yg22 5 0),eI tyValue ((gi l_ v11).List_) (g_l_.s (v11).toNat 0)],[],[eO 63 tyValue ([(TValue.mk ((gi l_ v11).Token) y24)] : List TValue) (yg22 7 0),eI tyValue y24 (yg22 5 0),eI tyValue ((gi l_ v11).List_) (g_l_.s (v11).toNat 0)],[eO 63 tyValue q30 (yg22 8 0)],[]]) [[],[10,12],[10,12],[10,12],[10,12],[12],[5],[5],[7,11],[8]] [[],[],[],[],[],[],[],[5],[11],[]] [[0],[1],[1,2],[3],[3,4],[3,4,5],[1,2,3,4,5,6],[1,2,3,4,5,6,7],[0,1,2,3,4,5,6,7,8],[0,1,2,3,4,5,6,7,8,9]] [(3,9,vL g10 v9)] (FrG.keep (ks:=[5,6,7,8]) H21 (by kernel_rfl)) (fun k e h => by rcases k with _ | k <;> first | (obtain rfl:=Option.some.inj h; exact FrG.slot H21 (by kernel_rfl)) | cases h) (by kernel_rfl) hS (by kernel_rfl) rfl rfl (by kernel_rfl) (by kernel_rfl) (by kernel_rfl) (gd_none (by kernel_rfl) _ _) ?hloc_yg22 ?hstep_yg22 fun _ _ yg22 H33 hv hS => ?hK_yg22
    case hloc_yg22 => exact ⟨(fun _ _ _ _ => ⟨rfl,rfl⟩),(fun _ _ _ _ => ⟨rfl,rfl⟩),(fun _ _ _ _ => ⟨rfl,rfl⟩),(fun _ _ _ _ => ⟨rfl,rfl⟩),(fun _ _ _ _ => ⟨rfl,rfl⟩),(fun _ i g hi => lcG [5] (fun yg22 => (.slice (yg22 5 0).a y24.length (yg22 5 0).c,[eO 63 tyValue y24 (yg22 5 0),eI tyValue ((gi l_ v11).List_) (g_l_.s (v11).toNat 0)])) hi rfl),(fun _ i g hi => lcG [5] (fun yg22 => (vG [vU ((gi l_ v11).Token.Kind),vS (gi l_ v11).Token.Text,vI ((gi l_ v11).Token.Num),vS (gi l_ v11).Token.Unit,vB ((gi l_ v11).Token.Flag),.slice (yg22 5 0).a y24.length (yg22 5 0).c],[])) hi rfl),(fun _ i g hi => lcG [5,7] (fun yg22 => (vK (yg22 7 0) 1,[eO 63 tyValue ([(TValue.mk ((gi l_ v11).Token) y24)] : List TValue) (yg22 7 0),eI tyValue y24 (yg22 5 0),eI tyValue ((gi l_ v11).List_) (g_l_.s (v11).toNat 0)])) hi rfl),(fun _ i g hi => lcG [8] (fun yg22 => (.slice (yg22 8 0).a q30.length (yg22 8 0).c,[eO 63 tyValue q30 (yg22 8 0)])) hi rfl),(fun _ i g hi => lcG [8] (fun yg22 => (.slice (yg22 8 0).a q30.length (yg22 8 0).c,[])) hi rfl),trivial⟩
    case hstep_yg22 =>
     refine ⟨?_,?_,?_,?_,?_,?_,?_,?_,?_,?_,trivial⟩
     ·intro o ho a w yg22 M Hb hv hO hS
      obtain rfl:=someE ho
      exact Stp.mono (o_evs [] (vL g10 v9) none [] ((Hb).add (hO 0 _ rfl (by kernel_rfl))) rfl (by kernel_rfl) (fun q e => by cases e)) fun _ _ hq => ⟨gL [],fun _ _ => hq.1,(hS.below hq.2.below).sel [] rfl⟩
     ·intro o ho a w yg22 M Hb hv hO hS
      obtain rfl:=someE ho
      exact Stp.mono (o_evs [] (vP b17) none [] Hb rfl (by kernel_rfl) (fun q e => by cases e)) fun _ _ hq => ⟨gL [],fun _ _ => hq.1,(hS.below hq.2.below).sel [0,1] rfl⟩
     ·intro o ho a w yg22 M Hb hv hO hS
      obtain rfl:=someE ho
      exact Stp.mono (o_evs [(vG [vU ((gi l_ v11).Token.Kind),vS (gi l_ v11).Token.Text,vI ((gi l_ v11).Token.Num),vS (gi l_ v11).Token.Unit,vB ((gi l_ v11).Token.Flag)])] (vG [vU ((gi l_ v11).Token.Kind),vS (gi l_ v11).Token.Text,vI ((gi l_ v11).Token.Num),vS (gi l_ v11).Token.Unit,vB ((gi l_ v11).Token.Flag)]) (some (rN b17 0 [vU ((gi l_ v11).Token.Kind),vS (gi l_ v11).Token.Text,vI ((gi l_ v11).Token.Num),vS (gi l_ v11).Token.Unit,vB ((gi l_ v11).Token.Flag)])) [] ((Hb).add (hv 1 (by decide) (by decide) 13 rfl)) rfl (by kernel_rfl) (fun q e => by cases e; exact ((hS.bk 0 rfl).atD rfl))) fun _ _ hq => ⟨gL [],fun _ _ => hq.1,(hS.below hq.2.below).sel [0,1] rfl⟩
     ·intro o ho a w yg22 M Hb hv hO hS
      obtain rfl:=someE ho
      exact Stp.mono (o_evs [] (vA b17 5) none [] Hb rfl (by kernel_rfl) (fun q e => by cases e)) fun _ _ hq => ⟨gL [],fun _ _ => hq.1,(hS.below hq.2.below).sel [0,1] rfl⟩
     ·intro o ho a w yg22 M Hb hv hO hS
      obtain rfl:=someE ho
      exact Stp.mono (o_evs [(.slice (g_l_.s (v11).toNat 0).a (((gi l_ v11).List_).length) (g_l_.s (v11).toNat 0).c)] (.slice (g_l_.s (v11).toNat 0).a (((gi l_ v11).List_).length) (g_l_.s (v11).toNat 0).c) (some (fun wz => V.at1 ⟨b17,5,none⟩ (.slice (g_l_.s (v11).toNat 0).a (((gi l_ v11).List_).length) (g_l_.s (v11).toNat 0).c) wz)) [] ((Hb).add (hv 3 (by decide) (by decide) 15 rfl)) rfl (by kernel_rfl) (fun q e => by cases e; exact ((hS.bk 0 rfl).at1 rfl))) fun _ _ hq => ⟨gL [],fun _ _ => hq.1,(hS.below hq.2.below).sel [0,1] rfl⟩
     ·intro o ho a w yg22 M Hb hv hO hS0
      obtain rfl:=someE ho
      have H : Fr 23 ([(16,[],.slice (g_l_.s (v11).toNat 0).a (((gi l_ v11).List_).length) (g_l_.s (v11).toNat 0).c)] ++ (fS [5,6,7,8] [vP b17,vL g_l_ l_,vI (ln l_),vI v11])) _:=(Hb).add (hv 4 (by decide) (by decide) 16 rfl)
      obtain ⟨X,hX⟩ : ∃ X,X = fpl [eI tyValue l_ g_l_]:=⟨_,rfl⟩
      have hS : SH M X w [eI tyValue l_ g_l_] w:=by rw [hX]; exact hS0
      replace hS : SH M X w [eI tyValue ((gi l_ v11).List_) (g_l_.s (v11).toNat 0),eI tyValue l_ g_l_] _:=hS.addIm (tyValue_i0 ((hS.im 0 rfl).el ho14))
      have hd:=hS.hand [0] [0,1] rfl rfl
      refine Stp.mono (o_callx H rfl rfl (⟨Tryz.call32 _,ih ((g_l_.s (v11).toNat 0)) _ _ _ hy24 _ hd⟩ : DoesX _ _ _ _ _)) ?_
      rintro v w2 hq
      obtain ⟨g25,rfl,hq⟩:=hq
      replace hS : SH M X w [eO 63 tyValue y24 g25,eI tyValue ((gi l_ v11).List_) (g_l_.s (v11).toNat 0),eI tyValue l_ g_l_] _:=hS.join [0] [0,1] rfl rfl hq
      rw [hX] at hS
      exact ⟨gL [g25],fun _ _ => rfl,hS.sel [0,1,2] rfl⟩
     ·intro o ho a w yg22 M Hb hv hO hS
      obtain rfl:=someE ho
      exact Stp.mono (o_evs [] (vG [vU ((gi l_ v11).Token.Kind),vS (gi l_ v11).Token.Text,vI ((gi l_ v11).Token.Num),vS (gi l_ v11).Token.Unit,vB ((gi l_ v11).Token.Flag),.slice (yg22 5 0).a y24.length (yg22 5 0).c]) none [] (((Hb).add (hv 2 (by decide) (by decide) 14 rfl)).add (hv 5 (by decide) (by decide) 17 rfl)) rfl (by kernel_rfl) (fun q e => by cases e)) fun _ _ hq => ⟨gL [],fun _ _ => hq.1,(hS.below hq.2.below).sel [0,1] rfl⟩
     ·intro o ho a w yg22 M Hb hv hO hS0
      obtain rfl:=someE ho
      have H : Fr 23 ([(18,[],vG [vU ((gi l_ v11).Token.Kind),vS (gi l_ v11).Token.Text,vI ((gi l_ v11).Token.Num),vS (gi l_ v11).Token.Unit,vB ((gi l_ v11).Token.Flag),.slice (yg22 5 0).a y24.length (yg22 5 0).c])] ++ (fS [5,6,7,8] [vP b17,vL g_l_ l_,vI (ln l_),vI v11])) _:=(Hb).add (hv 6 (by decide) (by decide) 18 rfl)
      obtain ⟨X,hX⟩ : ∃ X,X = fpl [eO 63 tyValue y24 (yg22 5 0),eI tyValue ((gi l_ v11).List_) (g_l_.s (v11).toNat 0)]:=⟨_,rfl⟩
      have hS : SH M X w [eO 63 tyValue y24 (yg22 5 0),eI tyValue ((gi l_ v11).List_) (g_l_.s (v11).toNat 0)] w:=by rw [hX]; exact hS0
      replace hS : SH M X w [eI tyValue y24 (yg22 5 0),eI tyValue ((gi l_ v11).List_) (g_l_.s (v11).toNat 0)] _:=SH.frz1 (hS.sel [0,1] rfl)
      have hd:=hS.hand [0] [0,1] rfl rfl
      refine Stp.mono (o_lit (T:=tyValue) (E:=63) (zv:=vG [vU 0,vN,vI 0,vN,vF,vO]) [vU ((gi l_ v11).Token.Kind),vS (gi l_ v11).Token.Text,vI ((gi l_ v11).Token.Num),vS (gi l_ v11).Token.Unit,vB ((gi l_ v11).Token.Flag),.slice (yg22 5 0).a y24.length (yg22 5 0).c] ([(TValue.mk ((gi l_ v11).Token) y24)] : List TValue) [gL [(yg22 5 0)]] _ H hd rfl (by kernel_rfl) (by kernel_rfl) (by kernel_rfl) (by kernel_rfl) (by kernel_rfl) (by kernel_rfl) (by kernel_rfl) rfl (InnL.cons (tyValue_mk (hd.im 0 rfl)) InnL.nil)) ?_
      rintro v w2 hq
      obtain ⟨g27,rfl,hq⟩:=hq
      replace hS : SH M X w [eO 63 tyValue ([(TValue.mk ((gi l_ v11).Token) y24)] : List TValue) g27,eI tyValue y24 (yg22 5 0),eI tyValue ((gi l_ v11).List_) (g_l_.s (v11).toNat 0)] _:=hS.join [0] [0,1] rfl rfl hq
      rw [hX] at hS
      exact ⟨gL [g27],fun _ _ => rfl,hS.sel [0,1,2] rfl⟩
     ·intro o ho a w yg22 M Hb hv hO hS0
      obtain rfl:=someE ho
      have H : Fr 23 ((fS [19,12] [vK (yg22 7 0) 1,vL g10 v9]) ++ (fS [5,6,7,8] [vP b17,vL g_l_ l_,vI (ln l_),vI v11])) _:=((Hb).add (hv 0 (by decide) (by decide) 12 rfl)).add (hv 7 (by decide) (by decide) 19 rfl)
      obtain ⟨X,hX⟩ : ∃ X,X = fpl [eO 63 tyValue ([(TValue.mk ((gi l_ v11).Token) y24)] : List TValue) (yg22 7 0),eI tyValue y24 (yg22 5 0),eI tyValue ((gi l_ v11).List_) (g_l_.s (v11).toNat 0),eO 63 tyValue v9 g10]:=⟨_,rfl⟩
      have hS : SH M X w [eO 63 tyValue ([(TValue.mk ((gi l_ v11).Token) y24)] : List TValue) (yg22 7 0),eI tyValue y24 (yg22 5 0),eI tyValue ((gi l_ v11).List_) (g_l_.s (v11).toNat 0),eO 63 tyValue v9 g10] w:=by rw [hX]; exact hS0
      have hd:=hS.hand [3,0] [1,2] rfl rfl
      refine Stp.mono (o_app2 (T:=tyValue) (zv:=vG [vU 0,vN,vI 0,vN,vF,vO]) (g1:=g10) (g2:=(yg22 7 0)) (l1:=v9) (l2:=([(TValue.mk ((gi l_ v11).Token) y24)] : List TValue)) q30 hq30.symm H hd rfl rfl rfl rfl rfl rfl rfl (by kernel_rfl) (by kernel_rfl) rfl rfl ho29) ?_
      rintro v w2 hq
      obtain ⟨g31,rfl,hq⟩:=hq
      replace hS : SH M X w [eO 63 tyValue q30 g31,eO 63 tyValue ([(TValue.mk ((gi l_ v11).Token) y24)] : List TValue) (yg22 7 0),eI tyValue y24 (yg22 5 0),eI tyValue ((gi l_ v11).List_) (g_l_.s (v11).toNat 0)] _:=hS.join [3,0] [1,2] rfl rfl hq
      rw [hX] at hS
      exact ⟨gL [g31],fun _ _ => rfl,hS.sel [0,1,2,3] rfl⟩
     ·intro o ho a w yg22 M Hb hv hO hS
      obtain rfl:=someE ho
      exact Stp.mono (o_evs [] (.slice (yg22 8 0).a q30.length (yg22 8 0).c) none [] ((Hb).add (hv 8 (by decide) (by decide) 20 rfl)) rfl (by kernel_rfl) (fun q e => by cases e)) fun _ _ hq => ⟨gL [],fun _ _ => hq.1,(hS.below hq.2.below).sel [0] rfl⟩
    have H34 : Fr 23 (fS [3,6,7,8] [.slice (yg22 8 0).a q30.length (yg22 8 0).c,vL g_l_ l_,vI (ln l_),vI v11]) _:=(FrG.add (FrG.keep (ks:=[6,7,8]) H33 (by kernel_rfl)) (hv 9 3 rfl))
    replace hS : SH M X w [eO 63 tyValue ([(TValue.mk ((gi l_ v11).Token) y24)] : List TValue) (yg22 7 0),eI tyValue y24 (yg22 5 0),eI tyValue ((gi l_ v11).List_) (g_l_.s (v11).toNat 0),eO 63 tyValue q30 (yg22 8 0),eB b17 [vU ((gi l_ v11).Token.Kind),vS (gi l_ v11).Token.Text,vI ((gi l_ v11).Token.Num),vS (gi l_ v11).Token.Unit,vB ((gi l_ v11).Token.Flag),.slice (g_l_.s (v11).toNat 0).a (((gi l_ v11).List_).length) (g_l_.s (v11).toNat 0).c],eI tyValue l_ g_l_] _:=hS
    clear hv H33
    generalize yg22 8 0 = g35 at H34 hS
    generalize yg22 7 0 = g36 at H34 hS
    generalize yg22 5 0 = g37 at H34 hS
    replace hS : SH M X w [eO 63 tyValue q30 g35,eI tyValue l_ g_l_] _:=hS.sel [3,5] rfl
    refine w_reg [] [3,6,7,8] (fS [3,6,7,8] [vL g35 q30,vL g_l_ l_,vI (ln l_),vI (w64 (v11 + 1))]) [] H34 (by kernel_rfl) trivial fun _ _ H39 hb => ?_
    replace hS:=hS.below hb
    exact ⟨_,Nat.lt_succ_self _,q30,w64 (v11 + 1),g35,hm,FrG.keep (ks:=[6,7,3,8]) H39 (by kernel_rfl),hS⟩
  ·rintro _ _ ⟨g42,H,hS⟩
   replace hS : SH M X w [eO 63 tyValue z5 g42] _:=hS.sel [0] rfl
   refine s_reg [] [2] [(2,[],vL g42 z5)] [] H (by kernel_rfl) trivial fun _ _ H45 hb => ?_
   replace hS:=hS.below hb
   apply w_ret
   obtain rfl:=someE hm
   exact retR1 H45 rfl rfl ⟨_,rfl,g42,rfl,(hS.sel [0] rfl)⟩
theorem wide_clone_ok {g_l_ : Gh} (m : Nat) (l_ : List TValue) (r : List TValue) (hm : wide_clone m l_ = some r) (M : Av) (w : World) (hS : S0 M [eI tyValue l_ g_l_] w) : DoesX Tryz.prog 32 ⟨[vL g_l_ l_]⟩ w (fun v w' => ∃ (g901 : Gh),v = vL g901 r ∧ SH M (fpl [eI tyValue l_ g_l_]) w [eO 63 tyValue r g901] w'):=⟨Tryz.call32 _,wide_clone_w m   m g_l_ M l_ r hm w hS⟩

theorem wide_Lesser_w {g_l_ : Gh} (M : Av) (m : Nat) (l_ : List TDeclared) (origin : Int) (r : (List TDeclared) × Int) (hm : wide_Lesser m l_ origin = some r) (w : World) (hS : S0 M [eI tyDeclared l_ g_l_,gE0] w) : Calls Tryz.prog 15 ⟨[vL g_l_ l_,vU origin]⟩ w (fun e w' => ∃ v,e = .returned v ∧ ∃ (g901 : Gh),v = vW [vL g901 r.1,vI r.2] ∧ SH M (fpl [eI tyDeclared l_ g_l_,gE0]) w [eO 35 tyDeclared r.1 g901] w'):=by
 rw [wide_Lesser] at hm
 have hS0 : SH M (fpl [eI tyDeclared l_ g_l_,gE0]) w [eI tyDeclared l_ g_l_,gE0] w:=hS
 generalize hX : fpl [eI tyDeclared l_ g_l_,gE0] = X at hS0 ⊢
 clear hS hX
 have hS:=hS0
 clear hS0
 refine calls_entryP Tryz.func15 rfl Tryz.ntmps15 rfl fun _ H => ?_
 refine s_reg [] [0,1] (fS [0,1] [vL g_l_ l_,vU origin]) [] H (by kernel_rfl) trivial fun _ _ H2 hb => ?_
 replace hS:=hS.below hb
 apply w_seq
 obtain ⟨y3,hy3,hm⟩:=bindE hm
 refine s_reg [(vI y3)] [0,1,6] (fS [0,1,6] [vL g_l_ l_,vU origin,vI y3]) [rB 25 [vL g_l_ l_] (vI y3)] H2 (by kernel_rfl) ⟨(wide_asked_ok (g_l_:=g_l_) m _ _ hy3 _ (s0im (s0im s0nil (hS.im 1 rfl)) (hS.im 0 rfl))),trivial⟩ fun _ _ H5 hb => ?_
 replace hS:=hS.below hb
 refine s_reg [] [0,1,6,13] (fS [0,1,6,13] [vL g_l_ l_,vU origin,vI y3,vB (y3 != 0)]) [] H5 (by kernel_rfl) trivial fun _ _ H7 hb => ?_
 replace hS:=hS.below hb
 refine w_if H7 rfl (fun hc => ?c77) (fun hc => ?_)
 case c77 =>
  replace hm:=bT hc hm
  refine s_reg [] [4,5] (fS [4,5] [vO,vI y3]) [] H7 (by kernel_rfl) trivial fun _ _ H9 hb => ?_
  replace hS:=hS.below hb
  replace hS : SH M X w [gE0] _:=hS.sel [1] rfl
  apply w_ret
  obtain rfl:=someE hm
  replace hS : SH M X w [eO 35 tyDeclared ([] : List TDeclared) (.nil),gE0] _:=hS.addNil 35 tyDeclared
  exact retR2 H9 rfl rfl rfl ⟨_,rfl,Gh.nil,rfl,(hS.sel [0] rfl)⟩
 replace hm:=bF hc hm
 apply w_skip
 apply w_seq
 obtain ⟨x11,hx11,hm⟩:=letE hm
 refine s_reg [] [0,1,20] (fS [0,1,20] [vL g_l_ l_,vU origin,vB x11]) [] H7 (by subst hx11; kernel_rfl) trivial fun _ _ H13 hb => ?_
 replace hS:=hS.below hb
 refine w_if H13 rfl (fun hc => ?c76) (fun hc => ?_)
 case c76 =>
  replace hm:=bT hc hm
  refine s_reg [] [4,5] (fS [4,5] [vO,vI 2]) [] H13 (by kernel_rfl) trivial fun _ _ H15 hb => ?_
  replace hS:=hS.below hb
  replace hS : SH M X w [gE0] _:=hS.sel [1] rfl
  apply w_ret
  obtain rfl:=someE hm
  replace hS : SH M X w [eO 35 tyDeclared ([] : List TDeclared) (.nil),gE0] _:=hS.addNil 35 tyDeclared
  exact retR2 H15 rfl rfl rfl ⟨_,rfl,Gh.nil,rfl,(hS.sel [0] rfl)⟩
 replace hm:=bF hc hm
 apply w_skip
 refine s_reg [] [0,1,7] (fS [0,1,7] [vL g_l_ l_,vU origin,vO]) [] H13 (by kernel_rfl) trivial fun _ _ H18 hb => ?_
 replace hS:=hS.below hb
 obtain ⟨z19,hz,hm⟩:=bindE hm
 refine w_cut (fun a' w' => ∃ (g71 : Gh),Fr 43 [(7,[],vL g71 z19)] a' ∧ SH M X w [eO 35 tyDeclared z19 g71,eI tyDeclared l_ g_l_,gE0] w') ?_ ?_
 ·replace hm:=hz
  refine s_reg [] [1,7,21,22,23] (fS [1,7,21,22,23] [vU origin,vO,vL g_l_ l_,vI (ln l_),vI 0]) [] H18 (by kernel_rfl) trivial fun _ _ H21 hb => ?_
  replace hS:=hS.below hb
  apply w_block
  replace hS : SH M X w [eO 35 tyDeclared ([] : List TDeclared) (.nil),eI tyDeclared l_ g_l_,gE0] _:=hS.addNil 35 tyDeclared
  refine w_loop (fun kk a' w' => ∃ (v23 : List TDeclared) (v25 : Int) (g24 : Gh),wide_Lesser_L1 m l_ origin kk v23 v25 = some _ ∧ Fr 43 (fS [1,21,22,7,23] [vU origin,vL g_l_ l_,vI (ln l_),vL g24 v23,vI v25]) a' ∧ SH M X w [eO 35 tyDeclared v23 g24,eI tyDeclared l_ g_l_,gE0] w') ⟨_,([] : List TDeclared),0,Gh.nil,hm,FrG.keep (ks:=[1,21,22,7,23]) H21 (by kernel_rfl),hS⟩ ?_
  clear hm H21 hS
  rintro kk _ _ ⟨v23,v25,g24,hm,H,hS⟩
  cases kk with
  | zero => exact noneE hm
  | succ kk =>
   rw [wide_Lesser_L1] at hm
   refine s_reg [] [1,7,21,22,23,24] (fS [1,7,21,22,23,24] [vU origin,vL g24 v23,vL g_l_ l_,vI (ln l_),vI v25,vB (decide (v25 < (ln l_)))]) [] H (by kernel_rfl) trivial fun _ _ H27 hb => ?_
   replace hS:=hS.below hb
   apply w_seq
   refine w_if H27 rfl (fun hc => ?_) (fun hc => ?c69)
   case c69 =>
    replace hm:=bF hc hm
    apply w_exit rfl
    obtain rfl:=someE hm
    exact ⟨g24,FrG.keep (ks:=[7]) H27 (by kernel_rfl),hS⟩
   replace hm:=bT hc hm
   apply w_skip
   obtain ⟨z28,hz,hm⟩:=bindE hm
   refine w_cut (fun a' w' => ∃ (g65 : Gh),Fr 43 (fS [1,21,22,23,7] [vU origin,vL g_l_ l_,vI (ln l_),vI v25,vL g65 z28]) a' ∧ SH M X w [eO 35 tyDeclared z28 g65,eI tyDeclared l_ g_l_,gE0] w') ?_ ?_
   ·replace hm:=hz
    apply w_block
    apply w_seq
    apply wl_start
    obtain ⟨ho29,hm⟩:=chkE hm
    refine wl_batch 0 2 [(vG [vS (gi l_ v25).Long.Name,.slice (g_l_.s (v25).toNat 0).a (((gi l_ v25).Long.Value).length) (g_l_.s (v25).toNat 0).c,vS (gi l_ v25).Long.Whole,vB ((gi l_ v25).Important),vU ((gi l_ v25).Origin),vB ((gi l_ v25).Attached),vI ((gi l_ v25).Layer),vI ((gi l_ v25).Weight.e0),vI ((gi l_ v25).Weight.e1),vI ((gi l_ v25).Weight.e2),vI ((gi l_ v25).Order)])] [1,7,21,22,23,26] (fS [1,7,21,22,23,26] [vU origin,vL g24 v23,vL g_l_ l_,vI (ln l_),vI v25,vG [vS (gi l_ v25).Long.Name,.slice (g_l_.s (v25).toNat 0).a (((gi l_ v25).Long.Value).length) (g_l_.s (v25).toNat 0).c,vS (gi l_ v25).Long.Whole,vB ((gi l_ v25).Important),vU ((gi l_ v25).Origin),vB ((gi l_ v25).Attached),vI ((gi l_ v25).Layer),vI ((gi l_ v25).Weight.e0),vI ((gi l_ v25).Weight.e1),vI ((gi l_ v25).Weight.e2),vI ((gi l_ v25).Order)]]) [fun _ => oka g_l_.a ∧ 0 ≤ v25 ∧ v25 < ln l_,fun wz => V.atN (ab g_l_.a) (ao g_l_.a + (v25).toNat * 11) [vS (gi l_ v25).Long.Name,.slice (g_l_.s (v25).toNat 0).a (((gi l_ v25).Long.Value).length) (g_l_.s (v25).toNat 0).c,vS (gi l_ v25).Long.Whole,vB ((gi l_ v25).Important),vU ((gi l_ v25).Origin),vB ((gi l_ v25).Attached),vI ((gi l_ v25).Layer),vI ((gi l_ v25).Weight.e0),vI ((gi l_ v25).Weight.e1),vI ((gi l_ v25).Weight.e2),vI ((gi l_ v25).Order)] 0 wz] H27 (by decide) (by kernel_rfl) ⟨((hS.im 1 rfl).oki ho29),((hS.im 1 rfl).atA ho29 0 rfl),trivial⟩ fun _ _ H31 hb => ?_
    replace hS:=hS.below hb
    have hd:=hS.hand [] [0,1,2] rfl rfl
    refine m_stp [9,1,7,21,22,23,26] (fS [1,7,21,22,23,26] [vU origin,vL g24 v23,vL g_l_ l_,vI (ln l_),vI v25,vG [vS (gi l_ v25).Long.Name,.slice (g_l_.s (v25).toNat 0).a (((gi l_ v25).Long.Value).length) (g_l_.s (v25).toNat 0).c,vS (gi l_ v25).Long.Whole,vB ((gi l_ v25).Important),vU ((gi l_ v25).Origin),vB ((gi l_ v25).Attached),vI ((gi l_ v25).Layer),vI ((gi l_ v25).Weight.e0),vI ((gi l_ v25).Weight.e1),vI ((gi l_ v25).Weight.e2),vI ((gi l_ v25).Order)]]) H31 rfl rfl rfl rfl (o_alloc [vN,vO,vN,vF,vU 0,vF,vI 0,vI 0,vI 0,vI 0,vI 0] (z:=vG [vN,vO,vN,vF,vU 0,vF,vI 0,vI 0,vI 0,vI 0,vI 0]) hd (by kernel_rfl) rfl) (fun _ => rfl) fun _ _ v H34 hq => ?_
    obtain ⟨b32,rfl,hq⟩:=hq
    replace hS : SH M X w [eB b32 [vN,vO,vN,vF,vU 0,vF,vI 0,vI 0,vI 0,vI 0,vI 0],eO 35 tyDeclared v23 g24,eI tyDeclared l_ g_l_,gE0] _:=hS.join [] [0,1,2] rfl rfl hq
    have hd:=hS.hand [0] [1,2,3] rfl rfl
    refine m_stp0 [1,7,9,21,22,23] (fS [1,7,9,21,22,23] [vU origin,vL g24 v23,vP b32,vL g_l_ l_,vI (ln l_),vI v25]) H34 rfl rfl rfl (o_store [vS (gi l_ v25).Long.Name,.slice (g_l_.s (v25).toNat 0).a (((gi l_ v25).Long.Value).length) (g_l_.s (v25).toNat 0).c,vS (gi l_ v25).Long.Whole,vB ((gi l_ v25).Important),vU ((gi l_ v25).Origin),vB ((gi l_ v25).Attached),vI ((gi l_ v25).Layer),vI ((gi l_ v25).Weight.e0),vI ((gi l_ v25).Weight.e1),vI ((gi l_ v25).Weight.e2),vI ((gi l_ v25).Order)] H34 hd rfl rfl (by kernel_rfl) rfl rfl rfl) rfl fun _ _ H36 hq => ?_
    obtain ⟨_,hq⟩:=hq
    replace hS : SH M X w [eB b32 [vS (gi l_ v25).Long.Name,.slice (g_l_.s (v25).toNat 0).a (((gi l_ v25).Long.Value).length) (g_l_.s (v25).toNat 0).c,vS (gi l_ v25).Long.Whole,vB ((gi l_ v25).Important),vU ((gi l_ v25).Origin),vB ((gi l_ v25).Attached),vI ((gi l_ v25).Layer),vI ((gi l_ v25).Weight.e0),vI ((gi l_ v25).Weight.e1),vI ((gi l_ v25).Weight.e2),vI ((gi l_ v25).Order)],eO 35 tyDeclared v23 g24,eI tyDeclared l_ g_l_,gE0] _:=hS.join [0] [1,2,3] rfl rfl hq
    apply wl_end rfl
    refine s_reg [(vU ((gi l_ v25).Origin))] [1,7,9,21,22,23,30] (fS [1,7,9,21,22,23,30] [vU origin,vL g24 v23,vP b32,vL g_l_ l_,vI (ln l_),vI v25,vB (decide (((gi l_ v25).Origin) < origin))]) [rA b32 4 (vU ((gi l_ v25).Origin))] H36 (by kernel_rfl) ⟨((hS.bk 0 rfl).at1 rfl),trivial⟩ fun _ _ H38 hb => ?_
    replace hS:=hS.below hb
    refine w_if H38 rfl (fun hc => ?_) (fun hc => ?c64)
    case c64 =>
     replace hm:=bF hc hm
     apply w_skip
     obtain rfl:=someE hm
     replace hS : SH M X w [eO 35 tyDeclared v23 g24,eI tyDeclared l_ g_l_,gE0] _:=hS.sel [1,2,3] rfl
     exact ⟨g24,FrG.keep (ks:=[1,21,22,23,7]) H38 (by kernel_rfl),hS⟩
    replace hm:=bT hc hm
    apply w_seq
    apply wl_start
    refine wl_batch 0 3 [(.slice (g_l_.s (v25).toNat 0).a (((gi l_ v25).Long.Value).length) (g_l_.s (v25).toNat 0).c)] [1,7,9,21,22,23,33] (fS [1,7,9,21,22,23,33] [vU origin,vL g24 v23,vP b32,vL g_l_ l_,vI (ln l_),vI v25,.slice (g_l_.s (v25).toNat 0).a (((gi l_ v25).Long.Value).length) (g_l_.s (v25).toNat 0).c]) [fun wz => V.at1 ⟨b32,1,none⟩ (.slice (g_l_.s (v25).toNat 0).a (((gi l_ v25).Long.Value).length) (g_l_.s (v25).toNat 0).c) wz] H38 (by decide) (by kernel_rfl) ⟨((hS.bk 0 rfl).at1 rfl),trivial⟩ fun _ _ H40 hb => ?_
    replace hS:=hS.below hb
    replace hS : SH M X w [eI tyValue ((gi l_ v25).Long.Value) (g_l_.s (v25).toNat 0),eB b32 [vS (gi l_ v25).Long.Name,.slice (g_l_.s (v25).toNat 0).a (((gi l_ v25).Long.Value).length) (g_l_.s (v25).toNat 0).c,vS (gi l_ v25).Long.Whole,vB ((gi l_ v25).Important),vU ((gi l_ v25).Origin),vB ((gi l_ v25).Attached),vI ((gi l_ v25).Layer),vI ((gi l_ v25).Weight.e0),vI ((gi l_ v25).Weight.e1),vI ((gi l_ v25).Weight.e2),vI ((gi l_ v25).Order)],eO 35 tyDeclared v23 g24,eI tyDeclared l_ g_l_,gE0] _:=hS.addIm (tyDeclared_i0 ((hS.im 2 rfl).el ho29))
    obtain ⟨y42,hy42,hm⟩:=bindE hm
    have hd:=hS.hand [0] [0,1,2,3,4] rfl rfl
    refine m_stp [34,1,7,9,21,22,23] (fS [1,7,9,21,22,23] [vU origin,vL g24 v23,vP b32,vL g_l_ l_,vI (ln l_),vI v25]) H40 rfl rfl rfl rfl (o_callx H40 rfl rfl (wide_clone_ok (g_l_:=(g_l_.s (v25).toNat 0)) m _ _ hy42 _ _ hd)) (fun _ => rfl) fun _ _ v H46 hq => ?_
    obtain ⟨g43,rfl,hq⟩:=hq
    replace hS : SH M X w [eO 63 tyValue y42 g43,eI tyValue ((gi l_ v25).Long.Value) (g_l_.s (v25).toNat 0),eB b32 [vS (gi l_ v25).Long.Name,.slice (g_l_.s (v25).toNat 0).a (((gi l_ v25).Long.Value).length) (g_l_.s (v25).toNat 0).c,vS (gi l_ v25).Long.Whole,vB ((gi l_ v25).Important),vU ((gi l_ v25).Origin),vB ((gi l_ v25).Attached),vI ((gi l_ v25).Layer),vI ((gi l_ v25).Weight.e0),vI ((gi l_ v25).Weight.e1),vI ((gi l_ v25).Weight.e2),vI ((gi l_ v25).Order)],eO 35 tyDeclared v23 g24,eI tyDeclared l_ g_l_,gE0] _:=hS.join [0] [0,1,2,3,4] rfl rfl hq
    refine wl_batch 4 6 [] [1,7,9,21,22,23,34,36] (fS [1,7,9,21,22,23,34,36] [vU origin,vL g24 v23,vP b32,vL g_l_ l_,vI (ln l_),vI v25,vL g43 y42,vA b32 1]) [] H46 (by decide) (by kernel_rfl) trivial fun _ _ H48 hb => ?_
    replace hS:=hS.below hb
    have hd:=hS.hand [2] [0,1,3,4,5] rfl rfl
    refine m_stp0 [1,7,9,21,22,23] (fS [1,7,9,21,22,23] [vU origin,vL g24 v23,vP b32,vL g_l_ l_,vI (ln l_),vI v25]) H48 rfl rfl rfl (o_store [vS (gi l_ v25).Long.Name,vL g43 y42,vS (gi l_ v25).Long.Whole,vB ((gi l_ v25).Important),vU ((gi l_ v25).Origin),vB ((gi l_ v25).Attached),vI ((gi l_ v25).Layer),vI ((gi l_ v25).Weight.e0),vI ((gi l_ v25).Weight.e1),vI ((gi l_ v25).Weight.e2),vI ((gi l_ v25).Order)] H48 hd rfl rfl (by kernel_rfl) rfl rfl rfl) rfl fun _ _ H50 hq => ?_
    obtain ⟨_,hq⟩:=hq
    replace hS : SH M X w [eB b32 [vS (gi l_ v25).Long.Name,vL g43 y42,vS (gi l_ v25).Long.Whole,vB ((gi l_ v25).Important),vU ((gi l_ v25).Origin),vB ((gi l_ v25).Attached),vI ((gi l_ v25).Layer),vI ((gi l_ v25).Weight.e0),vI ((gi l_ v25).Weight.e1),vI ((gi l_ v25).Weight.e2),vI ((gi l_ v25).Order)],eO 63 tyValue y42 g43,eI tyValue ((gi l_ v25).Long.Value) (g_l_.s (v25).toNat 0),eO 35 tyDeclared v23 g24,eI tyDeclared l_ g_l_,gE0] _:=hS.join [2] [0,1,3,4,5] rfl rfl hq
    apply wl_end rfl
    replace hS : SH M X w [eB b32 [vS (gi l_ v25).Long.Name,vL g43 y42,vS (gi l_ v25).Long.Whole,vB ((gi l_ v25).Important),vU ((gi l_ v25).Origin),vB ((gi l_ v25).Attached),vI ((gi l_ v25).Layer),vI ((gi l_ v25).Weight.e0),vI ((gi l_ v25).Weight.e1),vI ((gi l_ v25).Weight.e2),vI ((gi l_ v25).Order)],eO 63 tyValue y42 g43,eO 35 tyDeclared v23 g24,eI tyDeclared l_ g_l_,gE0] _:=hS.sel [0,1,3,4,5] rfl
    apply wl_start
    refine wl_batch 0 2 [(vG [vS (gi l_ v25).Long.Name,vL g43 y42,vS (gi l_ v25).Long.Whole,vB ((gi l_ v25).Important),vU ((gi l_ v25).Origin),vB ((gi l_ v25).Attached),vI ((gi l_ v25).Layer),vI ((gi l_ v25).Weight.e0),vI ((gi l_ v25).Weight.e1),vI ((gi l_ v25).Weight.e2),vI ((gi l_ v25).Order)])] [1,21,22,23,37,38] (fS [1,21,22,23,37,38] [vU origin,vL g_l_ l_,vI (ln l_),vI v25,vL g24 v23,vG [vS (gi l_ v25).Long.Name,vL g43 y42,vS (gi l_ v25).Long.Whole,vB ((gi l_ v25).Important),vU ((gi l_ v25).Origin),vB ((gi l_ v25).Attached),vI ((gi l_ v25).Layer),vI ((gi l_ v25).Weight.e0),vI ((gi l_ v25).Weight.e1),vI ((gi l_ v25).Weight.e2),vI ((gi l_ v25).Order)]]) [rN b32 0 [vS (gi l_ v25).Long.Name,vL g43 y42,vS (gi l_ v25).Long.Whole,vB ((gi l_ v25).Important),vU ((gi l_ v25).Origin),vB ((gi l_ v25).Attached),vI ((gi l_ v25).Layer),vI ((gi l_ v25).Weight.e0),vI ((gi l_ v25).Weight.e1),vI ((gi l_ v25).Weight.e2),vI ((gi l_ v25).Order)]] H50 (by decide) (by kernel_rfl) ⟨((hS.bk 0 rfl).atD rfl),trivial⟩ fun _ _ H52 hb => ?_
    replace hS:=hS.below hb
    replace hS : SH M X w [eI tyValue y42 g43,eB b32 [vS (gi l_ v25).Long.Name,vL g43 y42,vS (gi l_ v25).Long.Whole,vB ((gi l_ v25).Important),vU ((gi l_ v25).Origin),vB ((gi l_ v25).Attached),vI ((gi l_ v25).Layer),vI ((gi l_ v25).Weight.e0),vI ((gi l_ v25).Weight.e1),vI ((gi l_ v25).Weight.e2),vI ((gi l_ v25).Order)],eO 35 tyDeclared v23 g24,eI tyDeclared l_ g_l_,gE0] _:=SH.frz1 (hS.sel [1,0,2,3,4] rfl)
    have hd:=hS.hand [0] [0,1,2,3,4] rfl rfl
    refine m_stp [39,1,21,22,23,37] (fS [1,21,22,23,37] [vU origin,vL g_l_ l_,vI (ln l_),vI v25,vL g24 v23]) H52 rfl rfl rfl rfl (o_lit (T:=tyDeclared) (E:=35) (zv:=vG [vN,vO,vN,vF,vU 0,vF,vI 0,vI 0,vI 0,vI 0,vI 0]) [vS (gi l_ v25).Long.Name,vL g43 y42,vS (gi l_ v25).Long.Whole,vB ((gi l_ v25).Important),vU ((gi l_ v25).Origin),vB ((gi l_ v25).Attached),vI ((gi l_ v25).Layer),vI ((gi l_ v25).Weight.e0),vI ((gi l_ v25).Weight.e1),vI ((gi l_ v25).Weight.e2),vI ((gi l_ v25).Order)] ([(TDeclared.mk (TLong.mk ((gi l_ v25).Long.Name) y42 ((gi l_ v25).Long.Whole)) ((gi l_ v25).Important) ((gi l_ v25).Origin) ((gi l_ v25).Attached) ((gi l_ v25).Layer) ((gi l_ v25).Weight) ((gi l_ v25).Order))] : List TDeclared) [gL [g43]] _ H52 hd rfl (by kernel_rfl) (by kernel_rfl) (by kernel_rfl) (by kernel_rfl) (by kernel_rfl) (by kernel_rfl) (by kernel_rfl) rfl (InnL.cons (tyDeclared_mk (hd.im 0 rfl)) InnL.nil)) (fun _ => rfl) fun _ _ v H56 hq => ?_
    obtain ⟨g53,rfl,hq⟩:=hq
    replace hS : SH M X w [eO 35 tyDeclared ([(TDeclared.mk (TLong.mk ((gi l_ v25).Long.Name) y42 ((gi l_ v25).Long.Whole)) ((gi l_ v25).Important) ((gi l_ v25).Origin) ((gi l_ v25).Attached) ((gi l_ v25).Layer) ((gi l_ v25).Weight) ((gi l_ v25).Order))] : List TDeclared) g53,eI tyValue y42 g43,eB b32 [vS (gi l_ v25).Long.Name,vL g43 y42,vS (gi l_ v25).Long.Whole,vB ((gi l_ v25).Important),vU ((gi l_ v25).Origin),vB ((gi l_ v25).Attached),vI ((gi l_ v25).Layer),vI ((gi l_ v25).Weight.e0),vI ((gi l_ v25).Weight.e1),vI ((gi l_ v25).Weight.e2),vI ((gi l_ v25).Order)],eO 35 tyDeclared v23 g24,eI tyDeclared l_ g_l_,gE0] _:=hS.join [0] [0,1,2,3,4] rfl rfl hq
    obtain ⟨ho57,hm⟩:=chkE hm
    obtain ⟨q58,hq58,hm⟩:=letE hm
    have hd:=hS.hand [3,0] [1,2,4,5] rfl rfl
    refine m_stp [40,1,21,22,23] (fS [1,21,22,23] [vU origin,vL g_l_ l_,vI (ln l_),vI v25]) H56 rfl rfl rfl rfl (o_app2 (T:=tyDeclared) (zv:=vG [vN,vO,vN,vF,vU 0,vF,vI 0,vI 0,vI 0,vI 0,vI 0]) (g1:=g24) (g2:=g53) (l1:=v23) (l2:=([(TDeclared.mk (TLong.mk ((gi l_ v25).Long.Name) y42 ((gi l_ v25).Long.Whole)) ((gi l_ v25).Important) ((gi l_ v25).Origin) ((gi l_ v25).Attached) ((gi l_ v25).Layer) ((gi l_ v25).Weight) ((gi l_ v25).Order))] : List TDeclared)) q58 hq58.symm H56 hd rfl rfl rfl rfl rfl rfl rfl (by kernel_rfl) (by kernel_rfl) rfl rfl ho57) (fun _ => rfl) fun _ _ v H60 hq => ?_
    obtain ⟨g61,rfl,hq⟩:=hq
    replace hS : SH M X w [eO 35 tyDeclared q58 g61,eO 35 tyDeclared ([(TDeclared.mk (TLong.mk ((gi l_ v25).Long.Name) y42 ((gi l_ v25).Long.Whole)) ((gi l_ v25).Important) ((gi l_ v25).Origin) ((gi l_ v25).Attached) ((gi l_ v25).Layer) ((gi l_ v25).Weight) ((gi l_ v25).Order))] : List TDeclared) g53,eI tyValue y42 g43,eB b32 [vS (gi l_ v25).Long.Name,vL g43 y42,vS (gi l_ v25).Long.Whole,vB ((gi l_ v25).Important),vU ((gi l_ v25).Origin),vB ((gi l_ v25).Attached),vI ((gi l_ v25).Layer),vI ((gi l_ v25).Weight.e0),vI ((gi l_ v25).Weight.e1),vI ((gi l_ v25).Weight.e2),vI ((gi l_ v25).Order)],eI tyDeclared l_ g_l_,gE0] _:=hS.join [3,0] [1,2,4,5] rfl rfl hq
    refine wl_batch 4 5 [] [1,7,21,22,23] (fS [1,7,21,22,23] [vU origin,vL g61 q58,vL g_l_ l_,vI (ln l_),vI v25]) [] H60 (by decide) (by kernel_rfl) trivial fun _ _ H63 hb => ?_
    replace hS:=hS.below hb
    apply wl_end rfl
    replace hS : SH M X w [eO 35 tyDeclared q58 g61,eI tyDeclared l_ g_l_,gE0] _:=hS.sel [0,4,5] rfl
    obtain rfl:=someE hm
    exact ⟨g61,FrG.keep (ks:=[1,21,22,23,7]) H63 (by kernel_rfl),hS⟩
   ·rintro _ _ ⟨g65,H,hS⟩
    refine w_reg [] [1,7,21,22,23] (fS [1,7,21,22,23] [vU origin,vL g65 z28,vL g_l_ l_,vI (ln l_),vI (w64 (v25 + 1))]) [] H (by kernel_rfl) trivial fun _ _ H67 hb => ?_
    replace hS:=hS.below hb
    exact ⟨_,Nat.lt_succ_self _,z28,w64 (v25 + 1),g65,hm,FrG.keep (ks:=[1,21,22,7,23]) H67 (by kernel_rfl),hS⟩
 ·rintro _ _ ⟨g71,H,hS⟩
  replace hS : SH M X w [eO 35 tyDeclared z19 g71,gE0] _:=hS.sel [0,2] rfl
  refine s_reg [] [4,5] (fS [4,5] [vL g71 z19,vI 0]) [] H (by kernel_rfl) trivial fun _ _ H74 hb => ?_
  replace hS:=hS.below hb
  apply w_ret
  obtain rfl:=someE hm
  exact retR2 H74 rfl rfl rfl ⟨_,rfl,g71,rfl,(hS.sel [0] rfl)⟩
theorem wide_Lesser_ok {g_l_ : Gh} (m : Nat) (l_ : List TDeclared) (origin : Int) (r : (List TDeclared) × Int) (hm : wide_Lesser m l_ origin = some r) (M : Av) (w : World) (hS : S0 M [eI tyDeclared l_ g_l_,gE0] w) : DoesX Tryz.prog 15 ⟨[vL g_l_ l_,vU origin]⟩ w (fun v w' => ∃ (g901 : Gh),v = vW [vL g901 r.1,vI r.2] ∧ SH M (fpl [eI tyDeclared l_ g_l_,gE0]) w [eO 35 tyDeclared r.1 g901] w'):=⟨Tryz.call15 _,wide_Lesser_w M m   l_ origin r hm w hS⟩

def r04_Same_S (rec_ : (List TValue) → (List TValue) → Option (Bool)) : Prop:=∀ (g_a_ : Gh) (g_b_ : Gh) (M : Av) (a_ : List TValue) (b_ : List TValue) (r : Bool),rec_ a_ b_ = some r → ∀ w,S0 M [eI tyValue a_ g_a_,eI tyValue b_ g_b_] w → Calls Tryz.prog 49 ⟨[vL g_a_ a_,vL g_b_ b_]⟩ w (fun e w' => ∃ v,e = .returned v ∧ v = vB r ∧ SH M (fpl [eI tyValue a_ g_a_,eI tyValue b_ g_b_]) w [] w')
theorem r04_Same_w (m : Nat) : ∀ (k : Nat),r04_Same_S (r04_Same_r m  k):=by
 intro k
 induction k with
 | zero => intro g_a_ g_b_ M a_ b_ r hm; exact noneE hm
 | succ k ih =>
  intro g_a_ g_b_ M a_ b_ r hm w hS
  rw [r04_Same_r] at hm
  have hS0 : SH M (fpl [eI tyValue a_ g_a_,eI tyValue b_ g_b_]) w [eI tyValue a_ g_a_,eI tyValue b_ g_b_] w:=hS
  generalize hX : fpl [eI tyValue a_ g_a_,eI tyValue b_ g_b_] = X at hS0 ⊢
  clear hS hX
  have hS:=hS0
  clear hS0
  refine calls_entryP Tryz.func49 rfl Tryz.ntmps49 rfl fun _ H => ?_
  refine s_reg [] [0,1] (fS [0,1] [vL g_a_ a_,vL g_b_ b_]) [] H (by kernel_rfl) trivial fun _ _ H2 hb => ?_
  replace hS:=hS.below hb
  apply w_seq
  refine s_reg [] [0,1,10] (fS [0,1,10] [vL g_a_ a_,vL g_b_ b_,vB ((ln a_) != (ln b_))]) [] H2 (by kernel_rfl) trivial fun _ _ H4 hb => ?_
  replace hS:=hS.below hb
  refine w_if H4 rfl (fun hc => ?c29) (fun hc => ?_)
  case c29 =>
   replace hm:=bT hc hm
   refine s_reg [] [4] [(4,[],vF)] [] H4 (by kernel_rfl) trivial fun _ _ H6 hb => ?_
   replace hS:=hS.below hb
   replace hS : SH M X w [] _:=hS.sel [] rfl
   apply w_ret
   obtain rfl:=someE hm
   exact retR1 H6 rfl rfl ⟨_,rfl,rfl,(hS.sel [] rfl)⟩
  replace hm:=bF hc hm
  apply w_skip
  obtain ⟨z7,hz,hm_z7⟩:=bindE hm
  refine w_cut (fun a' w' => ∃ s_z7 : Unit,z7 = Sum.inr s_z7 ∧ Fr 42 [] a' ∧ SH M X w [eI tyValue a_ g_a_,eI tyValue b_ g_b_] w') ?_ ?_
  ·replace hm:=hz
   refine s_reg [] [0,1,5] (fS [0,1,5] [vL g_a_ a_,vL g_b_ b_,vI 0]) [] H4 (by kernel_rfl) trivial fun _ _ H9 hb => ?_
   replace hS:=hS.below hb
   apply w_block
   refine w_loop (fun kk a' w' => ∃ (v10 : Int),r04_Same_L1 m a_ b_ (r04_Same_r m k) kk v10 = some _ ∧ Fr 42 (fS [0,1,5] [vL g_a_ a_,vL g_b_ b_,vI v10]) a' ∧ SH M X w [eI tyValue a_ g_a_,eI tyValue b_ g_b_] w') ⟨_,0,hm,FrG.keep (ks:=[0,1,5]) H9 (by kernel_rfl),hS⟩ ?_
   clear hm H9 hS
   rintro kk _ _ ⟨v10,hm,H,hS⟩
   cases kk with
   | zero => exact noneE hm
   | succ kk =>
    rw [r04_Same_L1] at hm
    apply w_seq
    refine s_reg [] [0,1,5,14] (fS [0,1,5,14] [vL g_a_ a_,vL g_b_ b_,vI v10,vB (decide (v10 < (ln a_)))]) [] H (by kernel_rfl) trivial fun _ _ H12 hb => ?_
    replace hS:=hS.below hb
    refine w_if H12 rfl (fun hc => ?_) (fun hc => ?c24)
    case c24 =>
     replace hm:=bF hc hm
     apply w_exit rfl
     obtain rfl:=someE hm
     exact ⟨_,rfl,FrG.keep (ks:=[]) H12 (by kernel_rfl),hS⟩
    replace hm:=bT hc hm
    apply w_skip
    apply w_seq
    apply w_block
    obtain ⟨ho13,hm⟩:=chkE hm
    obtain ⟨ho14,hm⟩:=chkE hm
    obtain ⟨x15,hx15,hm⟩:=letE hm
    obtain ⟨y16,hy16,hm⟩:=bindE hm
    refine s_draw [(vG [vU ((gi a_ v10).Token.Kind),vS (gi a_ v10).Token.Text,vI ((gi a_ v10).Token.Num),vS (gi a_ v10).Token.Unit,vB ((gi a_ v10).Token.Flag)]),(vG [vU ((gi b_ v10).Token.Kind),vS (gi b_ v10).Token.Text,vI ((gi b_ v10).Token.Num),vS (gi b_ v10).Token.Unit,vB ((gi b_ v10).Token.Flag)]),(.slice (g_a_.s (v10).toNat 0).a (((gi a_ v10).List_).length) (g_a_.s (v10).toNat 0).c),(.slice (g_b_.s (v10).toNat 0).a (((gi b_ v10).List_).length) (g_b_.s (v10).toNat 0).c),(vB y16)] [0,1,5,41] (fS [0,1,5,41] [vL g_a_ a_,vL g_b_ b_,vI v10,vB (cond x15 true (!y16))]) [fun _ => oka g_a_.a ∧ 0 ≤ v10 ∧ v10 < ln a_,fun wz => V.atN (ab g_a_.a) (ao g_a_.a + (v10).toNat * 6) [vU ((gi a_ v10).Token.Kind),vS (gi a_ v10).Token.Text,vI ((gi a_ v10).Token.Num),vS (gi a_ v10).Token.Unit,vB ((gi a_ v10).Token.Flag)] 0 wz,fun _ => oka g_b_.a ∧ 0 ≤ v10 ∧ v10 < ln b_,fun wz => V.atN (ab g_b_.a) (ao g_b_.a + (v10).toNat * 6) [vU ((gi b_ v10).Token.Kind),vS (gi b_ v10).Token.Text,vI ((gi b_ v10).Token.Num),vS (gi b_ v10).Token.Unit,vB ((gi b_ v10).Token.Flag)] 0 wz,fun _ => (x15 = false ∧ True → oka g_a_.a ∧ 0 ≤ v10 ∧ v10 < ln a_),fun wz => (x15 = false ∧ True → V.at1 ⟨ab g_a_.a,ao g_a_.a + (v10).toNat * 6 + 5,none⟩ (.slice (g_a_.s (v10).toNat 0).a (((gi a_ v10).List_).length) (g_a_.s (v10).toNat 0).c) wz),fun _ => (x15 = false ∧ True → oka g_b_.a ∧ 0 ≤ v10 ∧ v10 < ln b_),fun wz => (x15 = false ∧ True → V.at1 ⟨ab g_b_.a,ao g_b_.a + (v10).toNat * 6 + 5,none⟩ (.slice (g_b_.s (v10).toNat 0).a (((gi b_ v10).List_).length) (g_b_.s (v10).toNat 0).c) wz),fun wz => (x15 = false ∧ True → RetB Tryz.prog 49 ⟨[.slice (g_a_.s (v10).toNat 0).a (((gi a_ v10).List_).length) (g_a_.s (v10).toNat 0).c,.slice (g_b_.s (v10).toNat 0).a (((gi b_ v10).List_).length) (g_b_.s (v10).toNat 0).c]⟩ (vB y16) wz)] H12 (by kernel_rfl) (by kernel_rfl) (by subst hx15; kernel_rfl) ⟨((hS.im 0 rfl).oki ho13),((hS.im 0 rfl).atA ho13 0 rfl),((hS.im 1 rfl).oki ho14),((hS.im 1 rfl).atA ho14 0 rfl),fun hg => (hS.im 0 rfl).oki ho13,fun hg => (hS.im 0 rfl).at1 ho13 5 rfl,fun hg => (hS.im 1 rfl).oki ho14,fun hg => (hS.im 1 rfl).at1 ho14 5 rfl,fun hg => retB_of (s0im (s0im s0nil (tyValue_i0 ((hS.im 1 rfl).el ho14))) (tyValue_i0 ((hS.im 0 rfl).el ho13))) (Tryz.call49 _) (fun w' h' => ih ((g_a_.s (v10).toNat 0)) ((g_b_.s (v10).toNat 0)) F0 _ _ _ (bF (hg.1) hy16) w' h'),trivial⟩ fun _ _ H18 hb => ?_
    replace hS:=hS.below hb
    refine w_if H18 rfl (fun hc => ?_) (fun hc => ?c23)
    case c23 =>
     replace hm:=bF hc hm
     apply w_skip
     refine w_reg [] [0,1,5] (fS [0,1,5] [vL g_a_ a_,vL g_b_ b_,vI (w64 (v10 + 1))]) [] H18 (by kernel_rfl) trivial fun _ _ H22 hb => ?_
     replace hS:=hS.below hb
     exact ⟨_,Nat.lt_succ_self _,w64 (v10 + 1),hm,FrG.keep (ks:=[0,1,5]) H22 (by kernel_rfl),hS⟩
    replace hm:=bT hc hm
    refine s_reg [] [4] [(4,[],vF)] [] H18 (by kernel_rfl) trivial fun _ _ H20 hb => ?_
    replace hS:=hS.below hb
    apply w_ret
    obtain rfl:=someE hm
    have hm:=hm_z7
    obtain rfl:=someE hm
    exact retR1 H20 rfl rfl ⟨_,rfl,rfl,(hS.sel [] rfl)⟩
  ·rintro _ _ ⟨s_z7,hz,H,hS⟩
   subst hz
   replace hm:=sumR hm_z7
   replace hS : SH M X w [] _:=hS.sel [] rfl
   refine s_reg [] [4] [(4,[],vT)] [] H (by kernel_rfl) trivial fun _ _ H27 hb => ?_
   replace hS:=hS.below hb
   apply w_ret
   obtain rfl:=someE hm
   exact retR1 H27 rfl rfl ⟨_,rfl,rfl,(hS.sel [] rfl)⟩
theorem r04_Same_ok {g_a_ : Gh} {g_b_ : Gh} (m : Nat) (a_ : List TValue) (b_ : List TValue) (r : Bool) (hm : r04_Same m a_ b_ = some r) (w : World) (hL : S0 F0 [eI tyValue a_ g_a_,eI tyValue b_ g_b_] w ∧ fpl [eI tyValue a_ g_a_,eI tyValue b_ g_b_] = []) : RetB Tryz.prog 49 ⟨[vL g_a_ a_,vL g_b_ b_]⟩ (vB r) w:=retB_of hL (Tryz.call49 _) (fun w' h => r04_Same_w m   m g_a_ g_b_ F0 a_ b_ r hm w' h)

theorem r27_SameLongs_w {g_a_ : Gh} {g_b_ : Gh} (M : Av) (m : Nat) (a_ : List TLong) (b_ : List TLong) (r : Bool) (hm : r27_SameLongs m a_ b_ = some r) (w : World) (hS : S0 M [eI tyLong a_ g_a_,eI tyLong b_ g_b_] w) : Calls Tryz.prog 27 ⟨[vL g_a_ a_,vL g_b_ b_]⟩ w (fun e w' => ∃ v,e = .returned v ∧ v = vB r ∧ SH M (fpl [eI tyLong a_ g_a_,eI tyLong b_ g_b_]) w [] w'):=by
 rw [r27_SameLongs] at hm
 have hS0 : SH M (fpl [eI tyLong a_ g_a_,eI tyLong b_ g_b_]) w [eI tyLong a_ g_a_,eI tyLong b_ g_b_] w:=hS
 generalize hX : fpl [eI tyLong a_ g_a_,eI tyLong b_ g_b_] = X at hS0 ⊢
 clear hS hX
 have hS:=hS0
 clear hS0
 refine calls_entryP Tryz.func27 rfl Tryz.ntmps27 rfl fun _ H => ?_
 refine s_reg [] [0,1] (fS [0,1] [vL g_a_ a_,vL g_b_ b_]) [] H (by kernel_rfl) trivial fun _ _ H2 hb => ?_
 replace hS:=hS.below hb
 apply w_seq
 refine s_reg [] [0,1,10] (fS [0,1,10] [vL g_a_ a_,vL g_b_ b_,vB ((ln a_) != (ln b_))]) [] H2 (by kernel_rfl) trivial fun _ _ H4 hb => ?_
 replace hS:=hS.below hb
 refine w_if H4 rfl (fun hc => ?c30) (fun hc => ?_)
 case c30 =>
  replace hm:=bT hc hm
  refine s_reg [] [4] [(4,[],vF)] [] H4 (by kernel_rfl) trivial fun _ _ H6 hb => ?_
  replace hS:=hS.below hb
  replace hS : SH M X w [] _:=hS.sel [] rfl
  apply w_ret
  obtain rfl:=someE hm
  exact retR1 H6 rfl rfl ⟨_,rfl,rfl,(hS.sel [] rfl)⟩
 replace hm:=bF hc hm
 apply w_skip
 obtain ⟨z7,hz,hm_z7⟩:=bindE hm
 refine w_cut (fun a' w' => ∃ s_z7 : Unit,z7 = Sum.inr s_z7 ∧ Fr 55 [] a' ∧ SH M X w [eI tyLong a_ g_a_,eI tyLong b_ g_b_] w') ?_ ?_
 ·replace hm:=hz
  refine s_reg [] [0,1,5] (fS [0,1,5] [vL g_a_ a_,vL g_b_ b_,vI 0]) [] H4 (by kernel_rfl) trivial fun _ _ H9 hb => ?_
  replace hS:=hS.below hb
  apply w_block
  refine w_loop (fun kk a' w' => ∃ (v10 : Int),r27_SameLongs_L1 m a_ b_ kk v10 = some _ ∧ Fr 55 (fS [0,1,5] [vL g_a_ a_,vL g_b_ b_,vI v10]) a' ∧ SH M X w [eI tyLong a_ g_a_,eI tyLong b_ g_b_] w') ⟨_,0,hm,FrG.keep (ks:=[0,1,5]) H9 (by kernel_rfl),hS⟩ ?_
  clear hm H9 hS
  rintro kk _ _ ⟨v10,hm,H,hS⟩
  cases kk with
  | zero => exact noneE hm
  | succ kk =>
   rw [r27_SameLongs_L1] at hm
   apply w_seq
   refine s_reg [] [0,1,5,14] (fS [0,1,5,14] [vL g_a_ a_,vL g_b_ b_,vI v10,vB (decide (v10 < (ln a_)))]) [] H (by kernel_rfl) trivial fun _ _ H12 hb => ?_
   replace hS:=hS.below hb
   refine w_if H12 rfl (fun hc => ?_) (fun hc => ?c25)
   case c25 =>
    replace hm:=bF hc hm
    apply w_exit rfl
    obtain rfl:=someE hm
    exact ⟨_,rfl,FrG.keep (ks:=[]) H12 (by kernel_rfl),hS⟩
   replace hm:=bT hc hm
   apply w_skip
   apply w_seq
   apply w_block
   obtain ⟨ho13,hm⟩:=chkE hm
   obtain ⟨ho14,hm⟩:=chkE hm
   obtain ⟨x15,hx15,hm⟩:=letE hm
   obtain ⟨x16,hx16,hm⟩:=letE hm
   obtain ⟨y17,hy17,hm⟩:=bindE hm
   refine s_draw [(vS (gi a_ v10).Name),(vS (gi b_ v10).Name),(vS (gi a_ v10).Whole),(vS (gi b_ v10).Whole),(.slice (g_a_.s (v10).toNat 0).a (((gi a_ v10).Value).length) (g_a_.s (v10).toNat 0).c),(.slice (g_b_.s (v10).toNat 0).a (((gi b_ v10).Value).length) (g_b_.s (v10).toNat 0).c),(vB y17)] [0,1,5,54] (fS [0,1,5,54] [vL g_a_ a_,vL g_b_ b_,vI v10,vB (cond x16 true (!y17))]) [fun _ => oka g_a_.a ∧ 0 ≤ v10 ∧ v10 < ln a_,fun wz => V.at1 ⟨ab g_a_.a,ao g_a_.a + (v10).toNat * 3,none⟩ (vS (gi a_ v10).Name) wz,fun _ => oka g_b_.a ∧ 0 ≤ v10 ∧ v10 < ln b_,fun wz => V.at1 ⟨ab g_b_.a,ao g_b_.a + (v10).toNat * 3,none⟩ (vS (gi b_ v10).Name) wz,fun _ => (x15 = false ∧ True → oka g_a_.a ∧ 0 ≤ v10 ∧ v10 < ln a_),fun wz => (x15 = false ∧ True → V.at1 ⟨ab g_a_.a,ao g_a_.a + (v10).toNat * 3 + 2,none⟩ (vS (gi a_ v10).Whole) wz),fun _ => (x15 = false ∧ True → oka g_b_.a ∧ 0 ≤ v10 ∧ v10 < ln b_),fun wz => (x15 = false ∧ True → V.at1 ⟨ab g_b_.a,ao g_b_.a + (v10).toNat * 3 + 2,none⟩ (vS (gi b_ v10).Whole) wz),fun _ => (x16 = false ∧ True → oka g_a_.a ∧ 0 ≤ v10 ∧ v10 < ln a_),fun wz => (x16 = false ∧ True → V.at1 ⟨ab g_a_.a,ao g_a_.a + (v10).toNat * 3 + 1,none⟩ (.slice (g_a_.s (v10).toNat 0).a (((gi a_ v10).Value).length) (g_a_.s (v10).toNat 0).c) wz),fun _ => (x16 = false ∧ True → oka g_b_.a ∧ 0 ≤ v10 ∧ v10 < ln b_),fun wz => (x16 = false ∧ True → V.at1 ⟨ab g_b_.a,ao g_b_.a + (v10).toNat * 3 + 1,none⟩ (.slice (g_b_.s (v10).toNat 0).a (((gi b_ v10).Value).length) (g_b_.s (v10).toNat 0).c) wz),fun wz => (x16 = false ∧ True → RetB Tryz.prog 49 ⟨[.slice (g_a_.s (v10).toNat 0).a (((gi a_ v10).Value).length) (g_a_.s (v10).toNat 0).c,.slice (g_b_.s (v10).toNat 0).a (((gi b_ v10).Value).length) (g_b_.s (v10).toNat 0).c]⟩ (vB y17) wz)] H12 (by kernel_rfl) (by kernel_rfl) (by subst hx15 hx16; kernel_rfl) ⟨((hS.im 0 rfl).oki ho13),((hS.im 0 rfl).at1 ho13 0 rfl),((hS.im 1 rfl).oki ho14),((hS.im 1 rfl).at1 ho14 0 rfl),fun hg => (hS.im 0 rfl).oki ho13,fun hg => (hS.im 0 rfl).at1 ho13 2 rfl,fun hg => (hS.im 1 rfl).oki ho14,fun hg => (hS.im 1 rfl).at1 ho14 2 rfl,fun hg => (hS.im 0 rfl).oki ho13,fun hg => (hS.im 0 rfl).at1 ho13 1 rfl,fun hg => (hS.im 1 rfl).oki ho14,fun hg => (hS.im 1 rfl).at1 ho14 1 rfl,fun hg => r04_Same_ok (g_a_:=(g_a_.s (v10).toNat 0)) (g_b_:=(g_b_.s (v10).toNat 0)) m _ _ _ (bF (hg.1) hy17) _ (s0im (s0im s0nil (tyLong_i0 ((hS.im 1 rfl).el ho14))) (tyLong_i0 ((hS.im 0 rfl).el ho13))),trivial⟩ fun _ _ H19 hb => ?_
   replace hS:=hS.below hb
   refine w_if H19 rfl (fun hc => ?_) (fun hc => ?c24)
   case c24 =>
    replace hm:=bF hc hm
    apply w_skip
    refine w_reg [] [0,1,5] (fS [0,1,5] [vL g_a_ a_,vL g_b_ b_,vI (w64 (v10 + 1))]) [] H19 (by kernel_rfl) trivial fun _ _ H23 hb => ?_
    replace hS:=hS.below hb
    exact ⟨_,Nat.lt_succ_self _,w64 (v10 + 1),hm,FrG.keep (ks:=[0,1,5]) H23 (by kernel_rfl),hS⟩
   replace hm:=bT hc hm
   refine s_reg [] [4] [(4,[],vF)] [] H19 (by kernel_rfl) trivial fun _ _ H21 hb => ?_
   replace hS:=hS.below hb
   apply w_ret
   obtain rfl:=someE hm
   have hm:=hm_z7
   obtain rfl:=someE hm
   exact retR1 H21 rfl rfl ⟨_,rfl,rfl,(hS.sel [] rfl)⟩
 ·rintro _ _ ⟨s_z7,hz,H,hS⟩
  subst hz
  replace hm:=sumR hm_z7
  replace hS : SH M X w [] _:=hS.sel [] rfl
  refine s_reg [] [4] [(4,[],vT)] [] H (by kernel_rfl) trivial fun _ _ H28 hb => ?_
  replace hS:=hS.below hb
  apply w_ret
  obtain rfl:=someE hm
  exact retR1 H28 rfl rfl ⟨_,rfl,rfl,(hS.sel [] rfl)⟩
theorem r27_SameLongs_ok {g_a_ : Gh} {g_b_ : Gh} (m : Nat) (a_ : List TLong) (b_ : List TLong) (r : Bool) (hm : r27_SameLongs m a_ b_ = some r) (w : World) (hL : S0 F0 [eI tyLong a_ g_a_,eI tyLong b_ g_b_] w ∧ fpl [eI tyLong a_ g_a_,eI tyLong b_ g_b_] = []) : RetB Tryz.prog 27 ⟨[vL g_a_ a_,vL g_b_ b_]⟩ (vB r) w:=retB_of hL (Tryz.call27 _) (fun w' h => r27_SameLongs_w F0 m   a_ b_ r hm w' h)

theorem r29_SameOne_w {g_a__0 : Gh} {g_b__0 : Gh} (M : Av) (m : Nat) (a_ : TDeclared) (b_ : TDeclared) (r : Bool) (hm : r29_SameOne m a_ b_ = some r) (w : World) (hS : S0 M [eI tyValue a_.Long.Value g_a__0,eI tyValue b_.Long.Value g_b__0] w) : Calls Tryz.prog 10 ⟨[vG [vS a_.Long.Name,vL g_a__0 a_.Long.Value,vS a_.Long.Whole,vB a_.Important,vU a_.Origin,vB a_.Attached,vI a_.Layer,vI a_.Weight.e0,vI a_.Weight.e1,vI a_.Weight.e2,vI a_.Order],vG [vS b_.Long.Name,vL g_b__0 b_.Long.Value,vS b_.Long.Whole,vB b_.Important,vU b_.Origin,vB b_.Attached,vI b_.Layer,vI b_.Weight.e0,vI b_.Weight.e1,vI b_.Weight.e2,vI b_.Order]]⟩ w (fun e w' => ∃ v,e = .returned v ∧ v = vB r ∧ SH M (fpl [eI tyValue a_.Long.Value g_a__0,eI tyValue b_.Long.Value g_b__0]) w [] w'):=by
 rw [r29_SameOne] at hm
 have hS0 : SH M (fpl [eI tyValue a_.Long.Value g_a__0,eI tyValue b_.Long.Value g_b__0]) w [eI tyValue a_.Long.Value g_a__0,eI tyValue b_.Long.Value g_b__0] w:=hS
 generalize hX : fpl [eI tyValue a_.Long.Value g_a__0,eI tyValue b_.Long.Value g_b__0] = X at hS0 ⊢
 clear hS hX
 have hS:=hS0
 clear hS0
 refine calls_entryP Tryz.func10 rfl Tryz.ntmps10 rfl fun _ H => ?_
 apply w_seq
 apply wl_start
 have hd:=hS.hand [] [0,1] rfl rfl
 refine m_stp [2,1] [(1,[],vG [vS b_.Long.Name,vL g_b__0 b_.Long.Value,vS b_.Long.Whole,vB b_.Important,vU b_.Origin,vB b_.Attached,vI b_.Layer,vI b_.Weight.e0,vI b_.Weight.e1,vI b_.Weight.e2,vI b_.Order])] H rfl rfl rfl rfl (o_box [vS a_.Long.Name,vL g_a__0 a_.Long.Value,vS a_.Long.Whole,vB a_.Important,vU a_.Origin,vB a_.Attached,vI a_.Layer,vI a_.Weight.e0,vI a_.Weight.e1,vI a_.Weight.e2,vI a_.Order] H hd rfl rfl) (fun _ => rfl) fun _ _ v H3 hq => ?_
 obtain ⟨b1,rfl,hq⟩:=hq
 replace hS : SH M X w [eB b1 [vS a_.Long.Name,vL g_a__0 a_.Long.Value,vS a_.Long.Whole,vB a_.Important,vU a_.Origin,vB a_.Attached,vI a_.Layer,vI a_.Weight.e0,vI a_.Weight.e1,vI a_.Weight.e2,vI a_.Order],eI tyValue a_.Long.Value g_a__0,eI tyValue b_.Long.Value g_b__0] _:=hS.join [] [0,1] rfl rfl hq
 have hd:=hS.hand [] [0,1,2] rfl rfl
 refine m_stp [3,2] [(2,[],vP b1)] H3 rfl rfl rfl rfl (o_box [vS b_.Long.Name,vL g_b__0 b_.Long.Value,vS b_.Long.Whole,vB b_.Important,vU b_.Origin,vB b_.Attached,vI b_.Layer,vI b_.Weight.e0,vI b_.Weight.e1,vI b_.Weight.e2,vI b_.Order] H3 hd rfl rfl) (fun _ => rfl) fun _ _ v H6 hq => ?_
 obtain ⟨b4,rfl,hq⟩:=hq
 replace hS : SH M X w [eB b4 [vS b_.Long.Name,vL g_b__0 b_.Long.Value,vS b_.Long.Whole,vB b_.Important,vU b_.Origin,vB b_.Attached,vI b_.Layer,vI b_.Weight.e0,vI b_.Weight.e1,vI b_.Weight.e2,vI b_.Order],eB b1 [vS a_.Long.Name,vL g_a__0 a_.Long.Value,vS a_.Long.Whole,vB a_.Important,vU a_.Origin,vB a_.Attached,vI a_.Layer,vI a_.Weight.e0,vI a_.Weight.e1,vI a_.Weight.e2,vI a_.Order],eI tyValue a_.Long.Value g_a__0,eI tyValue b_.Long.Value g_b__0] _:=hS.join [] [0,1,2] rfl rfl hq
 refine wl_batch 2 3 [] [2,3] (fS [2,3] [vP b1,vP b4]) [] H6 (by decide) (by kernel_rfl) trivial fun _ _ H8 hb => ?_
 replace hS:=hS.below hb
 apply wl_end rfl
 apply w_seq
 apply wl_start
 refine wl_batch 0 2 [(vG [vS a_.Long.Name,vL g_a__0 a_.Long.Value,vS a_.Long.Whole])] [2,3,6] (fS [2,3,6] [vP b1,vP b4,vG [vS a_.Long.Name,vL g_a__0 a_.Long.Value,vS a_.Long.Whole]]) [rN b1 0 [vS a_.Long.Name,vL g_a__0 a_.Long.Value,vS a_.Long.Whole]] H8 (by decide) (by kernel_rfl) ⟨((hS.bk 1 rfl).atD rfl),trivial⟩ fun _ _ H10 hb => ?_
 replace hS:=hS.below hb
 have hd:=hS.hand [2] [0,1,2,3] rfl rfl
 refine m_stp [7,2,3] (fS [2,3] [vP b1,vP b4]) H10 rfl rfl rfl rfl (o_lit (T:=tyLong) (E:=31) (zv:=vG [vN,vO,vN]) [vS a_.Long.Name,vL g_a__0 a_.Long.Value,vS a_.Long.Whole] ([a_.Long] : List TLong) [gL [g_a__0]] _ H10 hd rfl (by kernel_rfl) (by kernel_rfl) (by kernel_rfl) (by kernel_rfl) (by kernel_rfl) (by kernel_rfl) (by kernel_rfl) rfl (InnL.cons (tyLong_mk (hd.im 0 rfl)) InnL.nil)) (fun _ => rfl) fun _ _ v H14 hq => ?_
 obtain ⟨g11,rfl,hq⟩:=hq
 replace hS : SH M X w [eO 31 tyLong ([a_.Long] : List TLong) g11,eB b4 [vS b_.Long.Name,vL g_b__0 b_.Long.Value,vS b_.Long.Whole,vB b_.Important,vU b_.Origin,vB b_.Attached,vI b_.Layer,vI b_.Weight.e0,vI b_.Weight.e1,vI b_.Weight.e2,vI b_.Order],eB b1 [vS a_.Long.Name,vL g_a__0 a_.Long.Value,vS a_.Long.Whole,vB a_.Important,vU a_.Origin,vB a_.Attached,vI a_.Layer,vI a_.Weight.e0,vI a_.Weight.e1,vI a_.Weight.e2,vI a_.Order],eI tyValue a_.Long.Value g_a__0,eI tyValue b_.Long.Value g_b__0] _:=hS.join [2] [0,1,2,3] rfl rfl hq
 refine wl_batch 3 5 [(vG [vS b_.Long.Name,vL g_b__0 b_.Long.Value,vS b_.Long.Whole])] [2,3,7,9] (fS [2,3,7,9] [vP b1,vP b4,vK g11 1,vG [vS b_.Long.Name,vL g_b__0 b_.Long.Value,vS b_.Long.Whole]]) [rN b4 0 [vS b_.Long.Name,vL g_b__0 b_.Long.Value,vS b_.Long.Whole]] H14 (by decide) (by kernel_rfl) ⟨((hS.bk 1 rfl).atD rfl),trivial⟩ fun _ _ H16 hb => ?_
 replace hS:=hS.below hb
 have hd:=hS.hand [4] [0,1,2,3,4] rfl rfl
 refine m_stp [10,2,3,7] (fS [2,3,7] [vP b1,vP b4,vK g11 1]) H16 rfl rfl rfl rfl (o_lit (T:=tyLong) (E:=31) (zv:=vG [vN,vO,vN]) [vS b_.Long.Name,vL g_b__0 b_.Long.Value,vS b_.Long.Whole] ([b_.Long] : List TLong) [gL [g_b__0]] _ H16 hd rfl (by kernel_rfl) (by kernel_rfl) (by kernel_rfl) (by kernel_rfl) (by kernel_rfl) (by kernel_rfl) (by kernel_rfl) rfl (InnL.cons (tyLong_mk (hd.im 0 rfl)) InnL.nil)) (fun _ => rfl) fun _ _ v H20 hq => ?_
 obtain ⟨g17,rfl,hq⟩:=hq
 replace hS : SH M X w [eO 31 tyLong ([b_.Long] : List TLong) g17,eO 31 tyLong ([a_.Long] : List TLong) g11,eB b4 [vS b_.Long.Name,vL g_b__0 b_.Long.Value,vS b_.Long.Whole,vB b_.Important,vU b_.Origin,vB b_.Attached,vI b_.Layer,vI b_.Weight.e0,vI b_.Weight.e1,vI b_.Weight.e2,vI b_.Order],eB b1 [vS a_.Long.Name,vL g_a__0 a_.Long.Value,vS a_.Long.Whole,vB a_.Important,vU a_.Origin,vB a_.Attached,vI a_.Layer,vI a_.Weight.e0,vI a_.Weight.e1,vI a_.Weight.e2,vI a_.Order],eI tyValue a_.Long.Value g_a__0,eI tyValue b_.Long.Value g_b__0] _:=hS.join [4] [0,1,2,3,4] rfl rfl hq
 obtain ⟨y21,hy21,hm⟩:=bindE hm
 obtain ⟨x22,hx22,hm⟩:=letE hm
 obtain ⟨x23,hx23,hm⟩:=letE hm
 obtain ⟨x24,hx24,hm⟩:=letE hm
 refine wl_batch 6 50 [(vB y21),(vB a_.Important),(vB b_.Important),(vU a_.Origin),(vU b_.Origin),(vB a_.Attached),(vB b_.Attached),(vI a_.Layer),(vI b_.Layer),(vG [vI a_.Weight.e0,vI a_.Weight.e1,vI a_.Weight.e2]),(vG [vI b_.Weight.e0,vI b_.Weight.e1,vI b_.Weight.e2]),(vI a_.Order),(vI b_.Order)] [4] [(4,[],vB (cond x24 (a_.Order == b_.Order) false))] [rB 27 [vK g11 1,vK g17 1] (vB y21),fun wz => (y21 = true ∧ True → V.at1 ⟨b1,3,none⟩ (vB a_.Important) wz),fun wz => (y21 = true ∧ True → V.at1 ⟨b4,3,none⟩ (vB b_.Important) wz),fun wz => (x22 = true ∧ True → V.at1 ⟨b1,4,none⟩ (vU a_.Origin) wz),fun wz => (x22 = true ∧ True → V.at1 ⟨b4,4,none⟩ (vU b_.Origin) wz),fun wz => ((cond x22 (a_.Origin == b_.Origin) false) = true ∧ True → V.at1 ⟨b1,5,none⟩ (vB a_.Attached) wz),fun wz => ((cond x22 (a_.Origin == b_.Origin) false) = true ∧ True → V.at1 ⟨b4,5,none⟩ (vB b_.Attached) wz),fun wz => (x23 = true ∧ True → V.at1 ⟨b1,6,none⟩ (vI a_.Layer) wz),fun wz => (x23 = true ∧ True → V.at1 ⟨b4,6,none⟩ (vI b_.Layer) wz),fun wz => ((cond x23 (a_.Layer == b_.Layer) false) = true ∧ True → V.atN b1 7 [vI a_.Weight.e0,vI a_.Weight.e1,vI a_.Weight.e2] 0 wz),fun wz => ((cond x23 (a_.Layer == b_.Layer) false) = true ∧ True → V.atN b4 7 [vI b_.Weight.e0,vI b_.Weight.e1,vI b_.Weight.e2] 0 wz),fun wz => (x24 = true ∧ True → V.at1 ⟨b1,10,none⟩ (vI a_.Order) wz),fun wz => (x24 = true ∧ True → V.at1 ⟨b4,10,none⟩ (vI b_.Order) wz)] H20 (by decide) (by subst hx22 hx23 hx24; kernel_rfl) ⟨(r27_SameLongs_ok (g_a_:=g11) (g_b_:=g17) m _ _ _ hy21 _ (s0im (s0im s0nil (hS.osl 0 rfl)) (hS.osl 1 rfl))),fun hg => (hS.bk 3 rfl).at1 rfl,fun hg => (hS.bk 2 rfl).at1 rfl,fun hg => (hS.bk 3 rfl).at1 rfl,fun hg => (hS.bk 2 rfl).at1 rfl,fun hg => (hS.bk 3 rfl).at1 rfl,fun hg => (hS.bk 2 rfl).at1 rfl,fun hg => (hS.bk 3 rfl).at1 rfl,fun hg => (hS.bk 2 rfl).at1 rfl,fun hg => (hS.bk 3 rfl).atD rfl,fun hg => (hS.bk 2 rfl).atD rfl,fun hg => (hS.bk 3 rfl).at1 rfl,fun hg => (hS.bk 2 rfl).at1 rfl,trivial⟩ fun _ _ H26 hb => ?_
 replace hS:=hS.below hb
 apply wl_end rfl
 replace hS : SH M X w [] _:=hS.sel [] rfl
 apply w_ret
 obtain rfl:=someE hm
 exact retR1 H26 rfl rfl ⟨_,rfl,rfl,(hS.sel [] rfl)⟩
theorem r29_SameOne_ok {g_a__0 : Gh} {g_b__0 : Gh} (m : Nat) (a_ : TDeclared) (b_ : TDeclared) (r : Bool) (hm : r29_SameOne m a_ b_ = some r) (w : World) (hL : S0 F0 [eI tyValue a_.Long.Value g_a__0,eI tyValue b_.Long.Value g_b__0] w ∧ fpl [eI tyValue a_.Long.Value g_a__0,eI tyValue b_.Long.Value g_b__0] = []) : RetB Tryz.prog 10 ⟨[vG [vS a_.Long.Name,vL g_a__0 a_.Long.Value,vS a_.Long.Whole,vB a_.Important,vU a_.Origin,vB a_.Attached,vI a_.Layer,vI a_.Weight.e0,vI a_.Weight.e1,vI a_.Weight.e2,vI a_.Order],vG [vS b_.Long.Name,vL g_b__0 b_.Long.Value,vS b_.Long.Whole,vB b_.Important,vU b_.Origin,vB b_.Attached,vI b_.Layer,vI b_.Weight.e0,vI b_.Weight.e1,vI b_.Weight.e2,vI b_.Order]]⟩ (vB r) w:=retB_of hL (Tryz.call10 _) (fun w' h => r29_SameOne_w F0 m   a_ b_ r hm w' h)

theorem wide_mean_3_w {g_l_ : Gh} (M : Av) (m : Nat) (l_ : List TDeclared) (at_ : Int) (word : Str) (r : Int × Str) (hm : wide_mean_3 m l_ at_ word = some r) (w : World) (hS : S0 M [eI tyDeclared l_ g_l_,gE0] w) : Calls Tryz.prog 31 ⟨[vL g_l_ l_,vI at_,vS word]⟩ w (fun e w' => ∃ v,e = .returned v ∧ v = vW [vI r.1,vS r.2] ∧ SH M (fpl [eI tyDeclared l_ g_l_,gE0]) w [] w'):=by
 rw [wide_mean_3] at hm
 have hS0 : SH M (fpl [eI tyDeclared l_ g_l_,gE0]) w [eI tyDeclared l_ g_l_,gE0] w:=hS
 generalize hX : fpl [eI tyDeclared l_ g_l_,gE0] = X at hS0 ⊢
 clear hS hX
 have hS:=hS0
 clear hS0
 refine calls_entryP Tryz.func31 rfl Tryz.ntmps31 rfl fun _ H => ?_
 refine s_reg [] [0,1,2] (fS [0,1,2] [vL g_l_ l_,vI at_,vS word]) [] H (by kernel_rfl) trivial fun _ _ H2 hb => ?_
 replace hS:=hS.below hb
 obtain ⟨ho3,hm⟩:=chkE hm
 refine s_reg [(vS (gi l_ at_).Long.Name)] [0,1,2,8] (fS [0,1,2,8] [vL g_l_ l_,vI at_,vS word,vS (gi l_ at_).Long.Name]) [fun _ => oka g_l_.a ∧ 0 ≤ at_ ∧ at_ < ln l_,fun wz => V.at1 ⟨ab g_l_.a,ao g_l_.a + (at_).toNat * 11,none⟩ (vS (gi l_ at_).Long.Name) wz] H2 (by kernel_rfl) ⟨((hS.im 0 rfl).oki ho3),((hS.im 0 rfl).at1 ho3 0 rfl),trivial⟩ fun _ _ H5 hb => ?_
 replace hS:=hS.below hb
 apply w_seq
 refine s_reg [] [0,1,2,8,15] (fS [0,1,2,8,15] [vL g_l_ l_,vI at_,vS word,vS (gi l_ at_).Long.Name,vS word]) [] H5 (by kernel_rfl) trivial fun _ _ H7 hb => ?_
 replace hS:=hS.below hb
 apply w_block
 refine s_reg [] [0,1,2,8,15,16] (fS [0,1,2,8,15,16] [vL g_l_ l_,vI at_,vS word,vS (gi l_ at_).Long.Name,vS word,vB (word == [114,101,118,101,114,116])]) [] H7 (by kernel_rfl) trivial fun _ _ H9 hb => ?_
 replace hS:=hS.below hb
 refine w_if H9 rfl (fun hc => ?c21) (fun hc => ?_)
 case c21 =>
  replace hm:=bT hc hm
  obtain ⟨y10,hy10,hm⟩:=bindE hm
  refine s_reg [(vU ((gi l_ at_).Origin)),(vW [vI y10.1,vS y10.2])] [6,7] (fS [6,7] [vI y10.1,vS y10.2]) [fun _ => oka g_l_.a ∧ 0 ≤ at_ ∧ at_ < ln l_,fun wz => V.at1 ⟨ab g_l_.a,ao g_l_.a + (at_).toNat * 11 + 4,none⟩ (vU ((gi l_ at_).Origin)) wz,rB 26 [vL g_l_ l_,vU ((gi l_ at_).Origin),vS (gi l_ at_).Long.Name] (vW [vI y10.1,vS y10.2])] H9 (by kernel_rfl) ⟨((hS.im 0 rfl).oki ho3),((hS.im 0 rfl).at1 ho3 4 rfl),(wide_decide_ok (g_l_:=g_l_) m _ _ _ _ hy10 _ (s0im (s0im s0nil (hS.im 1 rfl)) (hS.im 0 rfl))),trivial⟩ fun _ _ H12 hb => ?_
  replace hS:=hS.below hb
  replace hS : SH M X w [gE0] _:=hS.sel [1] rfl
  apply w_ret
  obtain rfl:=someE hm
  exact retR2 H12 rfl rfl rfl ⟨_,rfl,rfl,(hS.sel [] rfl)⟩
 replace hm:=bF hc hm
 refine s_reg [] [2,8,28] (fS [2,8,28] [vS word,vS (gi l_ at_).Long.Name,vB (word == [117,110,115,101,116])]) [] H9 (by kernel_rfl) trivial fun _ _ H14 hb => ?_
 replace hS:=hS.below hb
 replace hS : SH M X w [gE0] _:=hS.sel [1] rfl
 refine w_if H14 rfl (fun hc => ?_) (fun hc => ?c20)
 case c20 =>
  replace hm:=bF hc hm
  apply w_skip
  refine s_reg [] [6,7] (fS [6,7] [vI (-1),vS word]) [] H14 (by kernel_rfl) trivial fun _ _ H19 hb => ?_
  replace hS:=hS.below hb
  apply w_ret
  obtain rfl:=someE hm
  exact retR2 H19 rfl rfl rfl ⟨_,rfl,rfl,(hS.sel [] rfl)⟩
 replace hm:=bT hc hm
 obtain ⟨y15,hy15,hm⟩:=bindE hm
 refine s_reg [(vS y15)] [6,7] (fS [6,7] [vI (-1),vS y15]) [rB 48 [vS (gi l_ at_).Long.Name] (vS y15)] H14 (by kernel_rfl) ⟨(wide_unset_ok m _ _ hy15 _ (s0im s0nil (hS.im 0 rfl))),trivial⟩ fun _ _ H17 hb => ?_
 replace hS:=hS.below hb
 apply w_ret
 obtain rfl:=someE hm
 exact retR2 H17 rfl rfl rfl ⟨_,rfl,rfl,(hS.sel [] rfl)⟩
theorem wide_mean_3_ok {g_l_ : Gh} (m : Nat) (l_ : List TDeclared) (at_ : Int) (word : Str) (r : Int × Str) (hm : wide_mean_3 m l_ at_ word = some r) (w : World) (hL : S0 F0 [eI tyDeclared l_ g_l_,gE0] w ∧ fpl [eI tyDeclared l_ g_l_,gE0] = []) : RetB Tryz.prog 31 ⟨[vL g_l_ l_,vI at_,vS word]⟩ (vW [vI r.1,vS r.2]) w:=retB_of hL (Tryz.call31 _) (fun w' h => wide_mean_3_w F0 m   l_ at_ word r hm w' h)

theorem wide_Mean_w {g_l_ : Gh} (M : Av) (m : Nat) (l_ : List TDeclared) (at_ : Int) (word : Str) (r : Int × Str × Int) (hm : wide_Mean m l_ at_ word = some r) (w : World) (hS : S0 M [eI tyDeclared l_ g_l_,gE0] w) : Calls Tryz.prog 13 ⟨[vL g_l_ l_,vI at_,vS word]⟩ w (fun e w' => ∃ v,e = .returned v ∧ v = vW [vI r.1,vS r.2.1,vI r.2.2] ∧ SH M (fpl [eI tyDeclared l_ g_l_,gE0]) w [] w'):=by
 rw [wide_Mean] at hm
 have hS0 : SH M (fpl [eI tyDeclared l_ g_l_,gE0]) w [eI tyDeclared l_ g_l_,gE0] w:=hS
 generalize hX : fpl [eI tyDeclared l_ g_l_,gE0] = X at hS0 ⊢
 clear hS hX
 have hS:=hS0
 clear hS0
 refine calls_entryP Tryz.func13 rfl Tryz.ntmps13 rfl fun _ H => ?_
 refine s_reg [] [0,1,2] (fS [0,1,2] [vL g_l_ l_,vI at_,vS word]) [] H (by kernel_rfl) trivial fun _ _ H2 hb => ?_
 replace hS:=hS.below hb
 apply w_seq
 obtain ⟨y3,hy3,hm⟩:=bindE hm
 refine s_reg [(vI y3)] [0,1,2,9] (fS [0,1,2,9] [vL g_l_ l_,vI at_,vS word,vI y3]) [rB 25 [vL g_l_ l_] (vI y3)] H2 (by kernel_rfl) ⟨(wide_asked_ok (g_l_:=g_l_) m _ _ hy3 _ (s0im (s0im s0nil (hS.im 1 rfl)) (hS.im 0 rfl))),trivial⟩ fun _ _ H5 hb => ?_
 replace hS:=hS.below hb
 refine s_reg [] [0,1,2,9,15] (fS [0,1,2,9,15] [vL g_l_ l_,vI at_,vS word,vI y3,vB (y3 != 0)]) [] H5 (by kernel_rfl) trivial fun _ _ H7 hb => ?_
 replace hS:=hS.below hb
 refine w_if H7 rfl (fun hc => ?c37) (fun hc => ?_)
 case c37 =>
  replace hm:=bT hc hm
  refine s_reg [] [6,7,8] (fS [6,7,8] [vI 0,vN,vI y3]) [] H7 (by kernel_rfl) trivial fun _ _ H9 hb => ?_
  replace hS:=hS.below hb
  replace hS : SH M X w [gE0] _:=hS.sel [1] rfl
  apply w_ret
  obtain rfl:=someE hm
  exact retR3 H9 rfl rfl rfl rfl ⟨_,rfl,rfl,(hS.sel [] rfl)⟩
 replace hm:=bF hc hm
 apply w_skip
 apply w_seq
 obtain ⟨z10,hz,hm⟩:=bindE hm
 refine w_cut (fun a' w' => Fr 40 (fS [0,1,2,30] [vL g_l_ l_,vI at_,vS word,vB z10]) a' ∧ SH M X w [eI tyDeclared l_ g_l_,gE0] w') ?_ ?_
 ·replace hm:=hz
  apply wl_start
  obtain ⟨x11,hx11,hm⟩:=letE hm
  obtain ⟨x12,hx12,hm⟩:=letE hm
  refine wl_batch 0 9 [] [0,1,2,25] (fS [0,1,2,25] [vL g_l_ l_,vI at_,vS word,vB x12]) [] H7 (by decide) (by subst hx11 hx12; kernel_rfl) trivial fun _ _ H14 hb => ?_
  replace hS:=hS.below hb
  cases x12
  case false =>
   replace hm:=bF rfl hm
   have hd:=hS.hand [] [0,1] rfl rfl
   refine m_stpG 25 [26,0,1,2,25] (fS [0,1,2,25] [vL g_l_ l_,vI at_,vS word,vF]) H14 rfl rfl rfl rfl (o_lit (T:=tS) (E:=9) (zv:=vN) [vS [105,110,105,116,105,97,108],vS [105,110,104,101,114,105,116],vS [117,110,115,101,116],vS [114,101,118,101,114,116]] kL8 [gL [],gL [],gL [],gL []] _ H14 hd rfl (by kernel_rfl) (by kernel_rfl) (by kernel_rfl) (by kernel_rfl) (by kernel_rfl) (by kernel_rfl) (by kernel_rfl) rfl (InnL.cons trivial (InnL.cons trivial (InnL.cons trivial (InnL.cons trivial InnL.nil))))) (fun _ => rfl) fun _ _ v H24 hq => ?_
   obtain ⟨g21,rfl,hq⟩:=hq
   replace hS : SH M X w [eO 9 tS kL8 g21,eI tyDeclared l_ g_l_,gE0] _:=hS.join [] [0,1] rfl rfl hq
   obtain ⟨y25,hy25,hm⟩:=bindE hm
   refine wl_batch 10 14 [(vB y25)] [0,1,2,30] (fS [0,1,2,30] [vL g_l_ l_,vI at_,vS word,vB (!y25)]) [fun wz => (false = false ∧ True → RetB Tryz.prog 30 ⟨[vK g21 4,vS word]⟩ (vB y25) wz)] H24 (by decide) (by kernel_rfl) ⟨fun hg => slices_Contains_string_string_ok (g_s:=g21) 64 _ _ _ hy25 _ (s0im s0nil (hS.osl 0 rfl)),trivial⟩ fun _ _ H27 hb => ?_
   replace hS:=hS.below hb
   apply wl_end rfl
   replace hS : SH M X w [eI tyDeclared l_ g_l_,gE0] _:=hS.sel [1,2] rfl
   obtain rfl:=someE hm
   exact ⟨FrG.keep (ks:=[0,1,2,30]) H27 (by kernel_rfl),hS⟩
  replace hm:=bT rfl hm
  refine m_skipG 25 [26,0,1,2,25] (fS [26,0,1,2,25] [undef,vL g_l_ l_,vI at_,vS word,vT]) H14 rfl rfl rfl rfl rfl rfl fun _ H15 => ?_
  refine m_skipG 25 [27,0,1,2,25,26] (fS [27,0,1,2,25,26] [undef,vL g_l_ l_,vI at_,vS word,vT,undef]) H15 rfl rfl rfl rfl rfl rfl fun _ H16 => ?_
  refine m_skipG 25 [28,0,1,2,25] (fS [28,0,1,2,25] [undef,vL g_l_ l_,vI at_,vS word,vT]) H16 rfl rfl rfl rfl rfl rfl fun _ H17 => ?_
  refine m_skipG 25 [29,0,1,2,25] (fS [29,0,1,2,25] [undef,vL g_l_ l_,vI at_,vS word,vT]) H17 rfl rfl rfl rfl rfl rfl fun _ H18 => ?_
  refine wl_batch 13 14 [] [0,1,2,30] (fS [0,1,2,30] [vL g_l_ l_,vI at_,vS word,vT]) [] H18 (by decide) (by kernel_rfl) trivial fun _ _ H20 hb => ?_
  replace hS:=hS.below hb
  apply wl_end rfl
  obtain rfl:=someE hm
  exact ⟨FrG.keep (ks:=[0,1,2,30]) H20 (by kernel_rfl),hS⟩
 ·rintro _ _ ⟨H,hS⟩
  refine w_if H rfl (fun hc => ?c35) (fun hc => ?_)
  case c35 =>
   replace hm:=bT hc hm
   refine s_reg [] [6,7,8] (fS [6,7,8] [vI 0,vN,vI 2]) [] H (by kernel_rfl) trivial fun _ _ H29 hb => ?_
   replace hS:=hS.below hb
   replace hS : SH M X w [gE0] _:=hS.sel [1] rfl
   apply w_ret
   obtain rfl:=someE hm
   exact retR3 H29 rfl rfl rfl rfl ⟨_,rfl,rfl,(hS.sel [] rfl)⟩
  replace hm:=bF hc hm
  apply w_skip
  obtain ⟨y30,hy30,hm⟩:=bindE hm
  refine s_reg [(vW [vI y30.1,vS y30.2])] [10,11] (fS [10,11] [vI y30.1,vS y30.2]) [rB 31 [vL g_l_ l_,vI at_,vS word] (vW [vI y30.1,vS y30.2])] H (by kernel_rfl) ⟨(wide_mean_3_ok (g_l_:=g_l_) m _ _ _ _ hy30 _ (s0im (s0im s0nil (hS.im 1 rfl)) (hS.im 0 rfl))),trivial⟩ fun _ _ H32 hb => ?_
  replace hS:=hS.below hb
  replace hS : SH M X w [gE0] _:=hS.sel [1] rfl
  refine s_reg [] [6,7,8] (fS [6,7,8] [vI y30.1,vS y30.2,vI 0]) [] H32 (by kernel_rfl) trivial fun _ _ H34 hb => ?_
  replace hS:=hS.below hb
  apply w_ret
  obtain rfl:=someE hm
  exact retR3 H34 rfl rfl rfl rfl ⟨_,rfl,rfl,(hS.sel [] rfl)⟩
theorem wide_Mean_ok {g_l_ : Gh} (m : Nat) (l_ : List TDeclared) (at_ : Int) (word : Str) (r : Int × Str × Int) (hm : wide_Mean m l_ at_ word = some r) (w : World) (hL : S0 F0 [eI tyDeclared l_ g_l_,gE0] w ∧ fpl [eI tyDeclared l_ g_l_,gE0] = []) : RetB Tryz.prog 13 ⟨[vL g_l_ l_,vI at_,vS word]⟩ (vW [vI r.1,vS r.2.1,vI r.2.2]) w:=retB_of hL (Tryz.call13 _) (fun w' h => wide_Mean_w F0 m   l_ at_ word r hm w' h)

theorem slices_Clone_api_Declared_api_Declared_w {g_s : Gh} (M : Av) (s : List TDeclared) (r : List TDeclared) (hm : slices_Clone_api_Declared_api_Declared s = some r) (w : World) (hS : S0 M [eI tyDeclared s g_s] w) : Calls Tryz.prog 37 ⟨[vL g_s s]⟩ w (fun e w' => ∃ v,e = .returned v ∧ ∃ (g901 : Gh),v = vL g901 r ∧ SH M (fpl [eI tyDeclared s g_s]) w [eO 35 tyDeclared r g901] w'):=by
 rw [slices_Clone_api_Declared_api_Declared] at hm
 have hS0 : SH M (fpl [eI tyDeclared s g_s]) w [eI tyDeclared s g_s] w:=hS
 generalize hX : fpl [eI tyDeclared s g_s] = X at hS0 ⊢
 clear hS hX
 have hS:=hS0
 clear hS0
 refine calls_entryP Tryz.func37 rfl Tryz.ntmps37 rfl fun _ H => ?_
 refine s_reg [] [0] [(0,[],vL g_s s)] [] H (by kernel_rfl) trivial fun _ _ H2 hb => ?_
 replace hS:=hS.below hb
 apply w_seq
 rcases g_s with _ | ⟨_ | ad,gc,gs⟩
 ·obtain rfl : s = []:=SlG.nl (hS.im 0 rfl) rfl
  replace hm : (some ([] : List TDeclared)) = some r:=hm
  refine s_reg [] [0,4] (fS [0,4] [.slice Gh.nil.a (([] : List TDeclared).length) Gh.nil.c,vT]) [] H2 (by kernel_rfl) trivial fun _ _ H4 hb => ?_
  replace hS:=hS.below hb
  refine w_if H4 rfl (fun _ => ?_) (fun hc => by cases hc)
  refine s_reg [] [2] [(2,[],vO)] [] H4 (by kernel_rfl) trivial fun _ _ H6 hb => ?_
  replace hS:=hS.below hb
  replace hS : SH M X w [] _:=hS.sel [] rfl
  apply w_ret
  obtain rfl:=someE hm
  replace hS : SH M X w [eO 35 tyDeclared ([] : List TDeclared) (.nil)] _:=hS.addNil 35 tyDeclared
  exact retR1 H6 rfl rfl ⟨_,rfl,Gh.nil,rfl,(hS.sel [0] rfl)⟩
 ·obtain rfl : s = []:=SlG.nl (hS.im 0 rfl) rfl
  replace hm : (some ([] : List TDeclared)) = some r:=hm
  refine s_reg [] [0,4] (fS [0,4] [.slice (Gh.mk none gc gs).a (([] : List TDeclared).length) (Gh.mk none gc gs).c,vT]) [] H2 (by kernel_rfl) trivial fun _ _ H9 hb => ?_
  replace hS:=hS.below hb
  refine w_if H9 rfl (fun _ => ?_) (fun hc => by cases hc)
  refine s_reg [] [2] [(2,[],vO)] [] H9 (by kernel_rfl) trivial fun _ _ H11 hb => ?_
  replace hS:=hS.below hb
  replace hS : SH M X w [] _:=hS.sel [] rfl
  apply w_ret
  obtain rfl:=someE hm
  replace hS : SH M X w [eO 35 tyDeclared ([] : List TDeclared) (.nil)] _:=hS.addNil 35 tyDeclared
  exact retR1 H11 rfl rfl ⟨_,rfl,Gh.nil,rfl,(hS.sel [0] rfl)⟩
 ·skip
  refine s_reg [] [0,4] (fS [0,4] [.slice (Gh.mk (some ad) gc gs).a s.length (Gh.mk (some ad) gc gs).c,vF]) [] H2 (by kernel_rfl) trivial fun _ _ H14 hb => ?_
  replace hS:=hS.below hb
  refine w_if H14 rfl (fun hc => by cases hc) (fun _ => ?_)
  apply w_skip
  apply w_seq
  apply wl_start
  have hd:=hS.hand [] [0] rfl rfl
  refine m_stp [5,0] [(0,[],.slice (Gh.mk (some ad) gc gs).a s.length (Gh.mk (some ad) gc gs).c)] H14 rfl rfl rfl rfl (o_lit0 (T:=tyDeclared) (E:=35) hd (by kernel_rfl) (by kernel_rfl)) (fun _ => rfl) fun _ _ v H18 hq => ?_
  obtain ⟨g15,rfl,hq⟩:=hq
  replace hS : SH M X w [eO 35 tyDeclared ([] : List TDeclared) g15,eI tyDeclared s (Gh.mk (some ad) gc gs)] _:=hS.join [] [0] rfl rfl hq
  refine wl_batch 1 2 [] [5,6] (fS [5,6] [vK g15 0,.slice (Gh.mk (some ad) gc gs).a s.length (Gh.mk (some ad) gc gs).c]) [] H18 (by decide) (by kernel_rfl) trivial fun _ _ H20 hb => ?_
  replace hS:=hS.below hb
  obtain ⟨ho21,hm⟩:=chkE hm
  obtain ⟨q22,hq22,hm⟩:=letE hm
  have hd:=hS.hand [0,1] [1] rfl rfl
  refine m_stp [7] [] H20 rfl rfl rfl rfl (o_app (T:=tyDeclared) (zv:=vG [vN,vO,vN,vF,vU 0,vF,vI 0,vI 0,vI 0,vI 0,vI 0]) (g1:=g15) (g2:=(Gh.mk (some ad) gc gs)) (l1:=([] : List TDeclared)) (l2:=s) q22 hq22.symm H20 hd rfl rfl rfl rfl rfl rfl rfl (by kernel_rfl) (by kernel_rfl) rfl rfl ho21) (fun _ => rfl) fun _ _ v H24 hq => ?_
  obtain ⟨g25,rfl,hq⟩:=hq
  replace hS : SH M X w [eO 35 tyDeclared q22 g25,eI tyDeclared s (Gh.mk (some ad) gc gs)] _:=hS.join [0,1] [1] rfl rfl hq
  refine wl_batch 3 4 [] [2] [(2,[],vL g25 q22)] [] H24 (by decide) (by kernel_rfl) trivial fun _ _ H27 hb => ?_
  replace hS:=hS.below hb
  apply wl_end rfl
  replace hS : SH M X w [eO 35 tyDeclared q22 g25] _:=hS.sel [0] rfl
  apply w_ret
  obtain rfl:=someE hm
  exact retR1 H27 rfl rfl ⟨_,rfl,g25,rfl,(hS.sel [0] rfl)⟩
theorem slices_Clone_api_Declared_api_Declared_ok {g_s : Gh} (s : List TDeclared) (r : List TDeclared) (hm : slices_Clone_api_Declared_api_Declared s = some r) (M : Av) (w : World) (hS : S0 M [eI tyDeclared s g_s] w) : DoesX Tryz.prog 37 ⟨[vL g_s s]⟩ w (fun v w' => ∃ (g901 : Gh),v = vL g901 r ∧ SH M (fpl [eI tyDeclared s g_s]) w [eO 35 tyDeclared r g901] w'):=⟨Tryz.call37 _,slices_Clone_api_Declared_api_Declared_w M   s r hm w hS⟩

def sorter_clone_S (rec_ : (List TValue) → Option (List TValue)) : Prop:=∀ (g_l_ : Gh) (M : Av) (l_ : List TValue) (r : List TValue),rec_ l_ = some r → ∀ w,S0 M [eI tyValue l_ g_l_] w → Calls Tryz.prog 38 ⟨[vL g_l_ l_]⟩ w (fun e w' => ∃ v,e = .returned v ∧ ∃ (g901 : Gh),v = vL g901 r ∧ SH M (fpl [eI tyValue l_ g_l_]) w [eO 63 tyValue r g901] w')
theorem sorter_clone_w (m : Nat) : ∀ (k : Nat),sorter_clone_S (sorter_clone_r m  k):=by
 intro k
 induction k with
 | zero => intro g_l_ M l_ r hm; exact noneE hm
 | succ k ih =>
  intro g_l_ M l_ r hm w hS
  rw [sorter_clone_r] at hm
  have hS0 : SH M (fpl [eI tyValue l_ g_l_]) w [eI tyValue l_ g_l_] w:=hS
  generalize hX : fpl [eI tyValue l_ g_l_] = X at hS0 ⊢
  clear hS hX
  have hS:=hS0
  clear hS0
  refine calls_entryP Tryz.func38 rfl Tryz.ntmps38 rfl fun _ H => ?_
  refine s_reg [] [0] [(0,[],vL g_l_ l_)] [] H (by kernel_rfl) trivial fun _ _ H2 hb => ?_
  replace hS:=hS.below hb
  refine s_reg [] [0,3] (fS [0,3] [vL g_l_ l_,vO]) [] H2 (by kernel_rfl) trivial fun _ _ H4 hb => ?_
  replace hS:=hS.below hb
  obtain ⟨z5,hz,hm⟩:=bindE hm
  refine w_cut (fun a' w' => ∃ (g42 : Gh),Fr 23 [(3,[],vL g42 z5)] a' ∧ SH M X w [eO 63 tyValue z5 g42,eI tyValue l_ g_l_] w') ?_ ?_
  ·replace hm:=hz
   refine s_reg [] [3,6,7,8] (fS [3,6,7,8] [vO,vL g_l_ l_,vI (ln l_),vI 0]) [] H4 (by kernel_rfl) trivial fun _ _ H7 hb => ?_
   replace hS:=hS.below hb
   apply w_block
   replace hS : SH M X w [eO 63 tyValue ([] : List TValue) (.nil),eI tyValue l_ g_l_] _:=hS.addNil 63 tyValue
   refine w_loop (fun kk a' w' => ∃ (v9 : List TValue) (v11 : Int) (g10 : Gh),sorter_clone_L1 m l_ (sorter_clone_r m k) kk v9 v11 = some _ ∧ Fr 23 (fS [6,7,3,8] [vL g_l_ l_,vI (ln l_),vL g10 v9,vI v11]) a' ∧ SH M X w [eO 63 tyValue v9 g10,eI tyValue l_ g_l_] w') ⟨_,([] : List TValue),0,Gh.nil,hm,FrG.keep (ks:=[6,7,3,8]) H7 (by kernel_rfl),hS⟩ ?_
   clear hm H7 hS
   rintro kk _ _ ⟨v9,v11,g10,hm,H,hS⟩
   cases kk with
   | zero => exact noneE hm
   | succ kk =>
    rw [sorter_clone_L1] at hm
    refine s_reg [] [3,6,7,8,9] (fS [3,6,7,8,9] [vL g10 v9,vL g_l_ l_,vI (ln l_),vI v11,vB (decide (v11 < (ln l_)))]) [] H (by kernel_rfl) trivial fun _ _ H13 hb => ?_
    replace hS:=hS.below hb
    apply w_seq
    refine w_if H13 rfl (fun hc => ?_) (fun hc => ?c40)
    case c40 =>
     replace hm:=bF hc hm
     apply w_exit rfl
     obtain rfl:=someE hm
     exact ⟨g10,FrG.keep (ks:=[3]) H13 (by kernel_rfl),hS⟩
    replace hm:=bT hc hm
    apply w_skip
    apply w_seq
    apply w_block
    apply w_seq
    apply wl_start
    obtain ⟨ho14,hm⟩:=chkE hm
    refine wl_batch 0 2 [(vG [vU ((gi l_ v11).Token.Kind),vS (gi l_ v11).Token.Text,vI ((gi l_ v11).Token.Num),vS (gi l_ v11).Token.Unit,vB ((gi l_ v11).Token.Flag),.slice (g_l_.s (v11).toNat 0).a (((gi l_ v11).List_).length) (g_l_.s (v11).toNat 0).c])] [3,6,7,8,11] (fS [3,6,7,8,11] [vL g10 v9,vL g_l_ l_,vI (ln l_),vI v11,vG [vU ((gi l_ v11).Token.Kind),vS (gi l_ v11).Token.Text,vI ((gi l_ v11).Token.Num),vS (gi l_ v11).Token.Unit,vB ((gi l_ v11).Token.Flag),.slice (g_l_.s (v11).toNat 0).a (((gi l_ v11).List_).length) (g_l_.s (v11).toNat 0).c]]) [fun _ => oka g_l_.a ∧ 0 ≤ v11 ∧ v11 < ln l_,fun wz => V.atN (ab g_l_.a) (ao g_l_.a + (v11).toNat * 6) [vU ((gi l_ v11).Token.Kind),vS (gi l_ v11).Token.Text,vI ((gi l_ v11).Token.Num),vS (gi l_ v11).Token.Unit,vB ((gi l_ v11).Token.Flag),.slice (g_l_.s (v11).toNat 0).a (((gi l_ v11).List_).length) (g_l_.s (v11).toNat 0).c] 0 wz] H13 (by decide) (by kernel_rfl) ⟨((hS.im 1 rfl).oki ho14),((hS.im 1 rfl).atA ho14 0 rfl),trivial⟩ fun _ _ H16 hb => ?_
    replace hS:=hS.below hb
    have hd:=hS.hand [] [0,1] rfl rfl
    refine m_stp [5,3,6,7,8,11] (fS [3,6,7,8,11] [vL g10 v9,vL g_l_ l_,vI (ln l_),vI v11,vG [vU ((gi l_ v11).Token.Kind),vS (gi l_ v11).Token.Text,vI ((gi l_ v11).Token.Num),vS (gi l_ v11).Token.Unit,vB ((gi l_ v11).Token.Flag),.slice (g_l_.s (v11).toNat 0).a (((gi l_ v11).List_).length) (g_l_.s (v11).toNat 0).c]]) H16 rfl rfl rfl rfl (o_alloc [vU 0,vN,vI 0,vN,vF,vO] (z:=vG [vU 0,vN,vI 0,vN,vF,vO]) hd (by kernel_rfl) rfl) (fun _ => rfl) fun _ _ v H19 hq => ?_
    obtain ⟨b17,rfl,hq⟩:=hq
    replace hS : SH M X w [eB b17 [vU 0,vN,vI 0,vN,vF,vO],eO 63 tyValue v9 g10,eI tyValue l_ g_l_] _:=hS.join [] [0,1] rfl rfl hq
    have hd:=hS.hand [0] [1,2] rfl rfl
    refine m_stp0 [3,5,6,7,8] (fS [3,5,6,7,8] [vL g10 v9,vP b17,vL g_l_ l_,vI (ln l_),vI v11]) H19 rfl rfl rfl (o_store [vU ((gi l_ v11).Token.Kind),vS (gi l_ v11).Token.Text,vI ((gi l_ v11).Token.Num),vS (gi l_ v11).Token.Unit,vB ((gi l_ v11).Token.Flag),.slice (g_l_.s (v11).toNat 0).a (((gi l_ v11).List_).length) (g_l_.s (v11).toNat 0).c] H19 hd rfl rfl (by kernel_rfl) rfl rfl rfl) rfl fun _ _ H21 hq => ?_
    obtain ⟨_,hq⟩:=hq
    replace hS : SH M X w [eB b17 [vU ((gi l_ v11).Token.Kind),vS (gi l_ v11).Token.Text,vI ((gi l_ v11).Token.Num),vS (gi l_ v11).Token.Unit,vB ((gi l_ v11).Token.Flag),.slice (g_l_.s (v11).toNat 0).a (((gi l_ v11).List_).length) (g_l_.s (v11).toNat 0).c],eO 63 tyValue v9 g10,eI tyValue l_ g_l_] _:=hS.join [0] [1,2] rfl rfl hq
    apply wl_end rfl
    obtain ⟨y24,hy24,hm⟩:=bindE hm
    obtain ⟨ho29,hm⟩:=chkE hm
    obtain ⟨q30,hq30,hm⟩:=letE hm
    refine w_drawS (base:=(fS [5,6,7,8] [vP b17,vL g_l_ l_,vI (ln l_),vI v11])) (L:=[eB b17 [vU ((gi l_ v11).Token.Kind),vS (gi l_ v11).Token.Text,vI ((gi l_ v11).Token.Num),vS (gi l_ v11).Token.Unit,vB ((gi l_ v11).Token.Flag),.slice (g_l_.s (v11).toNat 0).a (((gi l_ v11).List_).length) (g_l_.s (v11).toNat 0).c],eO 63 tyValue v9 g10,eI tyValue l_ g_l_]) 10 3 (fun yg22 => [vL g10 v9,vP b17,vG [vU ((gi l_ v11).Token.Kind),vS (gi l_ v11).Token.Text,vI ((gi l_ v11).Token.Num),vS (gi l_ v11).Token.Unit,vB ((gi l_ v11).Token.Flag)],vA b17 5,.slice (g_l_.s (v11).toNat 0).a (((gi l_ v11).List_).length) (g_l_.s (v11).toNat 0).c,.slice (yg22 5 0).a y24.length (yg22 5 0).c,vG [vU ((gi l_ v11).Token.Kind),vS (gi l_ v11).Token.Text,vI ((gi l_ v11).Token.Num),vS (gi l_ v11).Token.Unit,vB ((gi l_ v11).Token.Flag),.slice (yg22 5 0).a y24.length (yg22 5 0).c],vK (yg22 7 0) 1,.slice (yg22 8 0).a q30.length (yg22 8 0).c,.slice (yg22 8 0).a q30.length (yg22 8 0).c]) (fun yg22 => [[],[],[],[],[],[eO 63 tyValue y24 (yg22 5 0),eI tyValue ((gi l_ v11).List_) (g_l_.s (v11).toNat 0)],[],[eO 63 tyValue ([(TValue.mk ((gi l_ v11).Token) y24)] : List TValue) (yg22 7 0),eI tyValue y24 (yg22 5 0),eI tyValue ((gi l_ v11).List_) (g_l_.s (v11).toNat 0)],[eO 63 tyValue q30 (yg22 8 0)],[]]) [[],[10,12],[10,12],[10,12],[10,12],[12],[5],[5],[7,11],[8]] [[],[],[],[],[],[],[],[5],[11],[]] [[0],[1],[1,2],[3],[3,4],[3,4,5],[1,2,3,4,5,6],[1,2,3,4,5,6,7],[0,1,2,3,4,5,6,7,8],[0,1,2,3,4,5,6,7,8,9]] [(3,9,vL g10 v9)] (FrG.keep (ks:=[5,6,7,8]) H21 (by kernel_rfl)) (fun k e h => by rcases k with _ | k <;> first | (obtain rfl:=Option.some.inj h; exact FrG.slot H21 (by kernel_rfl)) | cases h) (by kernel_rfl) hS (by kernel_rfl) rfl rfl (by kernel_rfl) (by kernel_rfl) (by kernel_rfl) (gd_none (by kernel_rfl) _ _) ?hloc_yg22 ?hstep_yg22 fun _ _ yg22 H33 hv hS => ?hK_yg22
    case hloc_yg22 => exact ⟨(fun _ _ _ _ => ⟨rfl,rfl⟩),(fun _ _ _ _ => ⟨rfl,rfl⟩),(fun _ _ _ _ => ⟨rfl,rfl⟩),(fun _ _ _ _ => ⟨rfl,rfl⟩),(fun _ _ _ _ => ⟨rfl,rfl⟩),(fun _ i g hi => lcG [5] (fun yg22 => (.slice (yg22 5 0).a y24.length (yg22 5 0).c,[eO 63 tyValue y24 (yg22 5 0),eI tyValue ((gi l_ v11).List_) (g_l_.s (v11).toNat 0)])) hi rfl),(fun _ i g hi => lcG [5] (fun yg22 => (vG [vU ((gi l_ v11).Token.Kind),vS (gi l_ v11).Token.Text,vI ((gi l_ v11).Token.Num),vS (gi l_ v11).Token.Unit,vB ((gi l_ v11).Token.Flag),.slice (yg22 5 0).a y24.length (yg22 5 0).c],[])) hi rfl),(fun _ i g hi => lcG [5,7] (fun yg22 => (vK (yg22 7 0) 1,[eO 63 tyValue ([(TValue.mk ((gi l_ v11).Token) y24)] : List TValue) (yg22 7 0),eI tyValue y24 (yg22 5 0),eI tyValue ((gi l_ v11).List_) (g_l_.s (v11).toNat 0)])) hi rfl),(fun _ i g hi => lcG [8] (fun yg22 => (.slice (yg22 8 0).a q30.length (yg22 8 0).c,[eO 63 tyValue q30 (yg22 8 0)])) hi rfl),(fun _ i g hi => lcG [8] (fun yg22 => (.slice (yg22 8 0).a q30.length (yg22 8 0).c,[])) hi rfl),trivial⟩
    case hstep_yg22 =>
     refine ⟨?_,?_,?_,?_,?_,?_,?_,?_,?_,?_,trivial⟩
     ·intro o ho a w yg22 M Hb hv hO hS
      obtain rfl:=someE ho
      exact Stp.mono (o_evs [] (vL g10 v9) none [] ((Hb).add (hO 0 _ rfl (by kernel_rfl))) rfl (by kernel_rfl) (fun q e => by cases e)) fun _ _ hq => ⟨gL [],fun _ _ => hq.1,(hS.below hq.2.below).sel [] rfl⟩
     ·intro o ho a w yg22 M Hb hv hO hS
      obtain rfl:=someE ho
      exact Stp.mono (o_evs [] (vP b17) none [] Hb rfl (by kernel_rfl) (fun q e => by cases e)) fun _ _ hq => ⟨gL [],fun _ _ => hq.1,(hS.below hq.2.below).sel [0,1] rfl⟩
     ·intro o ho a w yg22 M Hb hv hO hS
      obtain rfl:=someE ho
      exact Stp.mono (o_evs [(vG [vU ((gi l_ v11).Token.Kind),vS (gi l_ v11).Token.Text,vI ((gi l_ v11).Token.Num),vS (gi l_ v11).Token.Unit,vB ((gi l_ v11).Token.Flag)])] (vG [vU ((gi l_ v11).Token.Kind),vS (gi l_ v11).Token.Text,vI ((gi l_ v11).Token.Num),vS (gi l_ v11).Token.Unit,vB ((gi l_ v11).Token.Flag)]) (some (rN b17 0 [vU ((gi l_ v11).Token.Kind),vS (gi l_ v11).Token.Text,vI ((gi l_ v11).Token.Num),vS (gi l_ v11).Token.Unit,vB ((gi l_ v11).Token.Flag)])) [] ((Hb).add (hv 1 (by decide) (by decide) 13 rfl)) rfl (by kernel_rfl) (fun q e => by cases e; exact ((hS.bk 0 rfl).atD rfl))) fun _ _ hq => ⟨gL [],fun _ _ => hq.1,(hS.below hq.2.below).sel [0,1] rfl⟩
     ·intro o ho a w yg22 M Hb hv hO hS
      obtain rfl:=someE ho
      exact Stp.mono (o_evs [] (vA b17 5) none [] Hb rfl (by kernel_rfl) (fun q e => by cases e)) fun _ _ hq => ⟨gL [],fun _ _ => hq.1,(hS.below hq.2.below).sel [0,1] rfl⟩
     ·intro o ho a w yg22 M Hb hv hO hS
      obtain rfl:=someE ho
      exact Stp.mono (o_evs [(.slice (g_l_.s (v11).toNat 0).a (((gi l_ v11).List_).length) (g_l_.s (v11).toNat 0).c)] (.slice (g_l_.s (v11).toNat 0).a (((gi l_ v11).List_).length) (g_l_.s (v11).toNat 0).c) (some (fun wz => V.at1 ⟨b17,5,none⟩ (.slice (g_l_.s (v11).toNat 0).a (((gi l_ v11).List_).length) (g_l_.s (v11).toNat 0).c) wz)) [] ((Hb).add (hv 3 (by decide) (by decide) 15 rfl)) rfl (by kernel_rfl) (fun q e => by cases e; exact ((hS.bk 0 rfl).at1 rfl))) fun _ _ hq => ⟨gL [],fun _ _ => hq.1,(hS.below hq.2.below).sel [0,1] rfl⟩
     ·intro o ho a w yg22 M Hb hv hO hS0
      obtain rfl:=someE ho
      have H : Fr 23 ([(16,[],.slice (g_l_.s (v11).toNat 0).a (((gi l_ v11).List_).length) (g_l_.s (v11).toNat 0).c)] ++ (fS [5,6,7,8] [vP b17,vL g_l_ l_,vI (ln l_),vI v11])) _:=(Hb).add (hv 4 (by decide) (by decide) 16 rfl)
      obtain ⟨X,hX⟩ : ∃ X,X = fpl [eI tyValue l_ g_l_]:=⟨_,rfl⟩
      have hS : SH M X w [eI tyValue l_ g_l_] w:=by rw [hX]; exact hS0
      replace hS : SH M X w [eI tyValue ((gi l_ v11).List_) (g_l_.s (v11).toNat 0),eI tyValue l_ g_l_] _:=hS.addIm (tyValue_i0 ((hS.im 0 rfl).el ho14))
      have hd:=hS.hand [0] [0,1] rfl rfl
      refine Stp.mono (o_callx H rfl rfl (⟨Tryz.call38 _,ih ((g_l_.s (v11).toNat 0)) _ _ _ hy24 _ hd⟩ : DoesX _ _ _ _ _)) ?_
      rintro v w2 hq
      obtain ⟨g25,rfl,hq⟩:=hq
      replace hS : SH M X w [eO 63 tyValue y24 g25,eI tyValue ((gi l_ v11).List_) (g_l_.s (v11).toNat 0),eI tyValue l_ g_l_] _:=hS.join [0] [0,1] rfl rfl hq
      rw [hX] at hS
      exact ⟨gL [g25],fun _ _ => rfl,hS.sel [0,1,2] rfl⟩
     ·intro o ho a w yg22 M Hb hv hO hS
      obtain rfl:=someE ho
      exact Stp.mono (o_evs [] (vG [vU ((gi l_ v11).Token.Kind),vS (gi l_ v11).Token.Text,vI ((gi l_ v11).Token.Num),vS (gi l_ v11).Token.Unit,vB ((gi l_ v11).Token.Flag),.slice (yg22 5 0).a y24.length (yg22 5 0).c]) none [] (((Hb).add (hv 2 (by decide) (by decide) 14 rfl)).add (hv 5 (by decide) (by decide) 17 rfl)) rfl (by kernel_rfl) (fun q e => by cases e)) fun _ _ hq => ⟨gL [],fun _ _ => hq.1,(hS.below hq.2.below).sel [0,1] rfl⟩
     ·intro o ho a w yg22 M Hb hv hO hS0
      obtain rfl:=someE ho
      have H : Fr 23 ([(18,[],vG [vU ((gi l_ v11).Token.Kind),vS (gi l_ v11).Token.Text,vI ((gi l_ v11).Token.Num),vS (gi l_ v11).Token.Unit,vB ((gi l_ v11).Token.Flag),.slice (yg22 5 0).a y24.length (yg22 5 0).c])] ++ (fS [5,6,7,8] [vP b17,vL g_l_ l_,vI (ln l_),vI v11])) _:=(Hb).add (hv 6 (by decide) (by decide) 18 rfl)
      obtain ⟨X,hX⟩ : ∃ X,X = fpl [eO 63 tyValue y24 (yg22 5 0),eI tyValue ((gi l_ v11).List_) (g_l_.s (v11).toNat 0)]:=⟨_,rfl⟩
      have hS : SH M X w [eO 63 tyValue y24 (yg22 5 0),eI tyValue ((gi l_ v11).List_) (g_l_.s (v11).toNat 0)] w:=by rw [hX]; exact hS0
      replace hS : SH M X w [eI tyValue y24 (yg22 5 0),eI tyValue ((gi l_ v11).List_) (g_l_.s (v11).toNat 0)] _:=SH.frz1 (hS.sel [0,1] rfl)
      have hd:=hS.hand [0] [0,1] rfl rfl
      refine Stp.mono (o_lit (T:=tyValue) (E:=63) (zv:=vG [vU 0,vN,vI 0,vN,vF,vO]) [vU ((gi l_ v11).Token.Kind),vS (gi l_ v11).Token.Text,vI ((gi l_ v11).Token.Num),vS (gi l_ v11).Token.Unit,vB ((gi l_ v11).Token.Flag),.slice (yg22 5 0).a y24.length (yg22 5 0).c] ([(TValue.mk ((gi l_ v11).Token) y24)] : List TValue) [gL [(yg22 5 0)]] _ H hd rfl (by kernel_rfl) (by kernel_rfl) (by kernel_rfl) (by kernel_rfl) (by kernel_rfl) (by kernel_rfl) (by kernel_rfl) rfl (InnL.cons (tyValue_mk (hd.im 0 rfl)) InnL.nil)) ?_
      rintro v w2 hq
      obtain ⟨g27,rfl,hq⟩:=hq
      replace hS : SH M X w [eO 63 tyValue ([(TValue.mk ((gi l_ v11).Token) y24)] : List TValue) g27,eI tyValue y24 (yg22 5 0),eI tyValue ((gi l_ v11).List_) (g_l_.s (v11).toNat 0)] _:=hS.join [0] [0,1] rfl rfl hq
      rw [hX] at hS
      exact ⟨gL [g27],fun _ _ => rfl,hS.sel [0,1,2] rfl⟩
     ·intro o ho a w yg22 M Hb hv hO hS0
      obtain rfl:=someE ho
      have H : Fr 23 ((fS [19,12] [vK (yg22 7 0) 1,vL g10 v9]) ++ (fS [5,6,7,8] [vP b17,vL g_l_ l_,vI (ln l_),vI v11])) _:=((Hb).add (hv 0 (by decide) (by decide) 12 rfl)).add (hv 7 (by decide) (by decide) 19 rfl)
      obtain ⟨X,hX⟩ : ∃ X,X = fpl [eO 63 tyValue ([(TValue.mk ((gi l_ v11).Token) y24)] : List TValue) (yg22 7 0),eI tyValue y24 (yg22 5 0),eI tyValue ((gi l_ v11).List_) (g_l_.s (v11).toNat 0),eO 63 tyValue v9 g10]:=⟨_,rfl⟩
      have hS : SH M X w [eO 63 tyValue ([(TValue.mk ((gi l_ v11).Token) y24)] : List TValue) (yg22 7 0),eI tyValue y24 (yg22 5 0),eI tyValue ((gi l_ v11).List_) (g_l_.s (v11).toNat 0),eO 63 tyValue v9 g10] w:=by rw [hX]; exact hS0
      have hd:=hS.hand [3,0] [1,2] rfl rfl
      refine Stp.mono (o_app2 (T:=tyValue) (zv:=vG [vU 0,vN,vI 0,vN,vF,vO]) (g1:=g10) (g2:=(yg22 7 0)) (l1:=v9) (l2:=([(TValue.mk ((gi l_ v11).Token) y24)] : List TValue)) q30 hq30.symm H hd rfl rfl rfl rfl rfl rfl rfl (by kernel_rfl) (by kernel_rfl) rfl rfl ho29) ?_
      rintro v w2 hq
      obtain ⟨g31,rfl,hq⟩:=hq
      replace hS : SH M X w [eO 63 tyValue q30 g31,eO 63 tyValue ([(TValue.mk ((gi l_ v11).Token) y24)] : List TValue) (yg22 7 0),eI tyValue y24 (yg22 5 0),eI tyValue ((gi l_ v11).List_) (g_l_.s (v11).toNat 0)] _:=hS.join [3,0] [1,2] rfl rfl hq
      rw [hX] at hS
      exact ⟨gL [g31],fun _ _ => rfl,hS.sel [0,1,2,3] rfl⟩
     ·intro o ho a w yg22 M Hb hv hO hS
      obtain rfl:=someE ho
      exact Stp.mono (o_evs [] (.slice (yg22 8 0).a q30.length (yg22 8 0).c) none [] ((Hb).add (hv 8 (by decide) (by decide) 20 rfl)) rfl (by kernel_rfl) (fun q e => by cases e)) fun _ _ hq => ⟨gL [],fun _ _ => hq.1,(hS.below hq.2.below).sel [0] rfl⟩
    have H34 : Fr 23 (fS [3,6,7,8] [.slice (yg22 8 0).a q30.length (yg22 8 0).c,vL g_l_ l_,vI (ln l_),vI v11]) _:=(FrG.add (FrG.keep (ks:=[6,7,8]) H33 (by kernel_rfl)) (hv 9 3 rfl))
    replace hS : SH M X w [eO 63 tyValue ([(TValue.mk ((gi l_ v11).Token) y24)] : List TValue) (yg22 7 0),eI tyValue y24 (yg22 5 0),eI tyValue ((gi l_ v11).List_) (g_l_.s (v11).toNat 0),eO 63 tyValue q30 (yg22 8 0),eB b17 [vU ((gi l_ v11).Token.Kind),vS (gi l_ v11).Token.Text,vI ((gi l_ v11).Token.Num),vS (gi l_ v11).Token.Unit,vB ((gi l_ v11).Token.Flag),.slice (g_l_.s (v11).toNat 0).a (((gi l_ v11).List_).length) (g_l_.s (v11).toNat 0).c],eI tyValue l_ g_l_] _:=hS
    clear hv H33
    generalize yg22 8 0 = g35 at H34 hS
    generalize yg22 7 0 = g36 at H34 hS
    generalize yg22 5 0 = g37 at H34 hS
    replace hS : SH M X w [eO 63 tyValue q30 g35,eI tyValue l_ g_l_] _:=hS.sel [3,5] rfl
    refine w_reg [] [3,6,7,8] (fS [3,6,7,8] [vL g35 q30,vL g_l_ l_,vI (ln l_),vI (w64 (v11 + 1))]) [] H34 (by kernel_rfl) trivial fun _ _ H39 hb => ?_
    replace hS:=hS.below hb
    exact ⟨_,Nat.lt_succ_self _,q30,w64 (v11 + 1),g35,hm,FrG.keep (ks:=[6,7,3,8]) H39 (by kernel_rfl),hS⟩
  ·rintro _ _ ⟨g42,H,hS⟩
   replace hS : SH M X w [eO 63 tyValue z5 g42] _:=hS.sel [0] rfl
   refine s_reg [] [2] [(2,[],vL g42 z5)] [] H (by kernel_rfl) trivial fun _ _ H45 hb => ?_
   replace hS:=hS.below hb
   apply w_ret
   obtain rfl:=someE hm
   exact retR1 H45 rfl rfl ⟨_,rfl,g42,rfl,(hS.sel [0] rfl)⟩
theorem sorter_clone_ok {g_l_ : Gh} (m : Nat) (l_ : List TValue) (r : List TValue) (hm : sorter_clone m l_ = some r) (M : Av) (w : World) (hS : S0 M [eI tyValue l_ g_l_] w) : DoesX Tryz.prog 38 ⟨[vL g_l_ l_]⟩ w (fun v w' => ∃ (g901 : Gh),v = vL g901 r ∧ SH M (fpl [eI tyValue l_ g_l_]) w [eO 63 tyValue r g901] w'):=⟨Tryz.call38 _,sorter_clone_w m   m g_l_ M l_ r hm w hS⟩

theorem slices_insertionSortCmpFunc_api_Declared_w {g_data : Gh} (M : Av) (m : Nat) (data : List TDeclared) (a_ : Int) (b_ : Int) (r : Unit) (hm : slices_insertionSortCmpFunc_api_Declared m data a_ b_ = some r) (w : World) (hS : S0 M [eI tyDeclared data g_data] w) : Calls Tryz.prog 78 ⟨[vL g_data data,vI a_,vI b_,.func (.func 40) ⟨[]⟩ ⟨[]⟩]⟩ w (fun e w' => ∃ v,e = .returned v ∧ v = vW [] ∧ SH M (fpl [eI tyDeclared data g_data]) w [] w'):=by
 rw [slices_insertionSortCmpFunc_api_Declared] at hm
 have hS0 : SH M (fpl [eI tyDeclared data g_data]) w [eI tyDeclared data g_data] w:=hS
 generalize hX : fpl [eI tyDeclared data g_data] = X at hS0 ⊢
 clear hS hX
 have hS:=hS0
 clear hS0
 refine calls_entryP Tryz.func78 rfl Tryz.ntmps78 rfl fun _ H => ?_
 refine s_reg [] [0,1,2,3,8] (fS [0,1,2,3,8] [vL g_data data,vI a_,vI b_,.func (.func 40) ⟨[]⟩ ⟨[]⟩,vI (w64 (a_ + 1))]) [] H (by kernel_rfl) trivial fun _ _ H2 hb => ?_
 replace hS:=hS.below hb
 apply w_block
 refine w_loop (fun kk a' w' => ∃ (v3 : Int),slices_insertionSortCmpFunc_api_Declared_L1 m data a_ b_ kk v3 = some _ ∧ Fr 53 (fS [0,1,2,3,8] [vL g_data data,vI a_,vI b_,.func (.func 40) ⟨[]⟩ ⟨[]⟩,vI v3]) a' ∧ SH M X w [eI tyDeclared data g_data] w') ⟨_,w64 (a_ + 1),hm,FrG.keep (ks:=[0,1,2,3,8]) H2 (by kernel_rfl),hS⟩ ?_
 clear hm H2 hS
 rintro kk _ _ ⟨v3,hm,H,hS⟩
 cases kk with
 | zero => exact noneE hm
 | succ kk =>
  rw [slices_insertionSortCmpFunc_api_Declared_L1] at hm
  apply w_seq
  refine s_reg [] [0,1,2,3,8,14] (fS [0,1,2,3,8,14] [vL g_data data,vI a_,vI b_,.func (.func 40) ⟨[]⟩ ⟨[]⟩,vI v3,vB (decide (v3 < b_))]) [] H (by kernel_rfl) trivial fun _ _ H5 hb => ?_
  replace hS:=hS.below hb
  refine w_if H5 rfl (fun hc => ?_) (fun hc => ?c24)
  case c24 =>
   replace hm:=bF hc hm
   apply w_exit rfl
   obtain rfl:=someE hm
   try dsimp only
   exact retR0 H5 rfl ⟨_,rfl,rfl,(hS.sel [] rfl)⟩
  replace hm:=bT hc hm
  apply w_skip
  obtain ⟨z6,hz,hm⟩:=bindE hm
  refine w_cut (fun a' w' => Fr 53 (fS [0,1,2,3,8] [vL g_data data,vI a_,vI b_,.func (.func 40) ⟨[]⟩ ⟨[]⟩,vI v3]) a' ∧ SH M X w [eI tyDeclared data g_data] w') ?_ ?_
  ·replace hm:=hz
   apply w_block
   refine s_reg [] [0,1,2,3,8,9] (fS [0,1,2,3,8,9] [vL g_data data,vI a_,vI b_,.func (.func 40) ⟨[]⟩ ⟨[]⟩,vI v3,vI v3]) [] H5 (by kernel_rfl) trivial fun _ _ H8 hb => ?_
   replace hS:=hS.below hb
   apply w_block
   refine w_loop (fun kk a' w' => ∃ (v9 : Int),slices_insertionSortCmpFunc_api_Declared_L2 m data a_ kk v9 = some _ ∧ Fr 53 (fS [0,1,2,3,8,9] [vL g_data data,vI a_,vI b_,.func (.func 40) ⟨[]⟩ ⟨[]⟩,vI v3,vI v9]) a' ∧ SH M X w [eI tyDeclared data g_data] w') ⟨_,v3,hm,FrG.keep (ks:=[0,1,2,3,8,9]) H8 (by kernel_rfl),hS⟩ ?_
   clear hm H8 hS
   rintro kk _ _ ⟨v9,hm,H,hS⟩
   cases kk with
   | zero => exact noneE hm
   | succ kk =>
    rw [slices_insertionSortCmpFunc_api_Declared_L2] at hm
    apply w_seq
    obtain ⟨ho10,hm⟩:=chkE hm
    obtain ⟨ho11,hm⟩:=chkE hm
    obtain ⟨y12,hy12,hm⟩:=bindE hm
    obtain ⟨x13,hx13,hm⟩:=letE hm
    refine s_draw [(vG [vS (gi data v9).Long.Name,.slice (g_data.s (v9).toNat 0).a (((gi data v9).Long.Value).length) (g_data.s (v9).toNat 0).c,vS (gi data v9).Long.Whole,vB ((gi data v9).Important),vU ((gi data v9).Origin),vB ((gi data v9).Attached),vI ((gi data v9).Layer),vI ((gi data v9).Weight.e0),vI ((gi data v9).Weight.e1),vI ((gi data v9).Weight.e2),vI ((gi data v9).Order)]),(vG [vS (gi data (w64 (v9 - 1))).Long.Name,.slice (g_data.s ((w64 (v9 - 1))).toNat 0).a (((gi data (w64 (v9 - 1))).Long.Value).length) (g_data.s ((w64 (v9 - 1))).toNat 0).c,vS (gi data (w64 (v9 - 1))).Long.Whole,vB ((gi data (w64 (v9 - 1))).Important),vU ((gi data (w64 (v9 - 1))).Origin),vB ((gi data (w64 (v9 - 1))).Attached),vI ((gi data (w64 (v9 - 1))).Layer),vI ((gi data (w64 (v9 - 1))).Weight.e0),vI ((gi data (w64 (v9 - 1))).Weight.e1),vI ((gi data (w64 (v9 - 1))).Weight.e2),vI ((gi data (w64 (v9 - 1))).Order)]),(vI y12)] [0,1,2,3,8,9,34] (fS [0,1,2,3,8,9,34] [vL g_data data,vI a_,vI b_,.func (.func 40) ⟨[]⟩ ⟨[]⟩,vI v3,vI v9,vB x13]) [fun _ => ((decide (a_ < v9)) = true ∧ True → oka g_data.a ∧ 0 ≤ v9 ∧ v9 < ln data),fun wz => ((decide (a_ < v9)) = true ∧ True → V.atN (ab g_data.a) (ao g_data.a + (v9).toNat * 11) [vS (gi data v9).Long.Name,.slice (g_data.s (v9).toNat 0).a (((gi data v9).Long.Value).length) (g_data.s (v9).toNat 0).c,vS (gi data v9).Long.Whole,vB ((gi data v9).Important),vU ((gi data v9).Origin),vB ((gi data v9).Attached),vI ((gi data v9).Layer),vI ((gi data v9).Weight.e0),vI ((gi data v9).Weight.e1),vI ((gi data v9).Weight.e2),vI ((gi data v9).Order)] 0 wz),fun _ => ((decide (a_ < v9)) = true ∧ True → oka g_data.a ∧ 0 ≤ (w64 (v9 - 1)) ∧ (w64 (v9 - 1)) < ln data),fun wz => ((decide (a_ < v9)) = true ∧ True → V.atN (ab g_data.a) (ao g_data.a + ((w64 (v9 - 1))).toNat * 11) [vS (gi data (w64 (v9 - 1))).Long.Name,.slice (g_data.s ((w64 (v9 - 1))).toNat 0).a (((gi data (w64 (v9 - 1))).Long.Value).length) (g_data.s ((w64 (v9 - 1))).toNat 0).c,vS (gi data (w64 (v9 - 1))).Long.Whole,vB ((gi data (w64 (v9 - 1))).Important),vU ((gi data (w64 (v9 - 1))).Origin),vB ((gi data (w64 (v9 - 1))).Attached),vI ((gi data (w64 (v9 - 1))).Layer),vI ((gi data (w64 (v9 - 1))).Weight.e0),vI ((gi data (w64 (v9 - 1))).Weight.e1),vI ((gi data (w64 (v9 - 1))).Weight.e2),vI ((gi data (w64 (v9 - 1))).Order)] 0 wz),fun wz => ((decide (a_ < v9)) = true ∧ True → RetB Tryz.prog 40 ⟨[vG [vS (gi data v9).Long.Name,.slice (g_data.s (v9).toNat 0).a (((gi data v9).Long.Value).length) (g_data.s (v9).toNat 0).c,vS (gi data v9).Long.Whole,vB ((gi data v9).Important),vU ((gi data v9).Origin),vB ((gi data v9).Attached),vI ((gi data v9).Layer),vI ((gi data v9).Weight.e0),vI ((gi data v9).Weight.e1),vI ((gi data v9).Weight.e2),vI ((gi data v9).Order)],vG [vS (gi data (w64 (v9 - 1))).Long.Name,.slice (g_data.s ((w64 (v9 - 1))).toNat 0).a (((gi data (w64 (v9 - 1))).Long.Value).length) (g_data.s ((w64 (v9 - 1))).toNat 0).c,vS (gi data (w64 (v9 - 1))).Long.Whole,vB ((gi data (w64 (v9 - 1))).Important),vU ((gi data (w64 (v9 - 1))).Origin),vB ((gi data (w64 (v9 - 1))).Attached),vI ((gi data (w64 (v9 - 1))).Layer),vI ((gi data (w64 (v9 - 1))).Weight.e0),vI ((gi data (w64 (v9 - 1))).Weight.e1),vI ((gi data (w64 (v9 - 1))).Weight.e2),vI ((gi data (w64 (v9 - 1))).Order)]]⟩ (vI y12) wz)] H (by kernel_rfl) (by kernel_rfl) (by subst hx13; kernel_rfl) ⟨fun hg => (hS.im 0 rfl).oki (ho10 hg.1),fun hg => (hS.im 0 rfl).atA (ho10 hg.1) 0 rfl,fun hg => (hS.im 0 rfl).oki (ho11 hg.1),fun hg => (hS.im 0 rfl).atA (ho11 hg.1) 0 rfl,fun hg => sorter_compare_ok (g_a__0:=(g_data.s (v9).toNat 0)) (g_b__0:=(g_data.s ((w64 (v9 - 1))).toNat 0)) m _ _ _ (bT (hg.1) hy12) _ (s0im (s0im s0nil (tyDeclared_i0 ((hS.im 0 rfl).el (ho11 hg.1)))) (tyDeclared_i0 ((hS.im 0 rfl).el (ho10 hg.1)))),trivial⟩ fun _ _ H15 hb => ?_
    replace hS:=hS.below hb
    refine w_if H15 rfl (fun hc => ?_) (fun hc => ?c19)
    case c19 =>
     replace hm:=bF hc hm
     apply w_exit rfl
     obtain rfl:=someE hm
     exact ⟨FrG.keep (ks:=[0,1,2,3,8]) H15 (by kernel_rfl),hS⟩
    replace hm:=bT hc hm
    apply w_skip
    apply w_seq
    apply w_block
    exact noneE hm
  ·rintro _ _ ⟨H,hS⟩
   refine w_reg [] [0,1,2,3,8] (fS [0,1,2,3,8] [vL g_data data,vI a_,vI b_,.func (.func 40) ⟨[]⟩ ⟨[]⟩,vI (w64 (v3 + 1))]) [] H (by kernel_rfl) trivial fun _ _ H22 hb => ?_
   replace hS:=hS.below hb
   exact ⟨_,Nat.lt_succ_self _,w64 (v3 + 1),hm,FrG.keep (ks:=[0,1,2,3,8]) H22 (by kernel_rfl),hS⟩
theorem slices_insertionSortCmpFunc_api_Declared_ok {g_data : Gh} (m : Nat) (data : List TDeclared) (a_ : Int) (b_ : Int) (r : Unit) (hm : slices_insertionSortCmpFunc_api_Declared m data a_ b_ = some r) (w : World) (hL : S0 F0 [eI tyDeclared data g_data] w ∧ fpl [eI tyDeclared data g_data] = []) : RetB Tryz.prog 78 ⟨[vL g_data data,vI a_,vI b_,.func (.func 40) ⟨[]⟩ ⟨[]⟩]⟩ (vW []) w:=retB_of hL (Tryz.call78 _) (fun w' h => slices_insertionSortCmpFunc_api_Declared_w F0 m   data a_ b_ r hm w' h)

end Go.Proofs.YtehlikdeobajcaaGreatDoor
