/-
  What the Go functions compute, as Lean functions, and that a call returns just that. Printed by a program.
-/
import Derived.Test.YtehlikdeobajcaaGreatDoorRows
import Derived.Test.YtehlikdeobajcaaGreatDoorRF
import Derived.Test.YtehlikdeobajcaaGreatDoorAF
import Derived.Test.YtehlikdeobajcaaGreatDoorM
import Derived.Test.YtehlikdeobajcaaGreatDoorW31lc
set_option linter.unusedVariables false
set_option maxRecDepth 20000
set_option maxHeartbeats 4000000
namespace Go.Proofs.YtehlikdeobajcaaGreatDoor
open Go.V Go.RowKit

theorem slices_swapRangeCmpFunc_api_Declared_w {g_data : Gh} (M : Av) (m : Nat) (data : List TDeclared) (a_ : Int) (b_ : Int) (n_ : Int) (r : Unit) (hm : slices_swapRangeCmpFunc_api_Declared m data a_ b_ n_ = some r) (w : World) (hS : S0 M [eI tyDeclared data g_data] w) : Calls Tryz.prog 101 ⟨[vL g_data data,vI a_,vI b_,vI n_,.func (.func 40) ⟨[]⟩ ⟨[]⟩]⟩ w (fun e w' => ∃ v,e = .returned v ∧ v = vW [] ∧ SH M (fpl [eI tyDeclared data g_data]) w [] w'):=by
 rw [slices_swapRangeCmpFunc_api_Declared] at hm
 have hS0 : SH M (fpl [eI tyDeclared data g_data]) w [eI tyDeclared data g_data] w:=hS
 generalize hX : fpl [eI tyDeclared data g_data] = X at hS0 ⊢
 clear hS hX
 have hS:=hS0
 clear hS0
 refine calls_entryP Tryz.func101 rfl Tryz.ntmps101 rfl fun _ H => ?_
 refine s_reg [] [0,1,2,3,10] (fS [0,1,2,3,10] [vL g_data data,vI a_,vI b_,vI n_,vI 0]) [] H (by kernel_rfl) trivial fun _ _ H2 hb => ?_
 replace hS:=hS.below hb
 apply w_block
 refine w_loop (fun kk a' w' => ∃ (v3 : Int),slices_swapRangeCmpFunc_api_Declared_L1 m n_ kk v3 = some _ ∧ Fr 38 (fS [0,1,2,3,10] [vL g_data data,vI a_,vI b_,vI n_,vI v3]) a' ∧ SH M X w [eI tyDeclared data g_data] w') ⟨_,0,hm,FrG.keep (ks:=[0,1,2,3,10]) H2 (by kernel_rfl),hS⟩ ?_
 clear hm H2 hS
 rintro kk _ _ ⟨v3,hm,H,hS⟩
 cases kk with
 | zero => exact noneE hm
 | succ kk =>
  rw [slices_swapRangeCmpFunc_api_Declared_L1] at hm
  apply w_seq
  refine s_reg [] [0,1,2,3,10,13] (fS [0,1,2,3,10,13] [vL g_data data,vI a_,vI b_,vI n_,vI v3,vB (decide (v3 < n_))]) [] H (by kernel_rfl) trivial fun _ _ H5 hb => ?_
  replace hS:=hS.below hb
  refine w_if H5 rfl (fun hc => ?_) (fun hc => ?c9)
  case c9 =>
   replace hm:=bF hc hm
   apply w_exit rfl
   obtain rfl:=someE hm
   try dsimp only
   exact retR0 H5 rfl ⟨_,rfl,rfl,(hS.sel [] rfl)⟩
  replace hm:=bT hc hm
  apply w_skip
  apply w_seq
  apply w_block
  exact noneE hm
theorem slices_swapRangeCmpFunc_api_Declared_ok {g_data : Gh} (m : Nat) (data : List TDeclared) (a_ : Int) (b_ : Int) (n_ : Int) (r : Unit) (hm : slices_swapRangeCmpFunc_api_Declared m data a_ b_ n_ = some r) (w : World) (hL : S0 F0 [eI tyDeclared data g_data] w ∧ fpl [eI tyDeclared data g_data] = []) : RetB Tryz.prog 101 ⟨[vL g_data data,vI a_,vI b_,vI n_,.func (.func 40) ⟨[]⟩ ⟨[]⟩]⟩ (vW []) w:=retB_of hL (Tryz.call101 _) (fun w' h => slices_swapRangeCmpFunc_api_Declared_w F0 m   data a_ b_ n_ r hm w' h)

theorem slices_rotateCmpFunc_api_Declared_w {g_data : Gh} (M : Av) (m : Nat) (data : List TDeclared) (a_ : Int) (m_ : Int) (b_ : Int) (r : Unit) (hm : slices_rotateCmpFunc_api_Declared m data a_ m_ b_ = some r) (w : World) (hS : S0 M [eI tyDeclared data g_data] w) : Calls Tryz.prog 91 ⟨[vL g_data data,vI a_,vI m_,vI b_,.func (.func 40) ⟨[]⟩ ⟨[]⟩]⟩ w (fun e w' => ∃ v,e = .returned v ∧ v = vW [] ∧ SH M (fpl [eI tyDeclared data g_data]) w [] w'):=by
 rw [slices_rotateCmpFunc_api_Declared] at hm
 have hS0 : SH M (fpl [eI tyDeclared data g_data]) w [eI tyDeclared data g_data] w:=hS
 generalize hX : fpl [eI tyDeclared data g_data] = X at hS0 ⊢
 clear hS hX
 have hS:=hS0
 clear hS0
 refine calls_entryP Tryz.func91 rfl Tryz.ntmps91 rfl fun _ H => ?_
 refine s_reg [] [0,2,3,4,10] (fS [0,2,3,4,10] [vL g_data data,vI m_,vI b_,.func (.func 40) ⟨[]⟩ ⟨[]⟩,vI (w64 (m_ - a_))]) [] H (by kernel_rfl) trivial fun _ _ H2 hb => ?_
 replace hS:=hS.below hb
 refine s_reg [] [0,2,4,10,11] (fS [0,2,4,10,11] [vL g_data data,vI m_,.func (.func 40) ⟨[]⟩ ⟨[]⟩,vI (w64 (m_ - a_)),vI (w64 (b_ - m_))]) [] H2 (by kernel_rfl) trivial fun _ _ H4 hb => ?_
 replace hS:=hS.below hb
 obtain ⟨z5,hz,hm⟩:=bindE hm
 refine w_cut (fun a' w' => Fr 58 (fS [0,2,4,10] [vL g_data data,vI m_,.func (.func 40) ⟨[]⟩ ⟨[]⟩,vI z5]) a' ∧ SH M X w [eI tyDeclared data g_data] w') ?_ ?_
 ·replace hm:=hz
  apply w_block
  refine w_loop (fun kk a' w' => ∃ (v6 : Int) (v7 : Int),slices_rotateCmpFunc_api_Declared_L1 m data m_ kk v6 v7 = some _ ∧ Fr 58 (fS [0,2,4,10,11] [vL g_data data,vI m_,.func (.func 40) ⟨[]⟩ ⟨[]⟩,vI v6,vI v7]) a' ∧ SH M X w [eI tyDeclared data g_data] w') ⟨_,w64 (m_ - a_),w64 (b_ - m_),hm,FrG.keep (ks:=[0,2,4,10,11]) H4 (by kernel_rfl),hS⟩ ?_
  clear hm H4 hS
  rintro kk _ _ ⟨v6,v7,hm,H,hS⟩
  cases kk with
  | zero => exact noneE hm
  | succ kk =>
   rw [slices_rotateCmpFunc_api_Declared_L1] at hm
   apply w_seq
   refine s_reg [] [0,2,4,10,11,20] (fS [0,2,4,10,11,20] [vL g_data data,vI m_,.func (.func 40) ⟨[]⟩ ⟨[]⟩,vI v6,vI v7,vB (v6 != v7)]) [] H (by kernel_rfl) trivial fun _ _ H9 hb => ?_
   replace hS:=hS.below hb
   refine w_if H9 rfl (fun hc => ?_) (fun hc => ?c23)
   case c23 =>
    replace hm:=bF hc hm
    apply w_exit rfl
    obtain rfl:=someE hm
    exact ⟨FrG.keep (ks:=[0,2,4,10]) H9 (by kernel_rfl),hS⟩
   replace hm:=bT hc hm
   apply w_skip
   apply w_block
   refine s_reg [] [0,2,4,10,11,23] (fS [0,2,4,10,11,23] [vL g_data data,vI m_,.func (.func 40) ⟨[]⟩ ⟨[]⟩,vI v6,vI v7,vB (decide (v7 < v6))]) [] H9 (by kernel_rfl) trivial fun _ _ H11 hb => ?_
   replace hS:=hS.below hb
   refine w_if H11 rfl (fun hc => ?_) (fun hc => ?c22)
   case c22 =>
    replace hm:=bF hc hm
    obtain ⟨y17,hy17,hm⟩:=bindE hm
    refine s_reg [(vW [])] [0,2,4,10,11] (fS [0,2,4,10,11] [vL g_data data,vI m_,.func (.func 40) ⟨[]⟩ ⟨[]⟩,vI v6,vI v7]) [rB 101 [vL g_data data,vI (w64 (m_ - v6)),vI (w64 ((w64 (m_ + v7)) - v6)),vI v6,.func (.func 40) ⟨[]⟩ ⟨[]⟩] (vW [])] H11 (by kernel_rfl) ⟨(slices_swapRangeCmpFunc_api_Declared_ok (g_data:=g_data) m _ _ _ _ _ hy17 _ (s0im s0nil (hS.im 0 rfl))),trivial⟩ fun _ _ H19 hb => ?_
    replace hS:=hS.below hb
    refine w_reg [] [0,2,4,10,11] (fS [0,2,4,10,11] [vL g_data data,vI m_,.func (.func 40) ⟨[]⟩ ⟨[]⟩,vI v6,vI (w64 (v7 - v6))]) [] H19 (by kernel_rfl) trivial fun _ _ H21 hb => ?_
    replace hS:=hS.below hb
    exact ⟨_,Nat.lt_succ_self _,v6,w64 (v7 - v6),hm,FrG.keep (ks:=[0,2,4,10,11]) H21 (by kernel_rfl),hS⟩
   replace hm:=bT hc hm
   obtain ⟨y12,hy12,hm⟩:=bindE hm
   refine s_reg [(vW [])] [0,2,4,10,11] (fS [0,2,4,10,11] [vL g_data data,vI m_,.func (.func 40) ⟨[]⟩ ⟨[]⟩,vI v6,vI v7]) [rB 101 [vL g_data data,vI (w64 (m_ - v6)),vI m_,vI v7,.func (.func 40) ⟨[]⟩ ⟨[]⟩] (vW [])] H11 (by kernel_rfl) ⟨(slices_swapRangeCmpFunc_api_Declared_ok (g_data:=g_data) m _ _ _ _ _ hy12 _ (s0im s0nil (hS.im 0 rfl))),trivial⟩ fun _ _ H14 hb => ?_
   replace hS:=hS.below hb
   refine w_reg [] [0,2,4,10,11] (fS [0,2,4,10,11] [vL g_data data,vI m_,.func (.func 40) ⟨[]⟩ ⟨[]⟩,vI (w64 (v6 - v7)),vI v7]) [] H14 (by kernel_rfl) trivial fun _ _ H16 hb => ?_
   replace hS:=hS.below hb
   exact ⟨_,Nat.lt_succ_self _,w64 (v6 - v7),v7,hm,FrG.keep (ks:=[0,2,4,10,11]) H16 (by kernel_rfl),hS⟩
 ·rintro _ _ ⟨H,hS⟩
  obtain ⟨y25,hy25,hm⟩:=bindE hm
  refine w_reg [(vW [])] [] [] [rB 101 [vL g_data data,vI (w64 (m_ - z5)),vI m_,vI z5,.func (.func 40) ⟨[]⟩ ⟨[]⟩] (vW [])] H (by kernel_rfl) ⟨(slices_swapRangeCmpFunc_api_Declared_ok (g_data:=g_data) m _ _ _ _ _ hy25 _ (s0im s0nil (hS.im 0 rfl))),trivial⟩ fun _ _ H27 hb => ?_
  replace hS:=hS.below hb
  replace hS : SH M X w [] _:=hS.sel [] rfl
  obtain rfl:=someE hm
  try dsimp only
  exact retR0 H27 rfl ⟨_,rfl,rfl,(hS.sel [] rfl)⟩
theorem slices_rotateCmpFunc_api_Declared_ok {g_data : Gh} (m : Nat) (data : List TDeclared) (a_ : Int) (m_ : Int) (b_ : Int) (r : Unit) (hm : slices_rotateCmpFunc_api_Declared m data a_ m_ b_ = some r) (w : World) (hL : S0 F0 [eI tyDeclared data g_data] w ∧ fpl [eI tyDeclared data g_data] = []) : RetB Tryz.prog 91 ⟨[vL g_data data,vI a_,vI m_,vI b_,.func (.func 40) ⟨[]⟩ ⟨[]⟩]⟩ (vW []) w:=retB_of hL (Tryz.call91 _) (fun w' h => slices_rotateCmpFunc_api_Declared_w F0 m   data a_ m_ b_ r hm w' h)

def slices_symMergeCmpFunc_api_Declared_S (rec_ : (List TDeclared) → Int → Int → Int → Option (Unit)) : Prop:=∀ (g_data : Gh) (M : Av) (data : List TDeclared) (a_ : Int) (m_ : Int) (b_ : Int) (r : Unit),rec_ data a_ m_ b_ = some r → ∀ w,S0 M [eI tyDeclared data g_data] w → Calls Tryz.prog 79 ⟨[vL g_data data,vI a_,vI m_,vI b_,.func (.func 40) ⟨[]⟩ ⟨[]⟩]⟩ w (fun e w' => ∃ v,e = .returned v ∧ v = vW [] ∧ SH M (fpl [eI tyDeclared data g_data]) w [] w')
theorem slices_symMergeCmpFunc_api_Declared_w (m : Nat) : ∀ (k : Nat),slices_symMergeCmpFunc_api_Declared_S (slices_symMergeCmpFunc_api_Declared_r m  k):=by
 intro k
 induction k with
 | zero => intro g_data M data a_ m_ b_ r hm; exact noneE hm
 | succ k ih =>
  intro g_data M data a_ m_ b_ r hm w hS
  rw [slices_symMergeCmpFunc_api_Declared_r] at hm
  have hS0 : SH M (fpl [eI tyDeclared data g_data]) w [eI tyDeclared data g_data] w:=hS
  generalize hX : fpl [eI tyDeclared data g_data] = X at hS0 ⊢
  clear hS hX
  have hS:=hS0
  clear hS0
  refine calls_entryP Tryz.func79 rfl Tryz.ntmps79 rfl fun _ H => ?_
  obtain ⟨z1,hz,hm_z1⟩:=bindE hm
  refine w_cut (fun a' w' => ∃ s_z1 : Unit,z1 = Sum.inr s_z1 ∧ Fr 220 (fS [0,1,2,3,4] [vL g_data data,vI a_,vI m_,vI b_,.func (.func 40) ⟨[]⟩ ⟨[]⟩]) a' ∧ SH M X w [eI tyDeclared data g_data] w') ?_ ?_
  ·replace hm:=hz
   refine s_reg [] [0,1,2,3,4,28] (fS [0,1,2,3,4,28] [vL g_data data,vI a_,vI m_,vI b_,.func (.func 40) ⟨[]⟩ ⟨[]⟩,vB ((w64 (m_ - a_)) == 1)]) [] H (by kernel_rfl) trivial fun _ _ H3 hb => ?_
   replace hS:=hS.below hb
   refine w_if H3 rfl (fun hc => ?_) (fun hc => ?c41)
   case c41 =>
    replace hm:=bF hc hm
    apply w_skip
    obtain rfl:=someE hm
    exact ⟨_,rfl,FrG.keep (ks:=[0,1,2,3,4]) H3 (by kernel_rfl),hS⟩
   replace hm:=bT hc hm
   refine s_reg [] [0,1,3,4,10] (fS [0,1,3,4,10] [vL g_data data,vI a_,vI b_,.func (.func 40) ⟨[]⟩ ⟨[]⟩,vI m_]) [] H3 (by kernel_rfl) trivial fun _ _ H5 hb => ?_
   replace hS:=hS.below hb
   refine s_reg [] [0,1,4,10,11] (fS [0,1,4,10,11] [vL g_data data,vI a_,.func (.func 40) ⟨[]⟩ ⟨[]⟩,vI m_,vI b_]) [] H5 (by kernel_rfl) trivial fun _ _ H7 hb => ?_
   replace hS:=hS.below hb
   obtain ⟨z8,hz,hm⟩:=bindE hm
   refine w_cut (fun a' w' => Fr 220 (fS [0,1,10] [vL g_data data,vI a_,vI z8]) a' ∧ SH M X w [eI tyDeclared data g_data] w') ?_ ?_
   ·replace hm:=hz
    apply w_block
    refine w_loop (fun kk a' w' => ∃ (v9 : Int) (v10 : Int),slices_symMergeCmpFunc_api_Declared_L1 m data a_ kk v9 v10 = some _ ∧ Fr 220 (fS [0,1,4,10,11] [vL g_data data,vI a_,.func (.func 40) ⟨[]⟩ ⟨[]⟩,vI v9,vI v10]) a' ∧ SH M X w [eI tyDeclared data g_data] w') ⟨_,m_,b_,hm,FrG.keep (ks:=[0,1,4,10,11]) H7 (by kernel_rfl),hS⟩ ?_
    clear hm H7 hS
    rintro kk _ _ ⟨v9,v10,hm,H,hS⟩
    cases kk with
    | zero => exact noneE hm
    | succ kk =>
     rw [slices_symMergeCmpFunc_api_Declared_L1] at hm
     apply w_seq
     refine s_reg [] [0,1,4,10,11,33] (fS [0,1,4,10,11,33] [vL g_data data,vI a_,.func (.func 40) ⟨[]⟩ ⟨[]⟩,vI v9,vI v10,vB (decide (v9 < v10))]) [] H (by kernel_rfl) trivial fun _ _ H12 hb => ?_
     replace hS:=hS.below hb
     refine w_if H12 rfl (fun hc => ?_) (fun hc => ?c26)
     case c26 =>
      replace hm:=bF hc hm
      apply w_exit rfl
      obtain rfl:=someE hm
      exact ⟨FrG.keep (ks:=[0,1,10]) H12 (by kernel_rfl),hS⟩
     replace hm:=bT hc hm
     apply w_skip
     apply w_block
     obtain ⟨x13,hx13,hm⟩:=letE hm
     refine s_reg [] [0,1,4,10,11,12] (fS [0,1,4,10,11,12] [vL g_data data,vI a_,.func (.func 40) ⟨[]⟩ ⟨[]⟩,vI v9,vI v10,vI x13]) [fun _ => (0 : Int) ≤ 1] H12 (by subst hx13; kernel_rfl) ⟨(by show (0 : Int) ≤ 1; decide),trivial⟩ fun _ _ H15 hb => ?_
     replace hS:=hS.below hb
     obtain ⟨ho16,hm⟩:=chkE hm
     obtain ⟨ho17,hm⟩:=chkE hm
     obtain ⟨y18,hy18,hm⟩:=bindE hm
     refine s_draw [(vG [vS (gi data x13).Long.Name,.slice (g_data.s (x13).toNat 0).a (((gi data x13).Long.Value).length) (g_data.s (x13).toNat 0).c,vS (gi data x13).Long.Whole,vB ((gi data x13).Important),vU ((gi data x13).Origin),vB ((gi data x13).Attached),vI ((gi data x13).Layer),vI ((gi data x13).Weight.e0),vI ((gi data x13).Weight.e1),vI ((gi data x13).Weight.e2),vI ((gi data x13).Order)]),(vG [vS (gi data a_).Long.Name,.slice (g_data.s (a_).toNat 0).a (((gi data a_).Long.Value).length) (g_data.s (a_).toNat 0).c,vS (gi data a_).Long.Whole,vB ((gi data a_).Important),vU ((gi data a_).Origin),vB ((gi data a_).Attached),vI ((gi data a_).Layer),vI ((gi data a_).Weight.e0),vI ((gi data a_).Weight.e1),vI ((gi data a_).Weight.e2),vI ((gi data a_).Order)]),(vI y18)] [0,1,4,10,11,12,50] (fS [0,1,4,10,11,12,50] [vL g_data data,vI a_,.func (.func 40) ⟨[]⟩ ⟨[]⟩,vI v9,vI v10,vI x13,vB (decide (y18 < 0))]) [fun _ => oka g_data.a ∧ 0 ≤ x13 ∧ x13 < ln data,fun wz => V.atN (ab g_data.a) (ao g_data.a + (x13).toNat * 11) [vS (gi data x13).Long.Name,.slice (g_data.s (x13).toNat 0).a (((gi data x13).Long.Value).length) (g_data.s (x13).toNat 0).c,vS (gi data x13).Long.Whole,vB ((gi data x13).Important),vU ((gi data x13).Origin),vB ((gi data x13).Attached),vI ((gi data x13).Layer),vI ((gi data x13).Weight.e0),vI ((gi data x13).Weight.e1),vI ((gi data x13).Weight.e2),vI ((gi data x13).Order)] 0 wz,fun _ => oka g_data.a ∧ 0 ≤ a_ ∧ a_ < ln data,fun wz => V.atN (ab g_data.a) (ao g_data.a + (a_).toNat * 11) [vS (gi data a_).Long.Name,.slice (g_data.s (a_).toNat 0).a (((gi data a_).Long.Value).length) (g_data.s (a_).toNat 0).c,vS (gi data a_).Long.Whole,vB ((gi data a_).Important),vU ((gi data a_).Origin),vB ((gi data a_).Attached),vI ((gi data a_).Layer),vI ((gi data a_).Weight.e0),vI ((gi data a_).Weight.e1),vI ((gi data a_).Weight.e2),vI ((gi data a_).Order)] 0 wz,rB 40 [vG [vS (gi data x13).Long.Name,.slice (g_data.s (x13).toNat 0).a (((gi data x13).Long.Value).length) (g_data.s (x13).toNat 0).c,vS (gi data x13).Long.Whole,vB ((gi data x13).Important),vU ((gi data x13).Origin),vB ((gi data x13).Attached),vI ((gi data x13).Layer),vI ((gi data x13).Weight.e0),vI ((gi data x13).Weight.e1),vI ((gi data x13).Weight.e2),vI ((gi data x13).Order)],vG [vS (gi data a_).Long.Name,.slice (g_data.s (a_).toNat 0).a (((gi data a_).Long.Value).length) (g_data.s (a_).toNat 0).c,vS (gi data a_).Long.Whole,vB ((gi data a_).Important),vU ((gi data a_).Origin),vB ((gi data a_).Attached),vI ((gi data a_).Layer),vI ((gi data a_).Weight.e0),vI ((gi data a_).Weight.e1),vI ((gi data a_).Weight.e2),vI ((gi data a_).Order)]] (vI y18)] H15 (by kernel_rfl) (by kernel_rfl) (by kernel_rfl) ⟨((hS.im 0 rfl).oki ho16),((hS.im 0 rfl).atA ho16 0 rfl),((hS.im 0 rfl).oki ho17),((hS.im 0 rfl).atA ho17 0 rfl),(sorter_compare_ok (g_a__0:=(g_data.s (x13).toNat 0)) (g_b__0:=(g_data.s (a_).toNat 0)) m _ _ _ hy18 _ (s0im (s0im s0nil (tyDeclared_i0 ((hS.im 0 rfl).el ho17))) (tyDeclared_i0 ((hS.im 0 rfl).el ho16)))),trivial⟩ fun _ _ H20 hb => ?_
     replace hS:=hS.below hb
     refine w_if H20 rfl (fun hc => ?_) (fun hc => ?c25)
     case c25 =>
      replace hm:=bF hc hm
      refine w_reg [] [0,1,4,10,11] (fS [0,1,4,10,11] [vL g_data data,vI a_,.func (.func 40) ⟨[]⟩ ⟨[]⟩,vI v9,vI x13]) [] H20 (by kernel_rfl) trivial fun _ _ H24 hb => ?_
      replace hS:=hS.below hb
      exact ⟨_,Nat.lt_succ_self _,v9,x13,hm,FrG.keep (ks:=[0,1,4,10,11]) H24 (by kernel_rfl),hS⟩
     replace hm:=bT hc hm
     refine w_reg [] [0,1,4,10,11] (fS [0,1,4,10,11] [vL g_data data,vI a_,.func (.func 40) ⟨[]⟩ ⟨[]⟩,vI (w64 (x13 + 1)),vI v10]) [] H20 (by kernel_rfl) trivial fun _ _ H22 hb => ?_
     replace hS:=hS.below hb
     exact ⟨_,Nat.lt_succ_self _,w64 (x13 + 1),v10,hm,FrG.keep (ks:=[0,1,4,10,11]) H22 (by kernel_rfl),hS⟩
   ·rintro _ _ ⟨H,hS⟩
    obtain ⟨z28,hz,hm⟩:=bindE hm
    refine w_cut (fun a' w' => Fr 220 [] a' ∧ SH M X w [eI tyDeclared data g_data] w') ?_ ?_
    ·replace hm:=hz
     refine s_reg [] [0,10,13] (fS [0,10,13] [vL g_data data,vI z8,vI a_]) [] H (by kernel_rfl) trivial fun _ _ H30 hb => ?_
     replace hS:=hS.below hb
     apply w_block
     refine w_loop (fun kk a' w' => ∃ (v31 : Int),slices_symMergeCmpFunc_api_Declared_L2 m z8 kk v31 = some _ ∧ Fr 220 (fS [0,10,13] [vL g_data data,vI z8,vI v31]) a' ∧ SH M X w [eI tyDeclared data g_data] w') ⟨_,a_,hm,FrG.keep (ks:=[0,10,13]) H30 (by kernel_rfl),hS⟩ ?_
     clear hm H30 hS
     rintro kk _ _ ⟨v31,hm,H,hS⟩
     cases kk with
     | zero => exact noneE hm
     | succ kk =>
      rw [slices_symMergeCmpFunc_api_Declared_L2] at hm
      apply w_seq
      refine s_reg [] [0,10,13,58] (fS [0,10,13,58] [vL g_data data,vI z8,vI v31,vB (decide (v31 < (w64 (z8 - 1))))]) [] H (by kernel_rfl) trivial fun _ _ H33 hb => ?_
      replace hS:=hS.below hb
      refine w_if H33 rfl (fun hc => ?_) (fun hc => ?c37)
      case c37 =>
       replace hm:=bF hc hm
       apply w_exit rfl
       obtain rfl:=someE hm
       exact ⟨FrG.keep (ks:=[]) H33 (by kernel_rfl),hS⟩
      replace hm:=bT hc hm
      apply w_skip
      apply w_seq
      apply w_block
      exact noneE hm
    ·rintro _ _ ⟨H,hS⟩
     apply w_ret
     obtain rfl:=someE hm
     have hm:=hm_z1
     obtain rfl:=someE hm
     try dsimp only
     exact retR0 H rfl ⟨_,rfl,rfl,(hS.sel [] rfl)⟩
  ·rintro _ _ ⟨s_z1,hz,H,hS⟩
   subst hz
   replace hm:=sumR hm_z1
   obtain ⟨z42,hz,hm_z42⟩:=bindE hm
   refine w_cut (fun a' w' => ∃ s_z42 : Unit,z42 = Sum.inr s_z42 ∧ Fr 220 (fS [0,1,2,3,4] [vL g_data data,vI a_,vI m_,vI b_,.func (.func 40) ⟨[]⟩ ⟨[]⟩]) a' ∧ SH M X w [eI tyDeclared data g_data] w') ?_ ?_
   ·replace hm:=hz
    refine s_reg [] [0,1,2,3,4,80] (fS [0,1,2,3,4,80] [vL g_data data,vI a_,vI m_,vI b_,.func (.func 40) ⟨[]⟩ ⟨[]⟩,vB ((w64 (b_ - m_)) == 1)]) [] H (by kernel_rfl) trivial fun _ _ H44 hb => ?_
    replace hS:=hS.below hb
    refine w_if H44 rfl (fun hc => ?_) (fun hc => ?c82)
    case c82 =>
     replace hm:=bF hc hm
     apply w_skip
     obtain rfl:=someE hm
     exact ⟨_,rfl,FrG.keep (ks:=[0,1,2,3,4]) H44 (by kernel_rfl),hS⟩
    replace hm:=bT hc hm
    refine s_reg [] [0,2,4,14] (fS [0,2,4,14] [vL g_data data,vI m_,.func (.func 40) ⟨[]⟩ ⟨[]⟩,vI a_]) [] H44 (by kernel_rfl) trivial fun _ _ H46 hb => ?_
    replace hS:=hS.below hb
    refine s_reg [] [0,2,4,14,15] (fS [0,2,4,14,15] [vL g_data data,vI m_,.func (.func 40) ⟨[]⟩ ⟨[]⟩,vI a_,vI m_]) [] H46 (by kernel_rfl) trivial fun _ _ H48 hb => ?_
    replace hS:=hS.below hb
    obtain ⟨z49,hz,hm⟩:=bindE hm
    refine w_cut (fun a' w' => Fr 220 (fS [0,2,14] [vL g_data data,vI m_,vI z49]) a' ∧ SH M X w [eI tyDeclared data g_data] w') ?_ ?_
    ·replace hm:=hz
     apply w_block
     refine w_loop (fun kk a' w' => ∃ (v50 : Int) (v51 : Int),slices_symMergeCmpFunc_api_Declared_L3 m data m_ kk v50 v51 = some _ ∧ Fr 220 (fS [0,2,4,14,15] [vL g_data data,vI m_,.func (.func 40) ⟨[]⟩ ⟨[]⟩,vI v50,vI v51]) a' ∧ SH M X w [eI tyDeclared data g_data] w') ⟨_,a_,m_,hm,FrG.keep (ks:=[0,2,4,14,15]) H48 (by kernel_rfl),hS⟩ ?_
     clear hm H48 hS
     rintro kk _ _ ⟨v50,v51,hm,H,hS⟩
     cases kk with
     | zero => exact noneE hm
     | succ kk =>
      rw [slices_symMergeCmpFunc_api_Declared_L3] at hm
      apply w_seq
      refine s_reg [] [0,2,4,14,15,85] (fS [0,2,4,14,15,85] [vL g_data data,vI m_,.func (.func 40) ⟨[]⟩ ⟨[]⟩,vI v50,vI v51,vB (decide (v50 < v51))]) [] H (by kernel_rfl) trivial fun _ _ H53 hb => ?_
      replace hS:=hS.below hb
      refine w_if H53 rfl (fun hc => ?_) (fun hc => ?c67)
      case c67 =>
       replace hm:=bF hc hm
       apply w_exit rfl
       obtain rfl:=someE hm
       exact ⟨FrG.keep (ks:=[0,2,14]) H53 (by kernel_rfl),hS⟩
      replace hm:=bT hc hm
      apply w_skip
      apply w_block
      obtain ⟨x54,hx54,hm⟩:=letE hm
      refine s_reg [] [0,2,4,14,15,16] (fS [0,2,4,14,15,16] [vL g_data data,vI m_,.func (.func 40) ⟨[]⟩ ⟨[]⟩,vI v50,vI v51,vI (w64 x54)]) [fun _ => (0 : Int) ≤ 1] H53 (by subst hx54; kernel_rfl) ⟨(by show (0 : Int) ≤ 1; decide),trivial⟩ fun _ _ H56 hb => ?_
      replace hS:=hS.below hb
      obtain ⟨ho57,hm⟩:=chkE hm
      obtain ⟨ho58,hm⟩:=chkE hm
      obtain ⟨y59,hy59,hm⟩:=bindE hm
      refine s_draw [(vG [vS (gi data m_).Long.Name,.slice (g_data.s (m_).toNat 0).a (((gi data m_).Long.Value).length) (g_data.s (m_).toNat 0).c,vS (gi data m_).Long.Whole,vB ((gi data m_).Important),vU ((gi data m_).Origin),vB ((gi data m_).Attached),vI ((gi data m_).Layer),vI ((gi data m_).Weight.e0),vI ((gi data m_).Weight.e1),vI ((gi data m_).Weight.e2),vI ((gi data m_).Order)]),(vG [vS (gi data (w64 x54)).Long.Name,.slice (g_data.s ((w64 x54)).toNat 0).a (((gi data (w64 x54)).Long.Value).length) (g_data.s ((w64 x54)).toNat 0).c,vS (gi data (w64 x54)).Long.Whole,vB ((gi data (w64 x54)).Important),vU ((gi data (w64 x54)).Origin),vB ((gi data (w64 x54)).Attached),vI ((gi data (w64 x54)).Layer),vI ((gi data (w64 x54)).Weight.e0),vI ((gi data (w64 x54)).Weight.e1),vI ((gi data (w64 x54)).Weight.e2),vI ((gi data (w64 x54)).Order)]),(vI y59)] [0,2,4,14,15,16,103] (fS [0,2,4,14,15,16,103] [vL g_data data,vI m_,.func (.func 40) ⟨[]⟩ ⟨[]⟩,vI v50,vI v51,vI (w64 x54),vB (!(decide (y59 < 0)))]) [fun _ => oka g_data.a ∧ 0 ≤ m_ ∧ m_ < ln data,fun wz => V.atN (ab g_data.a) (ao g_data.a + (m_).toNat * 11) [vS (gi data m_).Long.Name,.slice (g_data.s (m_).toNat 0).a (((gi data m_).Long.Value).length) (g_data.s (m_).toNat 0).c,vS (gi data m_).Long.Whole,vB ((gi data m_).Important),vU ((gi data m_).Origin),vB ((gi data m_).Attached),vI ((gi data m_).Layer),vI ((gi data m_).Weight.e0),vI ((gi data m_).Weight.e1),vI ((gi data m_).Weight.e2),vI ((gi data m_).Order)] 0 wz,fun _ => oka g_data.a ∧ 0 ≤ (w64 x54) ∧ (w64 x54) < ln data,fun wz => V.atN (ab g_data.a) (ao g_data.a + ((w64 x54)).toNat * 11) [vS (gi data (w64 x54)).Long.Name,.slice (g_data.s ((w64 x54)).toNat 0).a (((gi data (w64 x54)).Long.Value).length) (g_data.s ((w64 x54)).toNat 0).c,vS (gi data (w64 x54)).Long.Whole,vB ((gi data (w64 x54)).Important),vU ((gi data (w64 x54)).Origin),vB ((gi data (w64 x54)).Attached),vI ((gi data (w64 x54)).Layer),vI ((gi data (w64 x54)).Weight.e0),vI ((gi data (w64 x54)).Weight.e1),vI ((gi data (w64 x54)).Weight.e2),vI ((gi data (w64 x54)).Order)] 0 wz,rB 40 [vG [vS (gi data m_).Long.Name,.slice (g_data.s (m_).toNat 0).a (((gi data m_).Long.Value).length) (g_data.s (m_).toNat 0).c,vS (gi data m_).Long.Whole,vB ((gi data m_).Important),vU ((gi data m_).Origin),vB ((gi data m_).Attached),vI ((gi data m_).Layer),vI ((gi data m_).Weight.e0),vI ((gi data m_).Weight.e1),vI ((gi data m_).Weight.e2),vI ((gi data m_).Order)],vG [vS (gi data (w64 x54)).Long.Name,.slice (g_data.s ((w64 x54)).toNat 0).a (((gi data (w64 x54)).Long.Value).length) (g_data.s ((w64 x54)).toNat 0).c,vS (gi data (w64 x54)).Long.Whole,vB ((gi data (w64 x54)).Important),vU ((gi data (w64 x54)).Origin),vB ((gi data (w64 x54)).Attached),vI ((gi data (w64 x54)).Layer),vI ((gi data (w64 x54)).Weight.e0),vI ((gi data (w64 x54)).Weight.e1),vI ((gi data (w64 x54)).Weight.e2),vI ((gi data (w64 x54)).Order)]] (vI y59)] H56 (by kernel_rfl) (by kernel_rfl) (by kernel_rfl) ⟨((hS.im 0 rfl).oki ho57),((hS.im 0 rfl).atA ho57 0 rfl),((hS.im 0 rfl).oki ho58),((hS.im 0 rfl).atA ho58 0 rfl),(sorter_compare_ok (g_a__0:=(g_data.s (m_).toNat 0)) (g_b__0:=(g_data.s ((w64 x54)).toNat 0)) m _ _ _ hy59 _ (s0im (s0im s0nil (tyDeclared_i0 ((hS.im 0 rfl).el ho58))) (tyDeclared_i0 ((hS.im 0 rfl).el ho57)))),trivial⟩ fun _ _ H61 hb => ?_
      replace hS:=hS.below hb
      refine w_if H61 rfl (fun hc => ?_) (fun hc => ?c66)
      case c66 =>
       replace hm:=bF hc hm
       refine w_reg [] [0,2,4,14,15] (fS [0,2,4,14,15] [vL g_data data,vI m_,.func (.func 40) ⟨[]⟩ ⟨[]⟩,vI v50,vI (w64 x54)]) [] H61 (by kernel_rfl) trivial fun _ _ H65 hb => ?_
       replace hS:=hS.below hb
       exact ⟨_,Nat.lt_succ_self _,v50,w64 x54,hm,FrG.keep (ks:=[0,2,4,14,15]) H65 (by kernel_rfl),hS⟩
      replace hm:=bT hc hm
      refine w_reg [] [0,2,4,14,15] (fS [0,2,4,14,15] [vL g_data data,vI m_,.func (.func 40) ⟨[]⟩ ⟨[]⟩,vI (w64 ((w64 x54) + 1)),vI v51]) [] H61 (by kernel_rfl) trivial fun _ _ H63 hb => ?_
      replace hS:=hS.below hb
      exact ⟨_,Nat.lt_succ_self _,w64 ((w64 x54) + 1),v51,hm,FrG.keep (ks:=[0,2,4,14,15]) H63 (by kernel_rfl),hS⟩
    ·rintro _ _ ⟨H,hS⟩
     obtain ⟨z69,hz,hm⟩:=bindE hm
     refine w_cut (fun a' w' => Fr 220 [] a' ∧ SH M X w [eI tyDeclared data g_data] w') ?_ ?_
     ·replace hm:=hz
      refine s_reg [] [0,14,17] (fS [0,14,17] [vL g_data data,vI z49,vI m_]) [] H (by kernel_rfl) trivial fun _ _ H71 hb => ?_
      replace hS:=hS.below hb
      apply w_block
      refine w_loop (fun kk a' w' => ∃ (v72 : Int),slices_symMergeCmpFunc_api_Declared_L4 m z49 kk v72 = some _ ∧ Fr 220 (fS [0,14,17] [vL g_data data,vI z49,vI v72]) a' ∧ SH M X w [eI tyDeclared data g_data] w') ⟨_,m_,hm,FrG.keep (ks:=[0,14,17]) H71 (by kernel_rfl),hS⟩ ?_
      clear hm H71 hS
      rintro kk _ _ ⟨v72,hm,H,hS⟩
      cases kk with
      | zero => exact noneE hm
      | succ kk =>
       rw [slices_symMergeCmpFunc_api_Declared_L4] at hm
       apply w_seq
       refine s_reg [] [0,14,17,110] (fS [0,14,17,110] [vL g_data data,vI z49,vI v72,vB (decide (z49 < v72))]) [] H (by kernel_rfl) trivial fun _ _ H74 hb => ?_
       replace hS:=hS.below hb
       refine w_if H74 rfl (fun hc => ?_) (fun hc => ?c78)
       case c78 =>
        replace hm:=bF hc hm
        apply w_exit rfl
        obtain rfl:=someE hm
        exact ⟨FrG.keep (ks:=[]) H74 (by kernel_rfl),hS⟩
       replace hm:=bT hc hm
       apply w_skip
       apply w_seq
       apply w_block
       exact noneE hm
     ·rintro _ _ ⟨H,hS⟩
      apply w_ret
      obtain rfl:=someE hm
      have hm:=hm_z42
      obtain rfl:=someE hm
      try dsimp only
      exact retR0 H rfl ⟨_,rfl,rfl,(hS.sel [] rfl)⟩
   ·rintro _ _ ⟨s_z42,hz,H,hS⟩
    subst hz
    replace hm:=sumR hm_z42
    obtain ⟨x83,hx83,hm⟩:=letE hm
    refine s_reg [] [0,1,2,3,4,18] (fS [0,1,2,3,4,18] [vL g_data data,vI a_,vI m_,vI b_,.func (.func 40) ⟨[]⟩ ⟨[]⟩,vI x83]) [fun _ => (0 : Int) ≤ 1] H (by subst hx83; kernel_rfl) ⟨(by show (0 : Int) ≤ 1; decide),trivial⟩ fun _ _ H85 hb => ?_
    replace hS:=hS.below hb
    refine s_reg [] [0,1,2,3,4,18,19] (fS [0,1,2,3,4,18,19] [vL g_data data,vI a_,vI m_,vI b_,.func (.func 40) ⟨[]⟩ ⟨[]⟩,vI x83,vI (w64 (x83 + m_))]) [] H85 (by kernel_rfl) trivial fun _ _ H87 hb => ?_
    replace hS:=hS.below hb
    refine s_reg [] [0,1,2,3,4,18,19] (fS [0,1,2,3,4,18,19] [vL g_data data,vI a_,vI m_,vI b_,.func (.func 40) ⟨[]⟩ ⟨[]⟩,vI x83,vI (w64 (x83 + m_))]) [] H87 (by kernel_rfl) trivial fun _ _ H89 hb => ?_
    replace hS:=hS.below hb
    obtain ⟨z90,hz,hm⟩:=bindE hm
    refine w_cut (fun a' w' => Fr 220 (fS [0,1,2,3,4,18,19,20,21] [vL g_data data,vI a_,vI m_,vI b_,.func (.func 40) ⟨[]⟩ ⟨[]⟩,vI x83,vI (w64 (x83 + m_)),vI z90.1,vI z90.2]) a' ∧ SH M X w [eI tyDeclared data g_data] w') ?_ ?_
    ·replace hm:=hz
     refine s_reg [] [0,1,2,3,4,18,19,140] (fS [0,1,2,3,4,18,19,140] [vL g_data data,vI a_,vI m_,vI b_,.func (.func 40) ⟨[]⟩ ⟨[]⟩,vI x83,vI (w64 (x83 + m_)),vB (decide (x83 < m_))]) [] H89 (by kernel_rfl) trivial fun _ _ H92 hb => ?_
     replace hS:=hS.below hb
     refine w_if H92 rfl (fun hc => ?_) (fun hc => ?c101)
     case c101 =>
      replace hm:=bF hc hm
      refine s_reg [] [0,1,2,3,4,18,19,20] (fS [0,1,2,3,4,18,19,20] [vL g_data data,vI a_,vI m_,vI b_,.func (.func 40) ⟨[]⟩ ⟨[]⟩,vI x83,vI (w64 (x83 + m_)),vI a_]) [] H92 (by kernel_rfl) trivial fun _ _ H98 hb => ?_
      replace hS:=hS.below hb
      refine w_reg [] [0,1,2,3,4,18,19,20,21] (fS [0,1,2,3,4,18,19,20,21] [vL g_data data,vI a_,vI m_,vI b_,.func (.func 40) ⟨[]⟩ ⟨[]⟩,vI x83,vI (w64 (x83 + m_)),vI a_,vI m_]) [] H98 (by kernel_rfl) trivial fun _ _ H100 hb => ?_
      replace hS:=hS.below hb
      obtain rfl:=someE hm
      exact ⟨FrG.keep (ks:=[0,1,2,3,4,18,19,20,21]) H100 (by kernel_rfl),hS⟩
     replace hm:=bT hc hm
     refine s_reg [] [0,1,2,3,4,18,19,20] (fS [0,1,2,3,4,18,19,20] [vL g_data data,vI a_,vI m_,vI b_,.func (.func 40) ⟨[]⟩ ⟨[]⟩,vI x83,vI (w64 (x83 + m_)),vI (w64 ((w64 (x83 + m_)) - b_))]) [] H92 (by kernel_rfl) trivial fun _ _ H94 hb => ?_
     replace hS:=hS.below hb
     refine w_reg [] [0,1,2,3,4,18,19,20,21] (fS [0,1,2,3,4,18,19,20,21] [vL g_data data,vI a_,vI m_,vI b_,.func (.func 40) ⟨[]⟩ ⟨[]⟩,vI x83,vI (w64 (x83 + m_)),vI (w64 ((w64 (x83 + m_)) - b_)),vI x83]) [] H94 (by kernel_rfl) trivial fun _ _ H96 hb => ?_
     replace hS:=hS.below hb
     obtain rfl:=someE hm
     exact ⟨FrG.keep (ks:=[0,1,2,3,4,18,19,20,21]) H96 (by kernel_rfl),hS⟩
    ·rintro _ _ ⟨H,hS⟩
     refine s_reg [] [0,1,2,3,4,18,19,20,21,22] (fS [0,1,2,3,4,18,19,20,21,22] [vL g_data data,vI a_,vI m_,vI b_,.func (.func 40) ⟨[]⟩ ⟨[]⟩,vI x83,vI (w64 (x83 + m_)),vI z90.1,vI z90.2,vI (w64 ((w64 (x83 + m_)) - 1))]) [] H (by kernel_rfl) trivial fun _ _ H103 hb => ?_
     replace hS:=hS.below hb
     obtain ⟨z104,hz,hm⟩:=bindE hm
     refine w_cut (fun a' w' => Fr 220 (fS [0,1,2,3,4,18,19,20] [vL g_data data,vI a_,vI m_,vI b_,.func (.func 40) ⟨[]⟩ ⟨[]⟩,vI x83,vI (w64 (x83 + m_)),vI z104]) a' ∧ SH M X w [eI tyDeclared data g_data] w') ?_ ?_
     ·replace hm:=hz
      apply w_block
      refine w_loop (fun kk a' w' => ∃ (v105 : Int) (v106 : Int),slices_symMergeCmpFunc_api_Declared_L5 m data m_ x83 kk v105 v106 = some _ ∧ Fr 220 (fS [0,1,2,3,4,18,19,22,20,21] [vL g_data data,vI a_,vI m_,vI b_,.func (.func 40) ⟨[]⟩ ⟨[]⟩,vI x83,vI (w64 (x83 + m_)),vI (w64 ((w64 (x83 + m_)) - 1)),vI v105,vI v106]) a' ∧ SH M X w [eI tyDeclared data g_data] w') ⟨_,z90.1,z90.2,hm,FrG.keep (ks:=[0,1,2,3,4,18,19,22,20,21]) H103 (by kernel_rfl),hS⟩ ?_
      clear hm H103 hS
      rintro kk _ _ ⟨v105,v106,hm,H,hS⟩
      cases kk with
      | zero => exact noneE hm
      | succ kk =>
       rw [slices_symMergeCmpFunc_api_Declared_L5] at hm
       apply w_seq
       refine s_reg [] [0,1,2,3,4,18,19,20,21,22,151] (fS [0,1,2,3,4,18,19,20,21,22,151] [vL g_data data,vI a_,vI m_,vI b_,.func (.func 40) ⟨[]⟩ ⟨[]⟩,vI x83,vI (w64 (x83 + m_)),vI v105,vI v106,vI (w64 ((w64 (x83 + m_)) - 1)),vB (decide (v105 < v106))]) [] H (by kernel_rfl) trivial fun _ _ H108 hb => ?_
       replace hS:=hS.below hb
       refine w_if H108 rfl (fun hc => ?_) (fun hc => ?c123)
       case c123 =>
        replace hm:=bF hc hm
        apply w_exit rfl
        obtain rfl:=someE hm
        exact ⟨FrG.keep (ks:=[0,1,2,3,4,18,19,20]) H108 (by kernel_rfl),hS⟩
       replace hm:=bT hc hm
       apply w_skip
       apply w_block
       obtain ⟨x109,hx109,hm⟩:=letE hm
       refine s_reg [] [0,1,2,3,4,18,19,20,21,22,23] (fS [0,1,2,3,4,18,19,20,21,22,23] [vL g_data data,vI a_,vI m_,vI b_,.func (.func 40) ⟨[]⟩ ⟨[]⟩,vI x83,vI (w64 (x83 + m_)),vI v105,vI v106,vI (w64 ((w64 (x83 + m_)) - 1)),vI (w64 x109)]) [fun _ => (0 : Int) ≤ 1] H108 (by subst hx109; kernel_rfl) ⟨(by show (0 : Int) ≤ 1; decide),trivial⟩ fun _ _ H111 hb => ?_
       replace hS:=hS.below hb
       obtain ⟨x112,hx112,hm⟩:=letE hm
       obtain ⟨ho113,hm⟩:=chkE hm
       obtain ⟨ho114,hm⟩:=chkE hm
       obtain ⟨y115,hy115,hm⟩:=bindE hm
       refine s_draw [(vG [vS (gi data x112).Long.Name,.slice (g_data.s (x112).toNat 0).a (((gi data x112).Long.Value).length) (g_data.s (x112).toNat 0).c,vS (gi data x112).Long.Whole,vB ((gi data x112).Important),vU ((gi data x112).Origin),vB ((gi data x112).Attached),vI ((gi data x112).Layer),vI ((gi data x112).Weight.e0),vI ((gi data x112).Weight.e1),vI ((gi data x112).Weight.e2),vI ((gi data x112).Order)]),(vG [vS (gi data (w64 x109)).Long.Name,.slice (g_data.s ((w64 x109)).toNat 0).a (((gi data (w64 x109)).Long.Value).length) (g_data.s ((w64 x109)).toNat 0).c,vS (gi data (w64 x109)).Long.Whole,vB ((gi data (w64 x109)).Important),vU ((gi data (w64 x109)).Origin),vB ((gi data (w64 x109)).Attached),vI ((gi data (w64 x109)).Layer),vI ((gi data (w64 x109)).Weight.e0),vI ((gi data (w64 x109)).Weight.e1),vI ((gi data (w64 x109)).Weight.e2),vI ((gi data (w64 x109)).Order)]),(vI y115)] [0,1,2,3,4,18,19,20,21,22,23,171] (fS [0,1,2,3,4,18,19,20,21,22,23,171] [vL g_data data,vI a_,vI m_,vI b_,.func (.func 40) ⟨[]⟩ ⟨[]⟩,vI x83,vI (w64 (x83 + m_)),vI v105,vI v106,vI (w64 ((w64 (x83 + m_)) - 1)),vI (w64 x109),vB (!(decide (y115 < 0)))]) [fun _ => oka g_data.a ∧ 0 ≤ x112 ∧ x112 < ln data,fun wz => V.atN (ab g_data.a) (ao g_data.a + (x112).toNat * 11) [vS (gi data x112).Long.Name,.slice (g_data.s (x112).toNat 0).a (((gi data x112).Long.Value).length) (g_data.s (x112).toNat 0).c,vS (gi data x112).Long.Whole,vB ((gi data x112).Important),vU ((gi data x112).Origin),vB ((gi data x112).Attached),vI ((gi data x112).Layer),vI ((gi data x112).Weight.e0),vI ((gi data x112).Weight.e1),vI ((gi data x112).Weight.e2),vI ((gi data x112).Order)] 0 wz,fun _ => oka g_data.a ∧ 0 ≤ (w64 x109) ∧ (w64 x109) < ln data,fun wz => V.atN (ab g_data.a) (ao g_data.a + ((w64 x109)).toNat * 11) [vS (gi data (w64 x109)).Long.Name,.slice (g_data.s ((w64 x109)).toNat 0).a (((gi data (w64 x109)).Long.Value).length) (g_data.s ((w64 x109)).toNat 0).c,vS (gi data (w64 x109)).Long.Whole,vB ((gi data (w64 x109)).Important),vU ((gi data (w64 x109)).Origin),vB ((gi data (w64 x109)).Attached),vI ((gi data (w64 x109)).Layer),vI ((gi data (w64 x109)).Weight.e0),vI ((gi data (w64 x109)).Weight.e1),vI ((gi data (w64 x109)).Weight.e2),vI ((gi data (w64 x109)).Order)] 0 wz,rB 40 [vG [vS (gi data x112).Long.Name,.slice (g_data.s (x112).toNat 0).a (((gi data x112).Long.Value).length) (g_data.s (x112).toNat 0).c,vS (gi data x112).Long.Whole,vB ((gi data x112).Important),vU ((gi data x112).Origin),vB ((gi data x112).Attached),vI ((gi data x112).Layer),vI ((gi data x112).Weight.e0),vI ((gi data x112).Weight.e1),vI ((gi data x112).Weight.e2),vI ((gi data x112).Order)],vG [vS (gi data (w64 x109)).Long.Name,.slice (g_data.s ((w64 x109)).toNat 0).a (((gi data (w64 x109)).Long.Value).length) (g_data.s ((w64 x109)).toNat 0).c,vS (gi data (w64 x109)).Long.Whole,vB ((gi data (w64 x109)).Important),vU ((gi data (w64 x109)).Origin),vB ((gi data (w64 x109)).Attached),vI ((gi data (w64 x109)).Layer),vI ((gi data (w64 x109)).Weight.e0),vI ((gi data (w64 x109)).Weight.e1),vI ((gi data (w64 x109)).Weight.e2),vI ((gi data (w64 x109)).Order)]] (vI y115)] H111 (by kernel_rfl) (by kernel_rfl) (by subst hx112; kernel_rfl) ⟨((hS.im 0 rfl).oki ho113),((hS.im 0 rfl).atA ho113 0 rfl),((hS.im 0 rfl).oki ho114),((hS.im 0 rfl).atA ho114 0 rfl),(sorter_compare_ok (g_a__0:=(g_data.s (x112).toNat 0)) (g_b__0:=(g_data.s ((w64 x109)).toNat 0)) m _ _ _ hy115 _ (s0im (s0im s0nil (tyDeclared_i0 ((hS.im 0 rfl).el ho114))) (tyDeclared_i0 ((hS.im 0 rfl).el ho113)))),trivial⟩ fun _ _ H117 hb => ?_
       replace hS:=hS.below hb
       refine w_if H117 rfl (fun hc => ?_) (fun hc => ?c122)
       case c122 =>
        replace hm:=bF hc hm
        refine w_reg [] [0,1,2,3,4,18,19,20,21,22] (fS [0,1,2,3,4,18,19,20,21,22] [vL g_data data,vI a_,vI m_,vI b_,.func (.func 40) ⟨[]⟩ ⟨[]⟩,vI x83,vI (w64 (x83 + m_)),vI v105,vI (w64 x109),vI (w64 ((w64 (x83 + m_)) - 1))]) [] H117 (by kernel_rfl) trivial fun _ _ H121 hb => ?_
        replace hS:=hS.below hb
        exact ⟨_,Nat.lt_succ_self _,v105,w64 x109,hm,FrG.keep (ks:=[0,1,2,3,4,18,19,22,20,21]) H121 (by kernel_rfl),hS⟩
       replace hm:=bT hc hm
       refine w_reg [] [0,1,2,3,4,18,19,20,21,22] (fS [0,1,2,3,4,18,19,20,21,22] [vL g_data data,vI a_,vI m_,vI b_,.func (.func 40) ⟨[]⟩ ⟨[]⟩,vI x83,vI (w64 (x83 + m_)),vI (w64 ((w64 x109) + 1)),vI v106,vI (w64 ((w64 (x83 + m_)) - 1))]) [] H117 (by kernel_rfl) trivial fun _ _ H119 hb => ?_
       replace hS:=hS.below hb
       exact ⟨_,Nat.lt_succ_self _,w64 ((w64 x109) + 1),v106,hm,FrG.keep (ks:=[0,1,2,3,4,18,19,22,20,21]) H119 (by kernel_rfl),hS⟩
     ·rintro _ _ ⟨H,hS⟩
      refine s_reg [] [0,1,2,3,4,18,20,24] (fS [0,1,2,3,4,18,20,24] [vL g_data data,vI a_,vI m_,vI b_,.func (.func 40) ⟨[]⟩ ⟨[]⟩,vI x83,vI z104,vI (w64 ((w64 (x83 + m_)) - z104))]) [] H (by kernel_rfl) trivial fun _ _ H126 hb => ?_
      replace hS:=hS.below hb
      obtain ⟨z127,hz,hm⟩:=bindE hm
      refine w_cut (fun a' w' => Fr 220 (fS [0,1,3,4,18,20,24] [vL g_data data,vI a_,vI b_,.func (.func 40) ⟨[]⟩ ⟨[]⟩,vI x83,vI z104,vI (w64 ((w64 (x83 + m_)) - z104))]) a' ∧ SH M X w [eI tyDeclared data g_data] w') ?_ ?_
      ·replace hm:=hz
       obtain ⟨x128,hx128,hm⟩:=letE hm
       refine s_reg [] [0,1,2,3,4,18,20,24,185] (fS [0,1,2,3,4,18,20,24,185] [vL g_data data,vI a_,vI m_,vI b_,.func (.func 40) ⟨[]⟩ ⟨[]⟩,vI x83,vI z104,vI (w64 ((w64 (x83 + m_)) - z104)),vB x128]) [] H126 (by subst hx128; kernel_rfl) trivial fun _ _ H130 hb => ?_
       replace hS:=hS.below hb
       refine w_if H130 rfl (fun hc => ?_) (fun hc => ?c134)
       case c134 =>
        replace hm:=bF hc hm
        apply w_skip
        obtain rfl:=someE hm
        exact ⟨FrG.keep (ks:=[0,1,3,4,18,20,24]) H130 (by kernel_rfl),hS⟩
       replace hm:=bT hc hm
       obtain ⟨y131,hy131,hm⟩:=bindE hm
       refine w_reg [(vW [])] [0,1,3,4,18,20,24] (fS [0,1,3,4,18,20,24] [vL g_data data,vI a_,vI b_,.func (.func 40) ⟨[]⟩ ⟨[]⟩,vI x83,vI z104,vI (w64 ((w64 (x83 + m_)) - z104))]) [rB 91 [vL g_data data,vI z104,vI m_,vI (w64 ((w64 (x83 + m_)) - z104)),.func (.func 40) ⟨[]⟩ ⟨[]⟩] (vW [])] H130 (by kernel_rfl) ⟨(slices_rotateCmpFunc_api_Declared_ok (g_data:=g_data) m _ _ _ _ _ hy131 _ (s0im s0nil (hS.im 0 rfl))),trivial⟩ fun _ _ H133 hb => ?_
       replace hS:=hS.below hb
       obtain rfl:=someE hm
       exact ⟨FrG.keep (ks:=[0,1,3,4,18,20,24]) H133 (by kernel_rfl),hS⟩
      ·rintro _ _ ⟨H,hS⟩
       obtain ⟨z135,hz,hm⟩:=bindE hm
       refine w_cut (fun a' w' => Fr 220 (fS [0,3,4,18,24] [vL g_data data,vI b_,.func (.func 40) ⟨[]⟩ ⟨[]⟩,vI x83,vI (w64 ((w64 (x83 + m_)) - z104))]) a' ∧ SH M X w [eI tyDeclared data g_data] w') ?_ ?_
       ·replace hm:=hz
        obtain ⟨x136,hx136,hm⟩:=letE hm
        refine s_reg [] [0,1,3,4,18,20,24,199] (fS [0,1,3,4,18,20,24,199] [vL g_data data,vI a_,vI b_,.func (.func 40) ⟨[]⟩ ⟨[]⟩,vI x83,vI z104,vI (w64 ((w64 (x83 + m_)) - z104)),vB x136]) [] H (by subst hx136; kernel_rfl) trivial fun _ _ H138 hb => ?_
        replace hS:=hS.below hb
        refine w_if H138 rfl (fun hc => ?_) (fun hc => ?c142)
        case c142 =>
         replace hm:=bF hc hm
         apply w_skip
         obtain rfl:=someE hm
         exact ⟨FrG.keep (ks:=[0,3,4,18,24]) H138 (by kernel_rfl),hS⟩
        replace hm:=bT hc hm
        obtain ⟨y139,hy139,hm⟩:=bindE hm
        refine w_reg [(vW [])] [0,3,4,18,24] (fS [0,3,4,18,24] [vL g_data data,vI b_,.func (.func 40) ⟨[]⟩ ⟨[]⟩,vI x83,vI (w64 ((w64 (x83 + m_)) - z104))]) [rB 79 [vL g_data data,vI a_,vI z104,vI x83,.func (.func 40) ⟨[]⟩ ⟨[]⟩] (vW [])] H138 (by kernel_rfl) ⟨(retB_of (s0im s0nil (hS.im 0 rfl)) (Tryz.call79 _) (fun w' h' => ih (g_data) F0 _ _ _ _ _ hy139 w' h')),trivial⟩ fun _ _ H141 hb => ?_
        replace hS:=hS.below hb
        obtain rfl:=someE hm
        exact ⟨FrG.keep (ks:=[0,3,4,18,24]) H141 (by kernel_rfl),hS⟩
       ·rintro _ _ ⟨H,hS⟩
        obtain ⟨x143,hx143,hm⟩:=letE hm
        obtain ⟨x144,hx144,hm⟩:=letE hm
        refine s_reg [] [0,3,4,18,24,213] (fS [0,3,4,18,24,213] [vL g_data data,vI b_,.func (.func 40) ⟨[]⟩ ⟨[]⟩,vI x83,vI (w64 ((w64 (x83 + m_)) - z104)),vB x144]) [] H (by subst hx143 hx144; kernel_rfl) trivial fun _ _ H146 hb => ?_
        replace hS:=hS.below hb
        refine w_if H146 rfl (fun hc => ?_) (fun hc => ?c150)
        case c150 =>
         replace hm:=bF hc hm
         apply w_skip
         obtain rfl:=someE hm
         try dsimp only
         exact retR0 H146 rfl ⟨_,rfl,rfl,(hS.sel [] rfl)⟩
        replace hm:=bT hc hm
        obtain ⟨y147,hy147,hm⟩:=bindE hm
        refine w_reg [(vW [])] [] [] [rB 79 [vL g_data data,vI x83,vI (w64 ((w64 (x83 + m_)) - z104)),vI b_,.func (.func 40) ⟨[]⟩ ⟨[]⟩] (vW [])] H146 (by kernel_rfl) ⟨(retB_of (s0im s0nil (hS.im 0 rfl)) (Tryz.call79 _) (fun w' h' => ih (g_data) F0 _ _ _ _ _ hy147 w' h')),trivial⟩ fun _ _ H149 hb => ?_
        replace hS:=hS.below hb
        replace hS : SH M X w [] _:=hS.sel [] rfl
        obtain rfl:=someE hm
        try dsimp only
        exact retR0 H149 rfl ⟨_,rfl,rfl,(hS.sel [] rfl)⟩
theorem slices_symMergeCmpFunc_api_Declared_ok {g_data : Gh} (m : Nat) (data : List TDeclared) (a_ : Int) (m_ : Int) (b_ : Int) (r : Unit) (hm : slices_symMergeCmpFunc_api_Declared m data a_ m_ b_ = some r) (w : World) (hL : S0 F0 [eI tyDeclared data g_data] w ∧ fpl [eI tyDeclared data g_data] = []) : RetB Tryz.prog 79 ⟨[vL g_data data,vI a_,vI m_,vI b_,.func (.func 40) ⟨[]⟩ ⟨[]⟩]⟩ (vW []) w:=retB_of hL (Tryz.call79 _) (fun w' h => slices_symMergeCmpFunc_api_Declared_w m   m g_data F0 data a_ m_ b_ r hm w' h)

theorem slices_stableCmpFunc_api_Declared_w {g_data : Gh} (M : Av) (m : Nat) (data : List TDeclared) (n_ : Int) (r : Unit) (hm : slices_stableCmpFunc_api_Declared m data n_ = some r) (w : World) (hS : S0 M [eI tyDeclared data g_data] w) : Calls Tryz.prog 61 ⟨[vL g_data data,vI n_,.func (.func 40) ⟨[]⟩ ⟨[]⟩]⟩ w (fun e w' => ∃ v,e = .returned v ∧ v = vW [] ∧ SH M (fpl [eI tyDeclared data g_data]) w [] w'):=by
 rw [slices_stableCmpFunc_api_Declared] at hm
 have hS0 : SH M (fpl [eI tyDeclared data g_data]) w [eI tyDeclared data g_data] w:=hS
 generalize hX : fpl [eI tyDeclared data g_data] = X at hS0 ⊢
 clear hS hX
 have hS:=hS0
 clear hS0
 refine calls_entryP Tryz.func61 rfl Tryz.ntmps61 rfl fun _ H => ?_
 refine s_reg [] [0,1,2,6] (fS [0,1,2,6] [vL g_data data,vI n_,.func (.func 40) ⟨[]⟩ ⟨[]⟩,vI 20]) [] H (by kernel_rfl) trivial fun _ _ H2 hb => ?_
 replace hS:=hS.below hb
 refine s_reg [] [0,1,2,6,7,8] (fS [0,1,2,6,7,8] [vL g_data data,vI n_,.func (.func 40) ⟨[]⟩ ⟨[]⟩,vI 20,vI 0,vI 20]) [] H2 (by kernel_rfl) trivial fun _ _ H4 hb => ?_
 replace hS:=hS.below hb
 obtain ⟨z5,hz,hm⟩:=bindE hm
 refine w_cut (fun a' w' => Fr 63 (fS [0,1,2,6,7] [vL g_data data,vI n_,.func (.func 40) ⟨[]⟩ ⟨[]⟩,vI 20,vI z5]) a' ∧ SH M X w [eI tyDeclared data g_data] w') ?_ ?_
 ·replace hm:=hz
  apply w_block
  refine w_loop (fun kk a' w' => ∃ (v6 : Int) (v7 : Int),slices_stableCmpFunc_api_Declared_L1 m data n_ kk v6 v7 = some _ ∧ Fr 63 (fS [0,1,2,6,7,8] [vL g_data data,vI n_,.func (.func 40) ⟨[]⟩ ⟨[]⟩,vI 20,vI v6,vI v7]) a' ∧ SH M X w [eI tyDeclared data g_data] w') ⟨_,0,20,hm,FrG.keep (ks:=[0,1,2,6,7,8]) H4 (by kernel_rfl),hS⟩ ?_
  clear hm H4 hS
  rintro kk _ _ ⟨v6,v7,hm,H,hS⟩
  cases kk with
  | zero => exact noneE hm
  | succ kk =>
   rw [slices_stableCmpFunc_api_Declared_L1] at hm
   apply w_seq
   refine s_reg [] [0,1,2,6,7,8,13] (fS [0,1,2,6,7,8,13] [vL g_data data,vI n_,.func (.func 40) ⟨[]⟩ ⟨[]⟩,vI 20,vI v6,vI v7,vB (decide (v7 ≤ n_))]) [] H (by kernel_rfl) trivial fun _ _ H9 hb => ?_
   replace hS:=hS.below hb
   refine w_if H9 rfl (fun hc => ?_) (fun hc => ?c17)
   case c17 =>
    replace hm:=bF hc hm
    apply w_exit rfl
    obtain rfl:=someE hm
    exact ⟨FrG.keep (ks:=[0,1,2,6,7]) H9 (by kernel_rfl),hS⟩
   replace hm:=bT hc hm
   apply w_skip
   apply w_block
   obtain ⟨y10,hy10,hm⟩:=bindE hm
   refine s_reg [(vW [])] [0,1,2,6,8] (fS [0,1,2,6,8] [vL g_data data,vI n_,.func (.func 40) ⟨[]⟩ ⟨[]⟩,vI 20,vI v7]) [rB 78 [vL g_data data,vI v6,vI v7,.func (.func 40) ⟨[]⟩ ⟨[]⟩] (vW [])] H9 (by kernel_rfl) ⟨(slices_insertionSortCmpFunc_api_Declared_ok (g_data:=g_data) m _ _ _ _ hy10 _ (s0im s0nil (hS.im 0 rfl))),trivial⟩ fun _ _ H12 hb => ?_
   replace hS:=hS.below hb
   refine s_reg [] [0,1,2,6,7,8] (fS [0,1,2,6,7,8] [vL g_data data,vI n_,.func (.func 40) ⟨[]⟩ ⟨[]⟩,vI 20,vI v7,vI v7]) [] H12 (by kernel_rfl) trivial fun _ _ H14 hb => ?_
   replace hS:=hS.below hb
   refine w_reg [] [0,1,2,6,7,8] (fS [0,1,2,6,7,8] [vL g_data data,vI n_,.func (.func 40) ⟨[]⟩ ⟨[]⟩,vI 20,vI v7,vI (w64 (v7 + 20))]) [] H14 (by kernel_rfl) trivial fun _ _ H16 hb => ?_
   replace hS:=hS.below hb
   exact ⟨_,Nat.lt_succ_self _,v7,w64 (v7 + 20),hm,FrG.keep (ks:=[0,1,2,6,7,8]) H16 (by kernel_rfl),hS⟩
 ·rintro _ _ ⟨H,hS⟩
  obtain ⟨y19,hy19,hm⟩:=bindE hm
  refine s_reg [(vW [])] [0,1,2,6] (fS [0,1,2,6] [vL g_data data,vI n_,.func (.func 40) ⟨[]⟩ ⟨[]⟩,vI 20]) [rB 78 [vL g_data data,vI z5,vI n_,.func (.func 40) ⟨[]⟩ ⟨[]⟩] (vW [])] H (by kernel_rfl) ⟨(slices_insertionSortCmpFunc_api_Declared_ok (g_data:=g_data) m _ _ _ _ hy19 _ (s0im s0nil (hS.im 0 rfl))),trivial⟩ fun _ _ H21 hb => ?_
  replace hS:=hS.below hb
  apply w_block
  refine w_loop (fun kk a' w' => ∃ (v22 : Int),slices_stableCmpFunc_api_Declared_L2 m data n_ kk v22 = some _ ∧ Fr 63 (fS [0,1,2,6] [vL g_data data,vI n_,.func (.func 40) ⟨[]⟩ ⟨[]⟩,vI v22]) a' ∧ SH M X w [eI tyDeclared data g_data] w') ⟨_,20,hm,FrG.keep (ks:=[0,1,2,6]) H21 (by kernel_rfl),hS⟩ ?_
  clear hm H21 hS
  rintro kk _ _ ⟨v22,hm,H,hS⟩
  cases kk with
  | zero => exact noneE hm
  | succ kk =>
   rw [slices_stableCmpFunc_api_Declared_L2] at hm
   apply w_seq
   refine s_reg [] [0,1,2,6,30] (fS [0,1,2,6,30] [vL g_data data,vI n_,.func (.func 40) ⟨[]⟩ ⟨[]⟩,vI v22,vB (decide (v22 < n_))]) [] H (by kernel_rfl) trivial fun _ _ H24 hb => ?_
   replace hS:=hS.below hb
   refine w_if H24 rfl (fun hc => ?_) (fun hc => ?c54)
   case c54 =>
    replace hm:=bF hc hm
    apply w_exit rfl
    obtain rfl:=someE hm
    try dsimp only
    exact retR0 H24 rfl ⟨_,rfl,rfl,(hS.sel [] rfl)⟩
   replace hm:=bT hc hm
   apply w_skip
   apply w_block
   refine s_reg [] [0,1,2,6,7,8] (fS [0,1,2,6,7,8] [vL g_data data,vI n_,.func (.func 40) ⟨[]⟩ ⟨[]⟩,vI v22,vI 0,vI (w64 (2 * v22))]) [] H24 (by kernel_rfl) trivial fun _ _ H26 hb => ?_
   replace hS:=hS.below hb
   obtain ⟨z27,hz,hm⟩:=bindE hm
   refine w_cut (fun a' w' => Fr 63 (fS [0,1,2,6,7] [vL g_data data,vI n_,.func (.func 40) ⟨[]⟩ ⟨[]⟩,vI v22,vI z27]) a' ∧ SH M X w [eI tyDeclared data g_data] w') ?_ ?_
   ·replace hm:=hz
    apply w_block
    refine w_loop (fun kk a' w' => ∃ (v28 : Int) (v29 : Int),slices_stableCmpFunc_api_Declared_L3 m data n_ v22 kk v28 v29 = some _ ∧ Fr 63 (fS [0,1,2,6,7,8] [vL g_data data,vI n_,.func (.func 40) ⟨[]⟩ ⟨[]⟩,vI v22,vI v28,vI v29]) a' ∧ SH M X w [eI tyDeclared data g_data] w') ⟨_,0,w64 (2 * v22),hm,FrG.keep (ks:=[0,1,2,6,7,8]) H26 (by kernel_rfl),hS⟩ ?_
    clear hm H26 hS
    rintro kk _ _ ⟨v28,v29,hm,H,hS⟩
    cases kk with
    | zero => exact noneE hm
    | succ kk =>
     rw [slices_stableCmpFunc_api_Declared_L3] at hm
     apply w_seq
     refine s_reg [] [0,1,2,6,7,8,35] (fS [0,1,2,6,7,8,35] [vL g_data data,vI n_,.func (.func 40) ⟨[]⟩ ⟨[]⟩,vI v22,vI v28,vI v29,vB (decide (v29 ≤ n_))]) [] H (by kernel_rfl) trivial fun _ _ H31 hb => ?_
     replace hS:=hS.below hb
     refine w_if H31 rfl (fun hc => ?_) (fun hc => ?c39)
     case c39 =>
      replace hm:=bF hc hm
      apply w_exit rfl
      obtain rfl:=someE hm
      exact ⟨FrG.keep (ks:=[0,1,2,6,7]) H31 (by kernel_rfl),hS⟩
     replace hm:=bT hc hm
     apply w_skip
     apply w_block
     obtain ⟨y32,hy32,hm⟩:=bindE hm
     refine s_reg [(vW [])] [0,1,2,6,8] (fS [0,1,2,6,8] [vL g_data data,vI n_,.func (.func 40) ⟨[]⟩ ⟨[]⟩,vI v22,vI v29]) [rB 79 [vL g_data data,vI v28,vI (w64 (v28 + v22)),vI v29,.func (.func 40) ⟨[]⟩ ⟨[]⟩] (vW [])] H31 (by kernel_rfl) ⟨(slices_symMergeCmpFunc_api_Declared_ok (g_data:=g_data) m _ _ _ _ _ hy32 _ (s0im s0nil (hS.im 0 rfl))),trivial⟩ fun _ _ H34 hb => ?_
     replace hS:=hS.below hb
     refine s_reg [] [0,1,2,6,7,8] (fS [0,1,2,6,7,8] [vL g_data data,vI n_,.func (.func 40) ⟨[]⟩ ⟨[]⟩,vI v22,vI v29,vI v29]) [] H34 (by kernel_rfl) trivial fun _ _ H36 hb => ?_
     replace hS:=hS.below hb
     refine w_reg [] [0,1,2,6,7,8] (fS [0,1,2,6,7,8] [vL g_data data,vI n_,.func (.func 40) ⟨[]⟩ ⟨[]⟩,vI v22,vI v29,vI (w64 (v29 + (w64 (2 * v22))))]) [] H36 (by kernel_rfl) trivial fun _ _ H38 hb => ?_
     replace hS:=hS.below hb
     exact ⟨_,Nat.lt_succ_self _,v29,w64 (v29 + (w64 (2 * v22))),hm,FrG.keep (ks:=[0,1,2,6,7,8]) H38 (by kernel_rfl),hS⟩
   ·rintro _ _ ⟨H,hS⟩
    obtain ⟨z41,hz,hm⟩:=bindE hm
    refine w_cut (fun a' w' => Fr 63 (fS [0,1,2,6] [vL g_data data,vI n_,.func (.func 40) ⟨[]⟩ ⟨[]⟩,vI v22]) a' ∧ SH M X w [eI tyDeclared data g_data] w') ?_ ?_
    ·replace hm:=hz
     refine s_reg [] [0,1,2,6,7,9] (fS [0,1,2,6,7,9] [vL g_data data,vI n_,.func (.func 40) ⟨[]⟩ ⟨[]⟩,vI v22,vI z27,vI (w64 (z27 + v22))]) [] H (by kernel_rfl) trivial fun _ _ H43 hb => ?_
     replace hS:=hS.below hb
     refine s_reg [] [0,1,2,6,7,9,54] (fS [0,1,2,6,7,9,54] [vL g_data data,vI n_,.func (.func 40) ⟨[]⟩ ⟨[]⟩,vI v22,vI z27,vI (w64 (z27 + v22)),vB (decide ((w64 (z27 + v22)) < n_))]) [] H43 (by kernel_rfl) trivial fun _ _ H45 hb => ?_
     replace hS:=hS.below hb
     refine w_if H45 rfl (fun hc => ?_) (fun hc => ?c49)
     case c49 =>
      replace hm:=bF hc hm
      apply w_skip
      obtain rfl:=someE hm
      exact ⟨FrG.keep (ks:=[0,1,2,6]) H45 (by kernel_rfl),hS⟩
     replace hm:=bT hc hm
     obtain ⟨y46,hy46,hm⟩:=bindE hm
     refine w_reg [(vW [])] [0,1,2,6] (fS [0,1,2,6] [vL g_data data,vI n_,.func (.func 40) ⟨[]⟩ ⟨[]⟩,vI v22]) [rB 79 [vL g_data data,vI z27,vI (w64 (z27 + v22)),vI n_,.func (.func 40) ⟨[]⟩ ⟨[]⟩] (vW [])] H45 (by kernel_rfl) ⟨(slices_symMergeCmpFunc_api_Declared_ok (g_data:=g_data) m _ _ _ _ _ hy46 _ (s0im s0nil (hS.im 0 rfl))),trivial⟩ fun _ _ H48 hb => ?_
     replace hS:=hS.below hb
     obtain rfl:=someE hm
     exact ⟨FrG.keep (ks:=[0,1,2,6]) H48 (by kernel_rfl),hS⟩
    ·rintro _ _ ⟨H,hS⟩
     refine w_reg [] [0,1,2,6] (fS [0,1,2,6] [vL g_data data,vI n_,.func (.func 40) ⟨[]⟩ ⟨[]⟩,vI (w64 (v22 * 2))]) [] H (by kernel_rfl) trivial fun _ _ H51 hb => ?_
     replace hS:=hS.below hb
     exact ⟨_,Nat.lt_succ_self _,w64 (v22 * 2),hm,FrG.keep (ks:=[0,1,2,6]) H51 (by kernel_rfl),hS⟩
theorem slices_stableCmpFunc_api_Declared_ok {g_data : Gh} (m : Nat) (data : List TDeclared) (n_ : Int) (r : Unit) (hm : slices_stableCmpFunc_api_Declared m data n_ = some r) (w : World) (hL : S0 F0 [eI tyDeclared data g_data] w ∧ fpl [eI tyDeclared data g_data] = []) : RetB Tryz.prog 61 ⟨[vL g_data data,vI n_,.func (.func 40) ⟨[]⟩ ⟨[]⟩]⟩ (vW []) w:=retB_of hL (Tryz.call61 _) (fun w' h => slices_stableCmpFunc_api_Declared_w F0 m   data n_ r hm w' h)

theorem slices_SortStableFunc_api_Declared_api_Declared_w {g_x_ : Gh} (M : Av) (m : Nat) (x_ : List TDeclared) (r : Unit) (hm : slices_SortStableFunc_api_Declared_api_Declared m x_ = some r) (w : World) (hS : S0 M [eI tyDeclared x_ g_x_] w) : Calls Tryz.prog 39 ⟨[vL g_x_ x_,.func (.func 40) ⟨[]⟩ ⟨[]⟩]⟩ w (fun e w' => ∃ v,e = .returned v ∧ v = vW [] ∧ SH M (fpl [eI tyDeclared x_ g_x_]) w [] w'):=by
 rw [slices_SortStableFunc_api_Declared_api_Declared] at hm
 have hS0 : SH M (fpl [eI tyDeclared x_ g_x_]) w [eI tyDeclared x_ g_x_] w:=hS
 generalize hX : fpl [eI tyDeclared x_ g_x_] = X at hS0 ⊢
 clear hS hX
 have hS:=hS0
 clear hS0
 refine calls_entryP Tryz.func39 rfl Tryz.ntmps39 rfl fun _ H => ?_
 obtain ⟨y1,hy1,hm⟩:=bindE hm
 refine w_reg [(vW [])] [] [] [rB 61 [vL g_x_ x_,vI (ln x_),.func (.func 40) ⟨[]⟩ ⟨[]⟩] (vW [])] H (by kernel_rfl) ⟨(slices_stableCmpFunc_api_Declared_ok (g_data:=g_x_) m _ _ _ hy1 _ (s0im s0nil (hS.im 0 rfl))),trivial⟩ fun _ _ H3 hb => ?_
 replace hS:=hS.below hb
 replace hS : SH M X w [] _:=hS.sel [] rfl
 obtain rfl:=someE hm
 try dsimp only
 exact retR0 H3 rfl ⟨_,rfl,rfl,(hS.sel [] rfl)⟩
theorem slices_SortStableFunc_api_Declared_api_Declared_ok {g_x_ : Gh} (m : Nat) (x_ : List TDeclared) (r : Unit) (hm : slices_SortStableFunc_api_Declared_api_Declared m x_ = some r) (w : World) (hL : S0 F0 [eI tyDeclared x_ g_x_] w ∧ fpl [eI tyDeclared x_ g_x_] = []) : RetB Tryz.prog 39 ⟨[vL g_x_ x_,.func (.func 40) ⟨[]⟩ ⟨[]⟩]⟩ (vW []) w:=retB_of hL (Tryz.call39 _) (fun w' h => slices_SortStableFunc_api_Declared_api_Declared_w F0 m   x_ r hm w' h)

theorem sorter_Sort_w {g_l_ : Gh} (M : Av) (m : Nat) (l_ : List TDeclared) (r : (List TDeclared) × Int) (hm : sorter_Sort m l_ = some r) (w : World) (hS : S0 M [eI tyDeclared l_ g_l_,gE0] w) : Calls Tryz.prog 17 ⟨[.slice g_l_.a l_.length g_l_.c]⟩ w (fun e w' => ∃ v,e = .returned v ∧ ∃ (g901 : Gh),v = vW [.slice g901.a r.1.length g901.c,vI r.2] ∧ SH M (fpl [eI tyDeclared l_ g_l_,gE0]) w [eO 35 tyDeclared r.1 g901] w'):=by
 rw [sorter_Sort] at hm
 have hS0 : SH M (fpl [eI tyDeclared l_ g_l_,gE0]) w [eI tyDeclared l_ g_l_,gE0] w:=hS
 generalize hX : fpl [eI tyDeclared l_ g_l_,gE0] = X at hS0 ⊢
 clear hS hX
 have hS:=hS0
 clear hS0
 refine calls_entryP Tryz.func17 rfl Tryz.ntmps17 rfl fun _ H => ?_
 refine s_reg [] [0] [(0,[],.slice g_l_.a l_.length g_l_.c)] [] H (by kernel_rfl) trivial fun _ _ H2 hb => ?_
 replace hS:=hS.below hb
 apply w_seq
 obtain ⟨y3,hy3,hm⟩:=bindE hm
 refine s_reg [(vI y3)] [0,4] (fS [0,4] [.slice g_l_.a l_.length g_l_.c,vI y3]) [rB 36 [.slice g_l_.a l_.length g_l_.c] (vI y3)] H2 (by kernel_rfl) ⟨(sorter_check_ok (g_l_:=g_l_) m _ _ hy3 _ (s0im (s0im s0nil (hS.im 1 rfl)) (hS.im 0 rfl))),trivial⟩ fun _ _ H5 hb => ?_
 replace hS:=hS.below hb
 refine s_reg [] [0,4,10] (fS [0,4,10] [.slice g_l_.a l_.length g_l_.c,vI y3,vB (y3 != 0)]) [] H5 (by kernel_rfl) trivial fun _ _ H7 hb => ?_
 replace hS:=hS.below hb
 refine w_if H7 rfl (fun hc => ?c56) (fun hc => ?_)
 case c56 =>
  replace hm:=bT hc hm
  refine s_reg [] [2,3] (fS [2,3] [vO,vI y3]) [] H7 (by kernel_rfl) trivial fun _ _ H9 hb => ?_
  replace hS:=hS.below hb
  replace hS : SH M X w [gE0] _:=hS.sel [1] rfl
  apply w_ret
  obtain rfl:=someE hm
  replace hS : SH M X w [eO 35 tyDeclared ([] : List TDeclared) (.nil),gE0] _:=hS.addNil 35 tyDeclared
  exact retR2 H9 rfl rfl rfl ⟨_,rfl,Gh.nil,rfl,(hS.sel [0] rfl)⟩
 replace hm:=bF hc hm
 apply w_skip
 apply w_seq
 apply wl_start
 refine wl_batch 0 1 [] [12] [(12,[],.slice g_l_.a l_.length g_l_.c)] [] H7 (by decide) (by kernel_rfl) trivial fun _ _ H12 hb => ?_
 replace hS:=hS.below hb
 obtain ⟨y13,hy13,hm⟩:=bindE hm
 have hd:=hS.hand [0] [0,1] rfl rfl
 refine m_stp [13] [] H12 rfl rfl rfl rfl (o_callx H12 rfl rfl (slices_Clone_api_Declared_api_Declared_ok (g_s:=g_l_) _ _ hy13 _ _ hd)) (fun _ => rfl) fun _ _ v H17 hq => ?_
 obtain ⟨g14,rfl,hq⟩:=hq
 replace hS : SH M X w [eO 35 tyDeclared y13 g14,eI tyDeclared l_ g_l_,gE0] _:=hS.join [0] [0,1] rfl rfl hq
 refine wl_batch 2 3 [] [5] [(5,[],.slice g14.a y13.length g14.c)] [] H17 (by decide) (by kernel_rfl) trivial fun _ _ H19 hb => ?_
 replace hS:=hS.below hb
 apply wl_end rfl
 replace hS : SH M X w [eO 35 tyDeclared y13 g14,gE0] _:=hS.sel [0,2] rfl
 obtain ⟨z20,hz,hm⟩:=bindE hm
 refine w_cut (fun a' w' => ∃ (g49 : Gh),Fr 35 [(5,[],.slice g49.a z20.length g49.c)] a' ∧ SH M X w [eO 35 tyDeclared z20 g49,gE0] w') ?_ ?_
 ·replace hm:=hz
  refine s_reg [] [5,15,16] (fS [5,15,16] [.slice g14.a y13.length g14.c,vI (ln y13),vI 0]) [] H19 (by kernel_rfl) trivial fun _ _ H22 hb => ?_
  replace hS:=hS.below hb
  apply w_block
  refine w_loop (fun kk a' w' => ∃ (v23 : List TDeclared) (v25 : Int) (g24 : Gh),sorter_Sort_L1 m y13 kk v23 v25 = some _ ∧ Fr 35 (fS [15,5,16] [vI (ln y13),.slice g24.a v23.length g24.c,vI v25]) a' ∧ SH M X w [eO 35 tyDeclared v23 g24,gE0] w') ⟨_,y13,0,g14,hm,FrG.keep (ks:=[15,5,16]) H22 (by kernel_rfl),hS⟩ ?_
  clear hm H22 hS
  rintro kk _ _ ⟨v23,v25,g24,hm,H,hS⟩
  cases kk with
  | zero => exact noneE hm
  | succ kk =>
   rw [sorter_Sort_L1] at hm
   refine s_reg [] [5,15,16,17] (fS [5,15,16,17] [.slice g24.a v23.length g24.c,vI (ln y13),vI v25,vB (decide (v25 < (ln y13)))]) [] H (by kernel_rfl) trivial fun _ _ H27 hb => ?_
   replace hS:=hS.below hb
   apply w_seq
   refine w_if H27 rfl (fun hc => ?_) (fun hc => ?c47)
   case c47 =>
    replace hm:=bF hc hm
    apply w_exit rfl
    obtain rfl:=someE hm
    exact ⟨g24,FrG.keep (ks:=[5]) H27 (by kernel_rfl),hS⟩
   replace hm:=bT hc hm
   apply w_skip
   apply w_seq
   apply w_block
   refine s_reg [] [5,6,15,16] (fS [5,6,15,16] [.slice g24.a v23.length g24.c,vI v25,vI (ln y13),vI v25]) [] H27 (by kernel_rfl) trivial fun _ _ H29 hb => ?_
   replace hS:=hS.below hb
   apply wl_start
   obtain ⟨ho30,hm⟩:=chkE hm
   refine wl_batch 0 8 [(.slice (g24.s (v25).toNat 0).a (((gi v23 v25).Long.Value).length) (g24.s (v25).toNat 0).c)] [5,15,16,19,20,26] (fS [5,15,16,19,20,26] [.slice g24.a v23.length g24.c,vI (ln y13),vI v25,.slice g24.a v23.length g24.c,vI v25,.slice (g24.s (v25).toNat 0).a (((gi v23 v25).Long.Value).length) (g24.s (v25).toNat 0).c]) [fun _ => oka g24.a ∧ 0 ≤ v25 ∧ v25 < ln v23,fun wz => V.at1 ⟨ab g24.a,ao g24.a + (v25).toNat * 11 + 1,none⟩ (.slice (g24.s (v25).toNat 0).a (((gi v23 v25).Long.Value).length) (g24.s (v25).toNat 0).c) wz] H29 (by decide) (by kernel_rfl) ⟨((hS.osl 0 rfl).oki ho30),((hS.osl 0 rfl).at1 ho30 1 rfl),trivial⟩ fun _ _ H32 hb => ?_
   replace hS:=hS.below hb
   replace hS : SH M X w [eI tyValue ((gi v23 v25).Long.Value) (g24.s (v25).toNat 0),eO 35 tyDeclared v23 g24,gE0] _:=hS.addIm (tyDeclared_i0 ((hS.ow 0 rfl).el ho30))
   obtain ⟨y34,hy34,hm⟩:=bindE hm
   have hd:=hS.hand [0] [0,1,2] rfl rfl
   refine m_stp [27,5,15,16,19,20] (fS [5,15,16,19,20] [.slice g24.a v23.length g24.c,vI (ln y13),vI v25,.slice g24.a v23.length g24.c,vI v25]) H32 rfl rfl rfl rfl (o_callx H32 rfl rfl (sorter_clone_ok (g_l_:=(g24.s (v25).toNat 0)) m _ _ hy34 _ _ hd)) (fun _ => rfl) fun _ _ v H38 hq => ?_
   obtain ⟨g35,rfl,hq⟩:=hq
   replace hS : SH M X w [eO 63 tyValue y34 g35,eI tyValue ((gi v23 v25).Long.Value) (g24.s (v25).toNat 0),eO 35 tyDeclared v23 g24,gE0] _:=hS.join [0] [0,1,2] rfl rfl hq
   refine wl_batch 9 12 [] [5,15,16,27,30] (fS [5,15,16,27,30] [.slice g24.a v23.length g24.c,vI (ln y13),vI v25,.slice g35.a y34.length g35.c,.pointer (some ⟨ab g24.a,ao g24.a + (v25).toNat * 11 + 1,none⟩)]) [fun _ => oka g24.a ∧ 0 ≤ v25 ∧ v25 < ln v23] H38 (by decide) (by kernel_rfl) ⟨((hS.osl 2 rfl).oki ho30),trivial⟩ fun _ _ H40 hb => ?_
   replace hS:=hS.below hb
   replace hS : SH M X w [eI tyValue y34 g35,eI tyValue ((gi v23 v25).Long.Value) (g24.s (v25).toNat 0),eO 35 tyDeclared v23 g24,gE0] _:=SH.frz1 (hS.sel [0,1,2,3] rfl)
   have hd:=hS.hand [2,0] [0,1,3] rfl rfl
   refine m_stp0 [5,15,16] (fS [5,15,16] [.slice g24.a v23.length g24.c,vI (ln y13),vI v25]) H40 rfl rfl rfl (o_estore (T:=tyDeclared) (g:=g24) (q:=v23) (ix:=v25) (off:=1) (TDeclared.mk (TLong.mk ((gi v23 v25).Long.Name) y34 ((gi v23 v25).Long.Whole)) ((gi v23 v25).Important) ((gi v23 v25).Origin) ((gi v23 v25).Attached) ((gi v23 v25).Layer) ((gi v23 v25).Weight) ((gi v23 v25).Order)) (gL [g35]) H40 hd rfl rfl rfl rfl (by kernel_rfl) rfl rfl ho30 rfl (tyDeclared_mk (hd.im 1 rfl)) rfl) rfl fun _ _ H42 hq => ?_
   obtain ⟨_,hq⟩:=hq
   obtain ⟨s43,hq⟩:=hq
   obtain ⟨q44,hq44,hm⟩:=letE hm
   rw [← hq44] at hq
   have hn : v23.length = q44.length:=by rw [hq44,setl_len]
   first | rw [hn] at H42 | skip
   first | rw [hn] at hS | skip
   clear hn
   replace hS : SH M X w [eO 35 tyDeclared q44 (Gh.mk g24.a g24.c s43),eI tyValue y34 g35,eI tyValue ((gi v23 v25).Long.Value) (g24.s (v25).toNat 0),gE0] _:=hS.join [2,0] [0,1,3] rfl rfl hq
   apply wl_end rfl
   replace hS : SH M X w [eO 35 tyDeclared q44 (Gh.mk g24.a g24.c s43),gE0] _:=hS.sel [0,3] rfl
   refine w_reg [] [5,15,16] (fS [5,15,16] [.slice (Gh.mk g24.a g24.c s43).a q44.length (Gh.mk g24.a g24.c s43).c,vI (ln y13),vI (w64 (v25 + 1))]) [] H42 (by kernel_rfl) trivial fun _ _ H46 hb => ?_
   replace hS:=hS.below hb
   exact ⟨_,Nat.lt_succ_self _,q44,w64 (v25 + 1),(Gh.mk g24.a g24.c s43),hm,FrG.keep (ks:=[15,5,16]) H46 (by kernel_rfl),hS⟩
 ·rintro _ _ ⟨g49,H,hS⟩
  obtain ⟨y50,hy50,hm⟩:=bindE hm
  refine s_reg [(vW [])] [5] [(5,[],.slice g49.a z20.length g49.c)] [rB 39 [.slice g49.a z20.length g49.c,.func (.func 40) ⟨[]⟩ ⟨[]⟩] (vW [])] H (by kernel_rfl) ⟨(slices_SortStableFunc_api_Declared_api_Declared_ok (g_x_:=g49) m _ _ hy50 _ (s0im s0nil (hS.osl 0 rfl))),trivial⟩ fun _ _ H52 hb => ?_
  replace hS:=hS.below hb
  refine s_reg [] [2,3] (fS [2,3] [.slice g49.a z20.length g49.c,vI 0]) [] H52 (by kernel_rfl) trivial fun _ _ H54 hb => ?_
  replace hS:=hS.below hb
  apply w_ret
  obtain rfl:=someE hm
  exact retR2 H54 rfl rfl rfl ⟨_,rfl,g49,rfl,(hS.sel [0] rfl)⟩
theorem sorter_Sort_ok {g_l_ : Gh} (m : Nat) (l_ : List TDeclared) (r : (List TDeclared) × Int) (hm : sorter_Sort m l_ = some r) (M : Av) (w : World) (hS : S0 M [eI tyDeclared l_ g_l_,gE0] w) : DoesX Tryz.prog 17 ⟨[vL g_l_ l_]⟩ w (fun v w' => ∃ (g901 : Gh),v = vW [vL g901 r.1,vI r.2] ∧ SH M (fpl [eI tyDeclared l_ g_l_,gE0]) w [eO 35 tyDeclared r.1 g901] w'):=⟨Tryz.call17 _,sorter_Sort_w M m   l_ r hm w hS⟩

theorem r29_Same_w {g_a_ : Gh} {g_b_ : Gh} (M : Av) (m : Nat) (a_ : List TDeclared) (b_ : List TDeclared) (r : Bool) (hm : r29_Same m a_ b_ = some r) (w : World) (hS : S0 M [eI tyDeclared a_ g_a_,eI tyDeclared b_ g_b_] w) : Calls Tryz.prog 18 ⟨[vL g_a_ a_,vL g_b_ b_]⟩ w (fun e w' => ∃ v,e = .returned v ∧ v = vB r ∧ SH M (fpl [eI tyDeclared a_ g_a_,eI tyDeclared b_ g_b_]) w [] w'):=by
 rw [r29_Same] at hm
 have hS0 : SH M (fpl [eI tyDeclared a_ g_a_,eI tyDeclared b_ g_b_]) w [eI tyDeclared a_ g_a_,eI tyDeclared b_ g_b_] w:=hS
 generalize hX : fpl [eI tyDeclared a_ g_a_,eI tyDeclared b_ g_b_] = X at hS0 ⊢
 clear hS hX
 have hS:=hS0
 clear hS0
 refine calls_entryP Tryz.func18 rfl Tryz.ntmps18 rfl fun _ H => ?_
 refine s_reg [] [0,1] (fS [0,1] [vL g_a_ a_,vL g_b_ b_]) [] H (by kernel_rfl) trivial fun _ _ H2 hb => ?_
 replace hS:=hS.below hb
 apply w_seq
 refine s_reg [] [0,1,10] (fS [0,1,10] [vL g_a_ a_,vL g_b_ b_,vB ((ln a_) != (ln b_))]) [] H2 (by kernel_rfl) trivial fun _ _ H4 hb => ?_
 replace hS:=hS.below hb
 refine w_if H4 rfl (fun hc => ?c28) (fun hc => ?_)
 case c28 =>
  replace hm:=bT hc hm
  refine s_reg [] [4] [(4,[],vF)] [] H4 (by kernel_rfl) trivial fun _ _ H6 hb => ?_
  replace hS:=hS.below hb
  replace hS : SH M X w [] _:=hS.sel [] rfl
  apply w_ret
  obtain rfl:=someE hm
  exact retR1 H6 rfl rfl ⟨_,rfl,rfl,(hS.sel [] rfl)⟩
 replace hm:=bF hc hm
 apply w_skip
 obtain ⟨z7,hz,hm_z7⟩:=bindE hm
 refine w_cut (fun a' w' => ∃ s_z7 : Unit,z7 = Sum.inr s_z7 ∧ Fr 27 [] a' ∧ SH M X w [eI tyDeclared a_ g_a_,eI tyDeclared b_ g_b_] w') ?_ ?_
 ·replace hm:=hz
  refine s_reg [] [0,1,5] (fS [0,1,5] [vL g_a_ a_,vL g_b_ b_,vI 0]) [] H4 (by kernel_rfl) trivial fun _ _ H9 hb => ?_
  replace hS:=hS.below hb
  apply w_block
  refine w_loop (fun kk a' w' => ∃ (v10 : Int),r29_Same_L1 m a_ b_ kk v10 = some _ ∧ Fr 27 (fS [0,1,5] [vL g_a_ a_,vL g_b_ b_,vI v10]) a' ∧ SH M X w [eI tyDeclared a_ g_a_,eI tyDeclared b_ g_b_] w') ⟨_,0,hm,FrG.keep (ks:=[0,1,5]) H9 (by kernel_rfl),hS⟩ ?_
  clear hm H9 hS
  rintro kk _ _ ⟨v10,hm,H,hS⟩
  cases kk with
  | zero => exact noneE hm
  | succ kk =>
   rw [r29_Same_L1] at hm
   apply w_seq
   refine s_reg [] [0,1,5,14] (fS [0,1,5,14] [vL g_a_ a_,vL g_b_ b_,vI v10,vB (decide (v10 < (ln a_)))]) [] H (by kernel_rfl) trivial fun _ _ H12 hb => ?_
   replace hS:=hS.below hb
   refine w_if H12 rfl (fun hc => ?_) (fun hc => ?c23)
   case c23 =>
    replace hm:=bF hc hm
    apply w_exit rfl
    obtain rfl:=someE hm
    exact ⟨_,rfl,FrG.keep (ks:=[]) H12 (by kernel_rfl),hS⟩
   replace hm:=bT hc hm
   apply w_skip
   apply w_seq
   apply w_block
   obtain ⟨ho13,hm⟩:=chkE hm
   obtain ⟨ho14,hm⟩:=chkE hm
   obtain ⟨y15,hy15,hm⟩:=bindE hm
   refine s_draw [(vG [vS (gi a_ v10).Long.Name,.slice (g_a_.s (v10).toNat 0).a (((gi a_ v10).Long.Value).length) (g_a_.s (v10).toNat 0).c,vS (gi a_ v10).Long.Whole,vB ((gi a_ v10).Important),vU ((gi a_ v10).Origin),vB ((gi a_ v10).Attached),vI ((gi a_ v10).Layer),vI ((gi a_ v10).Weight.e0),vI ((gi a_ v10).Weight.e1),vI ((gi a_ v10).Weight.e2),vI ((gi a_ v10).Order)]),(vG [vS (gi b_ v10).Long.Name,.slice (g_b_.s (v10).toNat 0).a (((gi b_ v10).Long.Value).length) (g_b_.s (v10).toNat 0).c,vS (gi b_ v10).Long.Whole,vB ((gi b_ v10).Important),vU ((gi b_ v10).Origin),vB ((gi b_ v10).Attached),vI ((gi b_ v10).Layer),vI ((gi b_ v10).Weight.e0),vI ((gi b_ v10).Weight.e1),vI ((gi b_ v10).Weight.e2),vI ((gi b_ v10).Order)]),(vB y15)] [0,1,5,26] (fS [0,1,5,26] [vL g_a_ a_,vL g_b_ b_,vI v10,vB (!y15)]) [fun _ => oka g_a_.a ∧ 0 ≤ v10 ∧ v10 < ln a_,fun wz => V.atN (ab g_a_.a) (ao g_a_.a + (v10).toNat * 11) [vS (gi a_ v10).Long.Name,.slice (g_a_.s (v10).toNat 0).a (((gi a_ v10).Long.Value).length) (g_a_.s (v10).toNat 0).c,vS (gi a_ v10).Long.Whole,vB ((gi a_ v10).Important),vU ((gi a_ v10).Origin),vB ((gi a_ v10).Attached),vI ((gi a_ v10).Layer),vI ((gi a_ v10).Weight.e0),vI ((gi a_ v10).Weight.e1),vI ((gi a_ v10).Weight.e2),vI ((gi a_ v10).Order)] 0 wz,fun _ => oka g_b_.a ∧ 0 ≤ v10 ∧ v10 < ln b_,fun wz => V.atN (ab g_b_.a) (ao g_b_.a + (v10).toNat * 11) [vS (gi b_ v10).Long.Name,.slice (g_b_.s (v10).toNat 0).a (((gi b_ v10).Long.Value).length) (g_b_.s (v10).toNat 0).c,vS (gi b_ v10).Long.Whole,vB ((gi b_ v10).Important),vU ((gi b_ v10).Origin),vB ((gi b_ v10).Attached),vI ((gi b_ v10).Layer),vI ((gi b_ v10).Weight.e0),vI ((gi b_ v10).Weight.e1),vI ((gi b_ v10).Weight.e2),vI ((gi b_ v10).Order)] 0 wz,rB 10 [vG [vS (gi a_ v10).Long.Name,.slice (g_a_.s (v10).toNat 0).a (((gi a_ v10).Long.Value).length) (g_a_.s (v10).toNat 0).c,vS (gi a_ v10).Long.Whole,vB ((gi a_ v10).Important),vU ((gi a_ v10).Origin),vB ((gi a_ v10).Attached),vI ((gi a_ v10).Layer),vI ((gi a_ v10).Weight.e0),vI ((gi a_ v10).Weight.e1),vI ((gi a_ v10).Weight.e2),vI ((gi a_ v10).Order)],vG [vS (gi b_ v10).Long.Name,.slice (g_b_.s (v10).toNat 0).a (((gi b_ v10).Long.Value).length) (g_b_.s (v10).toNat 0).c,vS (gi b_ v10).Long.Whole,vB ((gi b_ v10).Important),vU ((gi b_ v10).Origin),vB ((gi b_ v10).Attached),vI ((gi b_ v10).Layer),vI ((gi b_ v10).Weight.e0),vI ((gi b_ v10).Weight.e1),vI ((gi b_ v10).Weight.e2),vI ((gi b_ v10).Order)]] (vB y15)] H12 (by kernel_rfl) (by kernel_rfl) (by kernel_rfl) ⟨((hS.im 0 rfl).oki ho13),((hS.im 0 rfl).atA ho13 0 rfl),((hS.im 1 rfl).oki ho14),((hS.im 1 rfl).atA ho14 0 rfl),(r29_SameOne_ok (g_a__0:=(g_a_.s (v10).toNat 0)) (g_b__0:=(g_b_.s (v10).toNat 0)) m _ _ _ hy15 _ (s0im (s0im s0nil (tyDeclared_i0 ((hS.im 1 rfl).el ho14))) (tyDeclared_i0 ((hS.im 0 rfl).el ho13)))),trivial⟩ fun _ _ H17 hb => ?_
   replace hS:=hS.below hb
   refine w_if H17 rfl (fun hc => ?_) (fun hc => ?c22)
   case c22 =>
    replace hm:=bF hc hm
    apply w_skip
    refine w_reg [] [0,1,5] (fS [0,1,5] [vL g_a_ a_,vL g_b_ b_,vI (w64 (v10 + 1))]) [] H17 (by kernel_rfl) trivial fun _ _ H21 hb => ?_
    replace hS:=hS.below hb
    exact ⟨_,Nat.lt_succ_self _,w64 (v10 + 1),hm,FrG.keep (ks:=[0,1,5]) H21 (by kernel_rfl),hS⟩
   replace hm:=bT hc hm
   refine s_reg [] [4] [(4,[],vF)] [] H17 (by kernel_rfl) trivial fun _ _ H19 hb => ?_
   replace hS:=hS.below hb
   apply w_ret
   obtain rfl:=someE hm
   have hm:=hm_z7
   obtain rfl:=someE hm
   exact retR1 H19 rfl rfl ⟨_,rfl,rfl,(hS.sel [] rfl)⟩
 ·rintro _ _ ⟨s_z7,hz,H,hS⟩
  subst hz
  replace hm:=sumR hm_z7
  replace hS : SH M X w [] _:=hS.sel [] rfl
  refine s_reg [] [4] [(4,[],vT)] [] H (by kernel_rfl) trivial fun _ _ H26 hb => ?_
  replace hS:=hS.below hb
  apply w_ret
  obtain rfl:=someE hm
  exact retR1 H26 rfl rfl ⟨_,rfl,rfl,(hS.sel [] rfl)⟩
theorem r29_Same_ok {g_a_ : Gh} {g_b_ : Gh} (m : Nat) (a_ : List TDeclared) (b_ : List TDeclared) (r : Bool) (hm : r29_Same m a_ b_ = some r) (w : World) (hL : S0 F0 [eI tyDeclared a_ g_a_,eI tyDeclared b_ g_b_] w ∧ fpl [eI tyDeclared a_ g_a_,eI tyDeclared b_ g_b_] = []) : RetB Tryz.prog 18 ⟨[vL g_a_ a_,vL g_b_ b_]⟩ (vB r) w:=retB_of hL (Tryz.call18 _) (fun w' h => r29_Same_w F0 m   a_ b_ r hm w' h)

theorem law31_WideLesser_w {g_l_ : Gh} (M : Av) (m : Nat) (l_ : List TDeclared) (origin : Int) (r : Bool) (hm : law31_WideLesser m l_ origin = some r) (w : World) (hS : S0 M [eI tyDeclared l_ g_l_,gE0] w) : Calls Tryz.prog 5 ⟨[vL g_l_ l_,vU origin]⟩ w (fun e w' => ∃ v,e = .returned v ∧ v = vB r ∧ SH M (fpl [eI tyDeclared l_ g_l_,gE0]) w [] w'):=by
 rw [law31_WideLesser] at hm
 have hS0 : SH M (fpl [eI tyDeclared l_ g_l_,gE0]) w [eI tyDeclared l_ g_l_,gE0] w:=hS
 generalize hX : fpl [eI tyDeclared l_ g_l_,gE0] = X at hS0 ⊢
 clear hS hX
 have hS:=hS0
 clear hS0
 refine calls_entryP Tryz.func5 rfl Tryz.ntmps5 rfl fun _ H => ?_
 refine s_reg [] [0,1] (fS [0,1] [vL g_l_ l_,vU origin]) [] H (by kernel_rfl) trivial fun _ _ H2 hb => ?_
 replace hS:=hS.below hb
 obtain ⟨y3,hy3,hm⟩:=bindE hm
 refine s_reg [(vB y3)] [0,1,5] (fS [0,1,5] [vL g_l_ l_,vU origin,vB y3]) [rB 6 [] (vB y3)] H2 (by kernel_rfl) ⟨(law31_alive_ok 300 _ hy3 _ (s0im s0nil (hS.im 1 rfl))),trivial⟩ fun _ _ H5 hb => ?_
 replace hS:=hS.below hb
 apply w_seq
 obtain ⟨y6,hy6,hm⟩:=bindE hm
 obtain ⟨y7,hy7,hm⟩:=bindE hm
 obtain ⟨x8,hx8,hm⟩:=letE hm
 obtain ⟨x9,hx9,hm⟩:=letE hm
 refine s_reg [(vB y6),(vI y7)] [0,1,5,39] (fS [0,1,5,39] [vL g_l_ l_,vU origin,vB y3,vB x9]) [rB 7 [vL g_l_ l_] (vB y6),fun wz => (y6 = false ∧ True → RetB Tryz.prog 8 ⟨[vL g_l_ l_]⟩ (vI y7) wz)] H5 (by subst hx8 hx9; kernel_rfl) ⟨(r29_Great_ok (g_l_:=g_l_) m _ _ hy6 _ (s0im s0nil (hS.im 0 rfl))),fun hg => r31_Asked_ok (g_l_:=g_l_) m _ _ (bF (hg.1) hy7) _ (s0im s0nil (hS.im 0 rfl)),trivial⟩ fun _ _ H11 hb => ?_
 replace hS:=hS.below hb
 refine w_if H11 rfl (fun hc => ?c94) (fun hc => ?_)
 case c94 =>
  replace hm:=bT hc hm
  refine s_reg [] [4] [(4,[],vB y3)] [] H11 (by kernel_rfl) trivial fun _ _ H13 hb => ?_
  replace hS:=hS.below hb
  replace hS : SH M X w [gE0] _:=hS.sel [1] rfl
  apply w_ret
  obtain rfl:=someE hm
  exact retR1 H13 rfl rfl ⟨_,rfl,rfl,(hS.sel [] rfl)⟩
 replace hm:=bF hc hm
 apply w_skip
 apply w_seq
 apply wl_start
 refine wl_batch 0 2 [] [0,1,5,42,43] (fS [0,1,5,42,43] [vL g_l_ l_,vU origin,vB y3,vL g_l_ l_,vU origin]) [] H11 (by decide) (by kernel_rfl) trivial fun _ _ H15 hb => ?_
 replace hS:=hS.below hb
 obtain ⟨y16,hy16,hm⟩:=bindE hm
 have hd:=hS.hand [0,1] [0,1] rfl rfl
 refine m_stp [44,0,1,5] (fS [0,1,5] [vL g_l_ l_,vU origin,vB y3]) H15 rfl rfl rfl rfl (o_callx H15 rfl rfl (wide_Lesser_ok (g_l_:=g_l_) m _ _ _ hy16 _ _ hd)) (fun _ => rfl) fun _ _ v H20 hq => ?_
 obtain ⟨g17,rfl,hq⟩:=hq
 replace hS : SH M X w [eO 35 tyDeclared y16.1 g17,eI tyDeclared l_ g_l_,gE0] _:=hS.join [0,1] [0,1] rfl rfl hq
 refine wl_batch 3 8 [] [0,1,5,6,7] (fS [0,1,5,6,7] [vL g_l_ l_,vU origin,vB y3,vL g17 y16.1,vI y16.2]) [] H20 (by decide) (by kernel_rfl) trivial fun _ _ H22 hb => ?_
 replace hS:=hS.below hb
 apply wl_end rfl
 apply w_seq
 refine s_reg [] [0,1,5,6,48] (fS [0,1,5,6,48] [vL g_l_ l_,vU origin,vB y3,vL g17 y16.1,vB (y16.2 != 0)]) [] H22 (by kernel_rfl) trivial fun _ _ H24 hb => ?_
 replace hS:=hS.below hb
 refine w_if H24 rfl (fun hc => ?c93) (fun hc => ?_)
 case c93 =>
  replace hm:=bT hc hm
  refine s_reg [] [4] [(4,[],vF)] [] H24 (by kernel_rfl) trivial fun _ _ H26 hb => ?_
  replace hS:=hS.below hb
  replace hS : SH M X w [gE0] _:=hS.sel [2] rfl
  apply w_ret
  obtain rfl:=someE hm
  exact retR1 H26 rfl rfl ⟨_,rfl,rfl,(hS.sel [] rfl)⟩
 replace hm:=bF hc hm
 apply w_skip
 refine s_reg [] [0,1,5,6,8] (fS [0,1,5,6,8] [vL g_l_ l_,vU origin,vB y3,vL g17 y16.1,vI 0]) [] H24 (by kernel_rfl) trivial fun _ _ H28 hb => ?_
 replace hS:=hS.below hb
 obtain ⟨z29,hz,hm_z29⟩:=bindE hm
 refine w_cut (fun a' w' => ∃ s_z29 : Int,z29 = Sum.inr s_z29 ∧ Fr 160 (fS [5,6,8] [vB y3,vL g17 y16.1,vI s_z29]) a' ∧ SH M X w [eO 35 tyDeclared y16.1 g17,eI tyDeclared l_ g_l_,gE0] w') ?_ ?_
 ·replace hm:=hz
  refine s_reg [] [0,1,5,6,8,9] (fS [0,1,5,6,8,9] [vL g_l_ l_,vU origin,vB y3,vL g17 y16.1,vI 0,vI 0]) [] H28 (by kernel_rfl) trivial fun _ _ H31 hb => ?_
  replace hS:=hS.below hb
  apply w_block
  refine w_loop (fun kk a' w' => ∃ (v32 : Int) (v33 : Int),law31_WideLesser_L1 m l_ origin y16 kk v32 v33 = some _ ∧ Fr 160 (fS [0,1,5,6,8,9] [vL g_l_ l_,vU origin,vB y3,vL g17 y16.1,vI v32,vI v33]) a' ∧ SH M X w [eO 35 tyDeclared y16.1 g17,eI tyDeclared l_ g_l_,gE0] w') ⟨_,0,0,hm,FrG.keep (ks:=[0,1,5,6,8,9]) H31 (by kernel_rfl),hS⟩ ?_
  clear hm H31 hS
  rintro kk _ _ ⟨v32,v33,hm,H,hS⟩
  cases kk with
  | zero => exact noneE hm
  | succ kk =>
   rw [law31_WideLesser_L1] at hm
   apply w_seq
   refine s_reg [] [0,1,5,6,8,9,52] (fS [0,1,5,6,8,9,52] [vL g_l_ l_,vU origin,vB y3,vL g17 y16.1,vI v32,vI v33,vB (decide (v33 < (ln l_)))]) [] H (by kernel_rfl) trivial fun _ _ H35 hb => ?_
   replace hS:=hS.below hb
   refine w_if H35 rfl (fun hc => ?_) (fun hc => ?c77)
   case c77 =>
    replace hm:=bF hc hm
    apply w_exit rfl
    obtain rfl:=someE hm
    exact ⟨_,rfl,FrG.keep (ks:=[5,6,8]) H35 (by kernel_rfl),hS⟩
   replace hm:=bT hc hm
   apply w_skip
   obtain ⟨z36,hz,hm_z36⟩:=bindE hm
   refine w_cut (fun a' w' => ∃ s_z36 : Int,z36 = Sum.inr s_z36 ∧ Fr 160 (fS [0,1,5,6,9,8] [vL g_l_ l_,vU origin,vB y3,vL g17 y16.1,vI v33,vI s_z36]) a' ∧ SH M X w [eO 35 tyDeclared y16.1 g17,eI tyDeclared l_ g_l_,gE0] w') ?_ ?_
   ·replace hm:=hz
    apply w_block
    obtain ⟨z37,hz,hm_z37⟩:=bindE hm
    refine w_cut (fun a' w' => ∃ s_z37 : Int,z37 = Sum.inr s_z37 ∧ Fr 160 (fS [0,1,5,6,9,8] [vL g_l_ l_,vU origin,vB y3,vL g17 y16.1,vI v33,vI s_z37]) a' ∧ SH M X w [eO 35 tyDeclared y16.1 g17,eI tyDeclared l_ g_l_,gE0] w') ?_ ?_
    ·replace hm:=hz
     obtain ⟨ho38,hm⟩:=chkE hm
     refine s_reg [(vU ((gi l_ v33).Origin))] [0,1,5,6,8,9,61] (fS [0,1,5,6,8,9,61] [vL g_l_ l_,vU origin,vB y3,vL g17 y16.1,vI v32,vI v33,vB (decide (((gi l_ v33).Origin) < origin))]) [fun _ => oka g_l_.a ∧ 0 ≤ v33 ∧ v33 < ln l_,fun wz => V.at1 ⟨ab g_l_.a,ao g_l_.a + (v33).toNat * 11 + 4,none⟩ (vU ((gi l_ v33).Origin)) wz] H35 (by kernel_rfl) ⟨((hS.im 1 rfl).oki ho38),((hS.im 1 rfl).at1 ho38 4 rfl),trivial⟩ fun _ _ H40 hb => ?_
     replace hS:=hS.below hb
     refine w_if H40 rfl (fun hc => ?_) (fun hc => ?c51)
     case c51 =>
      replace hm:=bF hc hm
      apply w_skip
      obtain rfl:=someE hm
      exact ⟨_,rfl,FrG.keep (ks:=[0,1,5,6,9,8]) H40 (by kernel_rfl),hS⟩
     replace hm:=bT hc hm
     apply w_seq
     obtain ⟨ho41,hm⟩:=chkE hm
     obtain ⟨y42,hy42,hm⟩:=bindE hm
     obtain ⟨x43,hx43,hm⟩:=letE hm
     refine s_draw [(vG [vS (gi y16.1 v32).Long.Name,.slice (g17.s (v32).toNat 0).a (((gi y16.1 v32).Long.Value).length) (g17.s (v32).toNat 0).c,vS (gi y16.1 v32).Long.Whole,vB ((gi y16.1 v32).Important),vU ((gi y16.1 v32).Origin),vB ((gi y16.1 v32).Attached),vI ((gi y16.1 v32).Layer),vI ((gi y16.1 v32).Weight.e0),vI ((gi y16.1 v32).Weight.e1),vI ((gi y16.1 v32).Weight.e2),vI ((gi y16.1 v32).Order)]),(vG [vS (gi l_ v33).Long.Name,.slice (g_l_.s (v33).toNat 0).a (((gi l_ v33).Long.Value).length) (g_l_.s (v33).toNat 0).c,vS (gi l_ v33).Long.Whole,vB ((gi l_ v33).Important),vU ((gi l_ v33).Origin),vB ((gi l_ v33).Attached),vI ((gi l_ v33).Layer),vI ((gi l_ v33).Weight.e0),vI ((gi l_ v33).Weight.e1),vI ((gi l_ v33).Weight.e2),vI ((gi l_ v33).Order)]),(vB y42)] [0,1,5,6,8,9,77] (fS [0,1,5,6,8,9,77] [vL g_l_ l_,vU origin,vB y3,vL g17 y16.1,vI v32,vI v33,vB x43]) [fun _ => ((decide ((ln y16.1) ≤ v32)) = false ∧ True → oka g17.a ∧ 0 ≤ v32 ∧ v32 < ln y16.1),fun wz => ((decide ((ln y16.1) ≤ v32)) = false ∧ True → V.atN (ab g17.a) (ao g17.a + (v32).toNat * 11) [vS (gi y16.1 v32).Long.Name,.slice (g17.s (v32).toNat 0).a (((gi y16.1 v32).Long.Value).length) (g17.s (v32).toNat 0).c,vS (gi y16.1 v32).Long.Whole,vB ((gi y16.1 v32).Important),vU ((gi y16.1 v32).Origin),vB ((gi y16.1 v32).Attached),vI ((gi y16.1 v32).Layer),vI ((gi y16.1 v32).Weight.e0),vI ((gi y16.1 v32).Weight.e1),vI ((gi y16.1 v32).Weight.e2),vI ((gi y16.1 v32).Order)] 0 wz),fun _ => ((decide ((ln y16.1) ≤ v32)) = false ∧ True → oka g_l_.a ∧ 0 ≤ v33 ∧ v33 < ln l_),fun wz => ((decide ((ln y16.1) ≤ v32)) = false ∧ True → V.atN (ab g_l_.a) (ao g_l_.a + (v33).toNat * 11) [vS (gi l_ v33).Long.Name,.slice (g_l_.s (v33).toNat 0).a (((gi l_ v33).Long.Value).length) (g_l_.s (v33).toNat 0).c,vS (gi l_ v33).Long.Whole,vB ((gi l_ v33).Important),vU ((gi l_ v33).Origin),vB ((gi l_ v33).Attached),vI ((gi l_ v33).Layer),vI ((gi l_ v33).Weight.e0),vI ((gi l_ v33).Weight.e1),vI ((gi l_ v33).Weight.e2),vI ((gi l_ v33).Order)] 0 wz),fun wz => ((decide ((ln y16.1) ≤ v32)) = false ∧ True → RetB Tryz.prog 10 ⟨[vG [vS (gi y16.1 v32).Long.Name,.slice (g17.s (v32).toNat 0).a (((gi y16.1 v32).Long.Value).length) (g17.s (v32).toNat 0).c,vS (gi y16.1 v32).Long.Whole,vB ((gi y16.1 v32).Important),vU ((gi y16.1 v32).Origin),vB ((gi y16.1 v32).Attached),vI ((gi y16.1 v32).Layer),vI ((gi y16.1 v32).Weight.e0),vI ((gi y16.1 v32).Weight.e1),vI ((gi y16.1 v32).Weight.e2),vI ((gi y16.1 v32).Order)],vG [vS (gi l_ v33).Long.Name,.slice (g_l_.s (v33).toNat 0).a (((gi l_ v33).Long.Value).length) (g_l_.s (v33).toNat 0).c,vS (gi l_ v33).Long.Whole,vB ((gi l_ v33).Important),vU ((gi l_ v33).Origin),vB ((gi l_ v33).Attached),vI ((gi l_ v33).Layer),vI ((gi l_ v33).Weight.e0),vI ((gi l_ v33).Weight.e1),vI ((gi l_ v33).Weight.e2),vI ((gi l_ v33).Order)]]⟩ (vB y42) wz)] H40 (by kernel_rfl) (by kernel_rfl) (by subst hx43; kernel_rfl) ⟨fun hg => (hS.osl 0 rfl).oki (ho41 hg.1),fun hg => (hS.osl 0 rfl).atA (ho41 hg.1) 0 rfl,fun hg => (hS.im 1 rfl).oki ho38,fun hg => (hS.im 1 rfl).atA ho38 0 rfl,fun hg => r29_SameOne_ok (g_a__0:=(g17.s (v32).toNat 0)) (g_b__0:=(g_l_.s (v33).toNat 0)) m _ _ _ (bF (hg.1) hy42) _ (s0im (s0im s0nil (tyDeclared_i0 ((hS.im 1 rfl).el ho38))) (tyDeclared_i0 ((hS.osl 0 rfl).el (ho41 hg.1)))),trivial⟩ fun _ _ H45 hb => ?_
     replace hS:=hS.below hb
     refine w_if H45 rfl (fun hc => ?_) (fun hc => ?c50)
     case c50 =>
      replace hm:=bF hc hm
      apply w_skip
      refine w_reg [] [0,1,5,6,8,9] (fS [0,1,5,6,8,9] [vL g_l_ l_,vU origin,vB y3,vL g17 y16.1,vI (w64 (v32 + 1)),vI v33]) [] H45 (by kernel_rfl) trivial fun _ _ H49 hb => ?_
      replace hS:=hS.below hb
      obtain rfl:=someE hm
      exact ⟨_,rfl,FrG.keep (ks:=[0,1,5,6,9,8]) H49 (by kernel_rfl),hS⟩
     replace hm:=bT hc hm
     refine s_reg [] [4] [(4,[],vF)] [] H45 (by kernel_rfl) trivial fun _ _ H47 hb => ?_
     replace hS:=hS.below hb
     apply w_ret
     obtain rfl:=someE hm
     have hm:=hm_z37
     obtain rfl:=someE hm
     have hm:=hm_z36
     obtain rfl:=someE hm
     have hm:=hm_z29
     obtain rfl:=someE hm
     exact retR1 H47 rfl rfl ⟨_,rfl,rfl,(hS.sel [] rfl)⟩
    ·rintro _ _ ⟨s_z37,hz,H,hS⟩
     subst hz
     replace hm:=sumR hm_z37
     apply w_seq
     obtain ⟨ho52,hm⟩:=chkE hm
     refine s_reg [(vU ((gi l_ v33).Origin))] [0,1,5,6,8,9,85] (fS [0,1,5,6,8,9,85] [vL g_l_ l_,vU origin,vB y3,vL g17 y16.1,vI s_z37,vI v33,vB (((gi l_ v33).Origin) != 1)]) [fun _ => oka g_l_.a ∧ 0 ≤ v33 ∧ v33 < ln l_,fun wz => V.at1 ⟨ab g_l_.a,ao g_l_.a + (v33).toNat * 11 + 4,none⟩ (vU ((gi l_ v33).Origin)) wz] H (by kernel_rfl) ⟨((hS.im 1 rfl).oki ho52),((hS.im 1 rfl).at1 ho52 4 rfl),trivial⟩ fun _ _ H54 hb => ?_
     replace hS:=hS.below hb
     refine w_if H54 rfl (fun hc => ?c72) (fun hc => ?_)
     case c72 =>
      replace hm:=bT hc hm
      apply w_exit rfl
      obtain rfl:=someE hm
      exact ⟨_,rfl,FrG.keep (ks:=[0,1,5,6,9,8]) H54 (by kernel_rfl),hS⟩
     replace hm:=bF hc hm
     apply w_skip
     obtain ⟨y55,hy55,hm⟩:=bindE hm
     refine s_reg [(vW [vI y55.1,vS y55.2.1,vI y55.2.2])] [0,1,5,6,8,9,10,11,12] (fS [0,1,5,6,8,9,10,11,12] [vL g_l_ l_,vU origin,vB y3,vL g17 y16.1,vI s_z37,vI v33,vI y55.1,vS y55.2.1,vI y55.2.2]) [rB 13 [vL g_l_ l_,vI v33,vS [114,101,118,101,114,116]] (vW [vI y55.1,vS y55.2.1,vI y55.2.2])] H54 (by kernel_rfl) ⟨(wide_Mean_ok (g_l_:=g_l_) m _ _ _ _ hy55 _ (s0im (s0im s0nil (hS.im 2 rfl)) (hS.im 1 rfl))),trivial⟩ fun _ _ H57 hb => ?_
     replace hS:=hS.below hb
     obtain ⟨y58,hy58,hm⟩:=bindE hm
     refine s_reg [(vW [vI y58.1,vS y58.2.1,vI y58.2.2])] [0,1,5,6,8,9,10,11,12,13,14,15] (fS [0,1,5,6,8,9,10,11,12,13,14,15] [vL g_l_ l_,vU origin,vB y3,vL g17 y16.1,vI s_z37,vI v33,vI y55.1,vS y55.2.1,vI y55.2.2,vI y58.1,vS y58.2.1,vI y58.2.2]) [rB 13 [vL g_l_ l_,vI v33,vS [117,110,115,101,116]] (vW [vI y58.1,vS y58.2.1,vI y58.2.2])] H57 (by kernel_rfl) ⟨(wide_Mean_ok (g_l_:=g_l_) m _ _ _ _ hy58 _ (s0im (s0im s0nil (hS.im 2 rfl)) (hS.im 1 rfl))),trivial⟩ fun _ _ H60 hb => ?_
     replace hS:=hS.below hb
     obtain ⟨y61,hy61,hm⟩:=bindE hm
     refine s_reg [(vS (gi l_ v33).Long.Name),(vW [vB y61.1,vI y61.2])] [0,1,5,6,8,9,10,11,12,13,14,15,16,17] (fS [0,1,5,6,8,9,10,11,12,13,14,15,16,17] [vL g_l_ l_,vU origin,vB y3,vL g17 y16.1,vI s_z37,vI v33,vI y55.1,vS y55.2.1,vI y55.2.2,vI y58.1,vS y58.2.1,vI y58.2.2,vB y61.1,vI y61.2]) [fun _ => oka g_l_.a ∧ 0 ≤ v33 ∧ v33 < ln l_,fun wz => V.at1 ⟨ab g_l_.a,ao g_l_.a + (v33).toNat * 11,none⟩ (vS (gi l_ v33).Long.Name) wz,rB 16 [vS (gi l_ v33).Long.Name] (vW [vB y61.1,vI y61.2])] H60 (by kernel_rfl) ⟨((hS.im 1 rfl).oki ho52),((hS.im 1 rfl).at1 ho52 0 rfl),(props_Inherited_ok 64 _ _ hy61 _ (s0im s0nil (hS.im 2 rfl))),trivial⟩ fun _ _ H63 hb => ?_
     replace hS:=hS.below hb
     obtain ⟨x64,hx64,hm⟩:=letE hm
     obtain ⟨x65,hx65,hm⟩:=letE hm
     obtain ⟨x66,hx66,hm⟩:=letE hm
     refine s_reg [] [0,1,5,6,8,9,138] (fS [0,1,5,6,8,9,138] [vL g_l_ l_,vU origin,vB y3,vL g17 y16.1,vI s_z37,vI v33,vB x66]) [] H63 (by subst hx64 hx65 hx66; kernel_rfl) trivial fun _ _ H68 hb => ?_
     replace hS:=hS.below hb
     refine w_if H68 rfl (fun hc => ?_) (fun hc => ?c71)
     case c71 =>
      replace hm:=bF hc hm
      apply w_skip
      obtain rfl:=someE hm
      exact ⟨_,rfl,FrG.keep (ks:=[0,1,5,6,9,8]) H68 (by kernel_rfl),hS⟩
     replace hm:=bT hc hm
     refine s_reg [] [4] [(4,[],vF)] [] H68 (by kernel_rfl) trivial fun _ _ H70 hb => ?_
     replace hS:=hS.below hb
     apply w_ret
     obtain rfl:=someE hm
     have hm:=hm_z36
     obtain rfl:=someE hm
     have hm:=hm_z29
     obtain rfl:=someE hm
     exact retR1 H70 rfl rfl ⟨_,rfl,rfl,(hS.sel [] rfl)⟩
   ·rintro _ _ ⟨s_z36,hz,H,hS⟩
    subst hz
    replace hm:=sumR hm_z36
    refine w_reg [] [0,1,5,6,8,9] (fS [0,1,5,6,8,9] [vL g_l_ l_,vU origin,vB y3,vL g17 y16.1,vI s_z36,vI (w64 (v33 + 1))]) [] H (by kernel_rfl) trivial fun _ _ H75 hb => ?_
    replace hS:=hS.below hb
    exact ⟨_,Nat.lt_succ_self _,s_z36,w64 (v33 + 1),hm,FrG.keep (ks:=[0,1,5,6,8,9]) H75 (by kernel_rfl),hS⟩
 ·rintro _ _ ⟨s_z29,hz,H,hS⟩
  subst hz
  replace hm:=sumR hm_z29
  replace hS : SH M X w [eO 35 tyDeclared y16.1 g17,gE0] _:=hS.sel [0,2] rfl
  apply w_seq
  apply wl_start
  refine wl_batch 0 1 [] [5,6,8,140] (fS [5,6,8,140] [vB y3,vL g17 y16.1,vI s_z29,vL g17 y16.1]) [] H (by decide) (by kernel_rfl) trivial fun _ _ H80 hb => ?_
  replace hS:=hS.below hb
  replace hS : SH M X w [eI tyDeclared y16.1 g17,gE0] _:=SH.frz1 (hS.sel [0,1] rfl)
  obtain ⟨y81,hy81,hm⟩:=bindE hm
  have hd:=hS.hand [0,1] [0,1] rfl rfl
  refine m_stp [141,5,6,8] (fS [5,6,8] [vB y3,vL g17 y16.1,vI s_z29]) H80 rfl rfl rfl rfl (o_callx H80 rfl rfl (sorter_Sort_ok (g_l_:=g17) m _ _ hy81 _ _ hd)) (fun _ => rfl) fun _ _ v H85 hq => ?_
  obtain ⟨g82,rfl,hq⟩:=hq
  replace hS : SH M X w [eO 35 tyDeclared y81.1 g82,eI tyDeclared y16.1 g17,gE0] _:=hS.join [0,1] [0,1] rfl rfl hq
  refine wl_batch 2 7 [] [5,6,8,18,19] (fS [5,6,8,18,19] [vB y3,vL g17 y16.1,vI s_z29,vL g82 y81.1,vI y81.2]) [] H85 (by decide) (by kernel_rfl) trivial fun _ _ H87 hb => ?_
  replace hS:=hS.below hb
  apply wl_end rfl
  obtain ⟨x88,hx88,hm⟩:=letE hm
  obtain ⟨y89,hy89,hm⟩:=bindE hm
  refine s_reg [(vB y89)] [4] [(4,[],vB (cond x88 y89 false))] [fun wz => (x88 = true ∧ True → RetB Tryz.prog 18 ⟨[vL g82 y81.1,vL g17 y16.1]⟩ (vB y89) wz)] H87 (by subst hx88; kernel_rfl) ⟨fun hg => r29_Same_ok (g_a_:=g82) (g_b_:=g17) m _ _ _ (bT (hg.1) hy89) _ (s0im (s0im s0nil (hS.im 1 rfl)) (hS.osl 0 rfl)),trivial⟩ fun _ _ H91 hb => ?_
  replace hS:=hS.below hb
  replace hS : SH M X w [gE0] _:=hS.sel [2] rfl
  apply w_ret
  obtain rfl:=someE hm
  exact retR1 H91 rfl rfl ⟨_,rfl,rfl,(hS.sel [] rfl)⟩
theorem law31_WideLesser_ok {g_l_ : Gh} (m : Nat) (l_ : List TDeclared) (origin : Int) (r : Bool) (hm : law31_WideLesser m l_ origin = some r) (w : World) (hL : S0 F0 [eI tyDeclared l_ g_l_,gE0] w ∧ fpl [eI tyDeclared l_ g_l_,gE0] = []) : RetB Tryz.prog 5 ⟨[vL g_l_ l_,vU origin]⟩ (vB r) w:=retB_of hL (Tryz.call5 _) (fun w' h => law31_WideLesser_w F0 m   l_ origin r hm w' h)

end Go.Proofs.YtehlikdeobajcaaGreatDoor
