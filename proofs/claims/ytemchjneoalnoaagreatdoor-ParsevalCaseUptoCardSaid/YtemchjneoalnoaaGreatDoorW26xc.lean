/-
  What the Go functions compute, as Lean functions, and that a call returns just that. Printed by a program.
-/
import Derived.Test.YtemchjneoalnoaaGreatDoorRows
import Derived.Test.YtemchjneoalnoaaGreatDoorX
import Derived.Test.YtemchjneoalnoaaGreatDoorIF
import Derived.Test.YtemchjneoalnoaaGreatDoorMP
import Derived.Test.YtemchjneoalnoaaGreatDoorM
import Derived.Test.YtemchjneoalnoaaGreatDoorW26xb
set_option linter.unusedVariables false
set_option maxRecDepth 20000
set_option maxHeartbeats 4000000
namespace Go.Proofs.YtemchjneoalnoaaGreatDoor
open Go.V Go.RowKit

theorem props_Check_w  (M : Av) (v_ : TVal) (r : Int) (hm : props_Check v_ = some r) (w : World) (hS : S0 M [] w) : Calls Tryz.prog 34 ⟨[vG (cV v_)]⟩ w (fun e w' => ∃ v, e = .returned v ∧ v = vI r ∧ SH M (fpl []) w [] w') := by
 rw [props_Check] at hm
 have hS0 : SH M (fpl []) w [] w := hS
 generalize hX : fpl [] = X at hS0 ⊢
 clear hS hX
 have hS := hS0
 clear hS0
 refine calls_entryP Tryz.func34 rfl Tryz.ntmps34 rfl fun _ H => ?_
 apply w_seq
 apply wl_start
 have hd := hS.hand [] [] rfl rfl
 refine m_stp [1] [] H rfl rfl rfl rfl (o_box (cV v_) H hd rfl rfl) (fun _ => rfl) fun _ _ v H3 hq => ?_
 clear H hd
 obtain ⟨b1, rfl, hq⟩ := hq
 replace hS : SH M X w [eB b1 (cV v_)] _ := hS.join [] [] rfl rfl hq
 clear hq
 refine wl_batch 1 2 [] [1] [(1, [], vP b1)] [] H3 (by decide) (by kernel_rfl) trivial fun _ _ H5 hb => ?_
 replace hS := hS.below hb
 clear H3 hb
 apply wl_end rfl
 apply w_seq
 apply wl_start
 refine wl_batch 0 3 [(vU v_.Kind)] [1, 7] (fS [1, 7] [vP b1, vG [vU v_.Kind, vN, vI 0, vU 0, vU 0, vU 0, vU 0]]) [rA b1 0 (vU v_.Kind)] H5 (by decide) (by kernel_rfl) ⟨((hS.bk 0 rfl).at1 rfl), trivial⟩ fun _ _ H7 hb => ?_
 replace hS := hS.below hb
 clear H5 hb
 have hd := hS.hand [] [0] rfl rfl
 refine m_stp [3, 1, 7] (fS [1, 7] [vP b1, vG [vU v_.Kind, vN, vI 0, vU 0, vU 0, vU 0, vU 0]]) H7 rfl rfl rfl rfl (o_alloc [vU 0, vN, vI 0, vU 0, vU 0, vU 0, vU 0] (z := vG [vU 0, vN, vI 0, vU 0, vU 0, vU 0, vU 0]) hd (by kernel_rfl) rfl) (fun _ => rfl) fun _ _ v H10 hq => ?_
 clear H7 hd
 obtain ⟨b8, rfl, hq⟩ := hq
 replace hS : SH M X w [eB b8 [vU 0, vN, vI 0, vU 0, vU 0, vU 0, vU 0], eB b1 (cV v_)] _ := hS.join [] [0] rfl rfl hq
 clear hq
 have hd := hS.hand [0] [1] rfl rfl
 refine m_stp0 [1, 3] (fS [1, 3] [vP b1, vP b8]) H10 rfl rfl rfl (o_store [vU v_.Kind, vN, vI 0, vU 0, vU 0, vU 0, vU 0] H10 hd rfl rfl (by kernel_rfl) rfl rfl rfl) rfl fun _ _ H12 hq => ?_
 clear H10 hd
 obtain ⟨_, hq⟩ := hq
 replace hS : SH M X w [eB b8 [vU v_.Kind, vN, vI 0, vU 0, vU 0, vU 0, vU 0], eB b1 (cV v_)] _ := hS.join [0] [1] rfl rfl hq
 clear hq
 apply wl_end rfl
 refine s_reg [] [1, 3, 4] (fS [1, 3, 4] [vP b1, vP b8, vI 1000000000000]) [] H12 (by kernel_rfl) trivial fun _ _ H14 hb => ?_
 replace hS := hS.below hb
 clear H12 hb
 obtain ⟨z15, hz, hm_z15⟩ := bindE hm
 refine w_cut (fun a' w' => ∃ s_z15 : Str × Int × Int × Int × Int × Int, z15 = Sum.inr s_z15 ∧ Fr 52 (fS [1, 3] [vP b1, vP b8]) a' ∧ SH M X w [eB b8 [vU v_.Kind, vS s_z15.1, vI s_z15.2.2.2.2.2, vU s_z15.2.1, vU s_z15.2.2.1, vU s_z15.2.2.2.1, vU s_z15.2.2.2.2.1], eB b1 (cV v_)] w') ?_ ?_
 ·replace hm := hz
  refine s_reg [(vU v_.Kind)] [1, 3, 4, 9] (fS [1, 3, 4, 9] [vP b1, vP b8, vI 1000000000000, vU v_.Kind]) [rA b1 0 (vU v_.Kind)] H14 (by kernel_rfl) ⟨((hS.bk 1 rfl).at1 rfl), trivial⟩ fun _ _ H17 hb => ?_
  replace hS := hS.below hb
  clear H14 hb
  apply w_block
  apply w_seq
  apply w_block
  apply w_seq
  apply w_block
  apply w_seq
  apply w_block
  obtain ⟨z18, hz, hm_z18⟩ := bindE hm
  refine w_cut (fun a' w' => ∃ s_z18 : Int, z18 = Sum.inr s_z18 ∧ Fr 52 (fS [1, 3, 4] [vP b1, vP b8, vI s_z18]) a' ∧ SH M X w [eB b8 [vU v_.Kind, vN, vI 0, vU 0, vU 0, vU 0, vU 0], eB b1 (cV v_)] w') ?_ ?_
  ·replace hm := hz
   apply w_block
   apply w_seq
   apply w_block
   apply w_seq
   apply w_block
   apply w_seq
   apply w_seq
   refine s_reg [] [1, 3, 4, 9, 10] (fS [1, 3, 4, 9, 10] [vP b1, vP b8, vI 1000000000000, vU v_.Kind, vB (v_.Kind == 1)]) [] H17 (by kernel_rfl) trivial fun _ _ H20 hb => ?_
   replace hS := hS.below hb
   clear H17 hb
   refine w_if H20 rfl (fun hc => ?c60) (fun hc => ?_)
   case c60 =>
    replace hm := bT hc hm
    apply w_exit rfl
    apply w_seq
    apply wl_start
    refine wl_batch 0 3 [(vS v_.Word)] [1, 3, 24, 25] (fS [1, 3, 24, 25] [vP b1, vP b8, vS v_.Word, vA b8 1]) [rA b1 1 (vS v_.Word)] H20 (by decide) (by kernel_rfl) ⟨((hS.bk 1 rfl).at1 rfl), trivial⟩ fun _ _ H22 hb => ?_
    replace hS := hS.below hb
    clear H20 hb
    have hd := hS.hand [0] [1] rfl rfl
    refine m_stp0 [1, 3] (fS [1, 3] [vP b1, vP b8]) H22 rfl rfl rfl (o_store [vU v_.Kind, vS v_.Word, vI 0, vU 0, vU 0, vU 0, vU 0] H22 hd rfl rfl (by kernel_rfl) rfl rfl rfl) rfl fun _ _ H24 hq => ?_
    clear H22 hd
    obtain ⟨_, hq⟩ := hq
    replace hS : SH M X w [eB b8 [vU v_.Kind, vS v_.Word, vI 0, vU 0, vU 0, vU 0, vU 0], eB b1 (cV v_)] _ := hS.join [0] [1] rfl rfl hq
    clear hq
    apply wl_end rfl
    apply w_exit rfl
    obtain ⟨r25, hr_r25, hm⟩ := bindE hm
    obtain rfl := someE hm
    have hm := hm_z18
    obtain rfl := someE hm
    have hm := hr_r25
    clear hr_r25
    obtain rfl := someE hm
    exact ⟨_, rfl, FrG.keep (ks := [1, 3]) H24 (by kernel_rfl), hS⟩
   replace hm := bF hc hm
   apply w_skip
   apply w_seq
   refine s_reg [] [1, 3, 4, 9, 12] (fS [1, 3, 4, 9, 12] [vP b1, vP b8, vI 1000000000000, vU v_.Kind, vB (v_.Kind == 6)]) [] H20 (by kernel_rfl) trivial fun _ _ H27 hb => ?_
   replace hS := hS.below hb
   clear H20 hb
   refine w_if H27 rfl (fun hc => ?c59) (fun hc => ?_)
   case c59 =>
    replace hm := bT hc hm
    apply w_exit rfl
    refine w_reg [] [1, 3, 4] (fS [1, 3, 4] [vP b1, vP b8, vI (w64 (Int.tdiv 1000000000000 1000))]) [fun _ => (1000 : Int) ≠ 0] H27 (by kernel_rfl) ⟨(by show (1000 : Int) ≠ 0; decide), trivial⟩ fun _ _ H29 hb => ?_
    replace hS := hS.below hb
    clear H27 hb
    obtain rfl := someE hm
    exact ⟨_, rfl, FrG.keep (ks := [1, 3, 4]) H29 (by kernel_rfl), hS⟩
   replace hm := bF hc hm
   apply w_skip
   apply w_seq
   obtain ⟨z30, hz, hm⟩ := bindE hm
   refine w_cut (fun a' w' => Fr 52 (fS [1, 3, 4, 9, 14] [vP b1, vP b8, vI 1000000000000, vU v_.Kind, vB z30]) a' ∧ SH M X w [eB b8 [vU v_.Kind, vN, vI 0, vU 0, vU 0, vU 0, vU 0], eB b1 (cV v_)] w') ?_ ?_
   ·replace hm := hz
    refine s_reg [] [1, 3, 4, 9, 14] (fS [1, 3, 4, 9, 14] [vP b1, vP b8, vI 1000000000000, vU v_.Kind, vB (v_.Kind == 2)]) [] H27 (by kernel_rfl) trivial fun _ _ H32 hb => ?_
    replace hS := hS.below hb
    clear H27 hb
    refine w_if H32 rfl (fun hc => ?c41) (fun hc => ?_)
    case c41 =>
     replace hm := bT hc hm
     apply w_skip
     obtain rfl := someE hm
     exact ⟨FrG.keep (ks := [1, 3, 4, 9, 14]) H32 (by kernel_rfl), hS⟩
    replace hm := bF hc hm
    refine s_reg [] [1, 3, 4, 9, 14] (fS [1, 3, 4, 9, 14] [vP b1, vP b8, vI 1000000000000, vU v_.Kind, vB (v_.Kind == 3)]) [] H32 (by kernel_rfl) trivial fun _ _ H34 hb => ?_
    replace hS := hS.below hb
    clear H32 hb
    refine w_if H34 rfl (fun hc => ?c40) (fun hc => ?_)
    case c40 =>
     replace hm := bT hc hm
     apply w_skip
     obtain rfl := someE hm
     exact ⟨FrG.keep (ks := [1, 3, 4, 9, 14]) H34 (by kernel_rfl), hS⟩
    replace hm := bF hc hm
    refine s_reg [] [1, 3, 4, 9, 14] (fS [1, 3, 4, 9, 14] [vP b1, vP b8, vI 1000000000000, vU v_.Kind, vB (v_.Kind == 4)]) [] H34 (by kernel_rfl) trivial fun _ _ H36 hb => ?_
    replace hS := hS.below hb
    clear H34 hb
    refine w_if H36 rfl (fun hc => ?c39) (fun hc => ?_)
    case c39 =>
     replace hm := bT hc hm
     apply w_skip
     obtain rfl := someE hm
     exact ⟨FrG.keep (ks := [1, 3, 4, 9, 14]) H36 (by kernel_rfl), hS⟩
    replace hm := bF hc hm
    refine w_reg [] [1, 3, 4, 9, 14] (fS [1, 3, 4, 9, 14] [vP b1, vP b8, vI 1000000000000, vU v_.Kind, vB (v_.Kind == 5)]) [] H36 (by kernel_rfl) trivial fun _ _ H38 hb => ?_
    replace hS := hS.below hb
    clear H36 hb
    obtain rfl := someE hm
    exact ⟨FrG.keep (ks := [1, 3, 4, 9, 14]) H38 (by kernel_rfl), hS⟩
   ·rintro _ _ ⟨H, hS⟩
    refine w_if H rfl (fun hc => ?c57) (fun hc => ?_)
    case c57 =>
     replace hm := bT hc hm
     apply w_exit rfl
     obtain rfl := someE hm
     exact ⟨_, rfl, FrG.keep (ks := [1, 3, 4]) H (by kernel_rfl), hS⟩
    replace hm := bF hc hm
    apply w_skip
    apply w_seq
    refine s_reg [] [1, 3, 9, 19] (fS [1, 3, 9, 19] [vP b1, vP b8, vU v_.Kind, vB (v_.Kind == 7)]) [] H (by kernel_rfl) trivial fun _ _ H43 hb => ?_
    replace hS := hS.below hb
    clear H hb
    refine w_if H43 rfl (fun hc => ?c56) (fun hc => ?_)
    case c56 =>
     replace hm := bT hc hm
     apply w_exit rfl
     obtain ⟨r48, hr_r48, hm⟩ := bindE hm
     obtain rfl := someE hm
     have hm := hm_z18
     obtain rfl := someE hm
     have hm := hr_r48
     clear hr_r48
     apply w_seq
     apply wl_start
     refine wl_batch 0 3 [(vG (cC v_.Color))] [1, 3, 37, 38] (fS [1, 3, 37, 38] [vP b1, vP b8, vG (cC v_.Color), vA b8 3]) [rN b1 3 (cC v_.Color)] H43 (by decide) (by kernel_rfl) ⟨((hS.bk 1 rfl).atD rfl), trivial⟩ fun _ _ H45 hb => ?_
     replace hS := hS.below hb
     clear H43 hb
     have hd := hS.hand [0] [1] rfl rfl
     refine m_stp0 [1, 3] (fS [1, 3] [vP b1, vP b8]) H45 rfl rfl rfl (o_store [vU v_.Kind, vN, vI 0, vU v_.Color.Red, vU v_.Color.Green, vU v_.Color.Blue, vU v_.Color.Alpha] H45 hd rfl rfl (by kernel_rfl) rfl rfl rfl) rfl fun _ _ H47 hq => ?_
     clear H45 hd
     obtain ⟨_, hq⟩ := hq
     replace hS : SH M X w [eB b8 [vU v_.Kind, vN, vI 0, vU v_.Color.Red, vU v_.Color.Green, vU v_.Color.Blue, vU v_.Color.Alpha], eB b1 (cV v_)] _ := hS.join [0] [1] rfl rfl hq
     clear hq
     apply wl_end rfl
     apply w_exit rfl
     obtain rfl := someE hm
     exact ⟨_, rfl, FrG.keep (ks := [1, 3]) H47 (by kernel_rfl), hS⟩
    replace hm := bF hc hm
    apply w_skip
    refine s_reg [] [1, 3, 21] (fS [1, 3, 21] [vP b1, vP b8, vB (v_.Kind == 8)]) [] H43 (by kernel_rfl) trivial fun _ _ H50 hb => ?_
    replace hS := hS.below hb
    clear H43 hb
    refine w_if H50 rfl (fun hc => ?c55) (fun hc => ?_)
    case c55 =>
     replace hm := bT hc hm
     apply w_exit rfl
     obtain ⟨r51, hr_r51, hm⟩ := bindE hm
     obtain rfl := someE hm
     have hm := hm_z18
     obtain rfl := someE hm
     have hm := hr_r51
     clear hr_r51
     apply w_exit rfl
     obtain rfl := someE hm
     exact ⟨_, rfl, FrG.keep (ks := [1, 3]) H50 (by kernel_rfl), hS⟩
    replace hm := bF hc hm
    apply w_skip
    apply w_exit rfl
    obtain ⟨r54, hr_r54, hm⟩ := bindE hm
    obtain rfl := someE hm
    have hm := hm_z18
    obtain rfl := someE hm
    have hm := hr_r54
    clear hr_r54
    apply w_seq
    refine s_reg [] [2] [(2, [], vI 8)] [] H50 (by kernel_rfl) trivial fun _ _ H53 hb => ?_
    replace hS := hS.below hb
    clear H50 hb
    apply w_ret
    obtain rfl := someE hm
    have hm := hm_z15
    obtain rfl := someE hm
    exact retR1 H53 rfl rfl ⟨_, rfl, rfl, (hS.sel [] rfl)⟩
  ·rintro _ _ ⟨s_z18, hz, H, hS⟩
   subst hz
   replace hm := sumR hm_z18
   apply w_seq
   apply wl_start
   obtain ⟨x61, hx61, hm⟩ := letE hm
   refine wl_batch 0 8 [(vI v_.Num)] [1, 3, 34, 35] (fS [1, 3, 34, 35] [vP b1, vP b8, vI x61, vA b8 2]) [rA b1 2 (vI v_.Num)] H (by decide) (by subst hx61; kernel_rfl) ⟨((hS.bk 1 rfl).at1 rfl), trivial⟩ fun _ _ H63 hb => ?_
   replace hS := hS.below hb
   clear H hb
   have hd := hS.hand [0] [1] rfl rfl
   refine m_stp0 [1, 3] (fS [1, 3] [vP b1, vP b8]) H63 rfl rfl rfl (o_store [vU v_.Kind, vN, vI x61, vU 0, vU 0, vU 0, vU 0] H63 hd rfl rfl (by kernel_rfl) rfl rfl rfl) rfl fun _ _ H65 hq => ?_
   clear H63 hd
   obtain ⟨_, hq⟩ := hq
   replace hS : SH M X w [eB b8 [vU v_.Kind, vN, vI x61, vU 0, vU 0, vU 0, vU 0], eB b1 (cV v_)] _ := hS.join [0] [1] rfl rfl hq
   clear hq
   apply wl_end rfl
   apply w_exit rfl
   obtain rfl := someE hm
   exact ⟨_, rfl, FrG.keep (ks := [1, 3]) H65 (by kernel_rfl), hS⟩
 ·rintro _ _ ⟨s_z15, hz, H, hS⟩
  subst hz
  replace hm := sumR hm_z15
  apply w_seq
  obtain ⟨x67, hx67, hm⟩ := letE hm
  obtain ⟨x68, hx68, hm⟩ := letE hm
  refine s_reg [(vG (cV v_)), (vG [vU v_.Kind, vS s_z15.1, vI s_z15.2.2.2.2.2, vU s_z15.2.1, vU s_z15.2.2.1, vU s_z15.2.2.2.1, vU s_z15.2.2.2.2.1]), (vU v_.Kind), (vS v_.Word)] [51] [(51, [], vB x68)] [rN b1 0 (cV v_), rN b8 0 [vU v_.Kind, vS s_z15.1, vI s_z15.2.2.2.2.2, vU s_z15.2.1, vU s_z15.2.2.1, vU s_z15.2.2.2.1, vU s_z15.2.2.2.2.1], fun wz => (x67 = false ∧ True → V.at1 ⟨b1, 0, none⟩ (vU v_.Kind) wz), fun wz => ((v_.Kind == 1) = true ∧ x67 = false ∧ True → V.at1 ⟨b1, 1, none⟩ (vS v_.Word) wz)] H (by subst hx67 hx68; kernel_rfl) ⟨((hS.bk 1 rfl).atD rfl), ((hS.bk 0 rfl).atD rfl), fun hg => (hS.bk 1 rfl).at1 rfl, fun hg => (hS.bk 1 rfl).at1 rfl, trivial⟩ fun _ _ H70 hb => ?_
  replace hS := hS.below hb
  clear H hb
  replace hS : SH M X w [] _ := hS.sel [] rfl
  refine w_if H70 rfl (fun hc => ?c75) (fun hc => ?_)
  case c75 =>
   replace hm := bT hc hm
   refine s_reg [] [2] [(2, [], vI 8)] [] H70 (by kernel_rfl) trivial fun _ _ H72 hb => ?_
   replace hS := hS.below hb
   clear H70 hb
   apply w_ret
   obtain rfl := someE hm
   exact retR1 H72 rfl rfl ⟨_, rfl, rfl, (hS.sel [] rfl)⟩
  replace hm := bF hc hm
  apply w_skip
  refine s_reg [] [2] [(2, [], vI 0)] [] H70 (by kernel_rfl) trivial fun _ _ H74 hb => ?_
  replace hS := hS.below hb
  clear H70 hb
  apply w_ret
  obtain rfl := someE hm
  exact retR1 H74 rfl rfl ⟨_, rfl, rfl, (hS.sel [] rfl)⟩
theorem props_Check_ok  (v_ : TVal) (r : Int) (hm : props_Check v_ = some r) : Ret Tryz.prog 34 ⟨[vG (cV v_)]⟩ (vI r) := retP_of (Tryz.call34 _) (fun w h => props_Check_w F0   v_ r hm w h)

theorem slices_Index_string_string_w {g_s : Gh} (M : Av) (m : Nat) (s : List Str) (v_ : Str) (r : Int) (hm : slices_Index_string_string m s v_ = some r) (w : World) (hS : S0 M [eI tS s g_s] w) : Calls Tryz.prog 62 ⟨[vL g_s s, vS v_]⟩ w (fun e w' => ∃ v, e = .returned v ∧ v = vI r ∧ SH M (fpl [eI tS s g_s]) w [] w') := by
 rw [slices_Index_string_string] at hm
 have hS0 : SH M (fpl [eI tS s g_s]) w [eI tS s g_s] w := hS
 generalize hX : fpl [eI tS s g_s] = X at hS0 ⊢
 clear hS hX
 have hS := hS0
 clear hS0
 refine calls_entryP Tryz.func62 rfl Tryz.ntmps62 rfl fun _ H => ?_
 refine s_reg [] [0, 1] (fS [0, 1] [vL g_s s, vS v_]) [] H (by kernel_rfl) trivial fun _ _ H2 hb => ?_
 replace hS := hS.below hb
 clear H hb
 obtain ⟨z3, hz, hm_z3⟩ := bindE hm
 refine w_cut (fun a' w' => ∃ s_z3 : Unit, z3 = Sum.inr s_z3 ∧ Fr 19 [] a' ∧ SH M X w [eI tS s g_s] w') ?_ ?_
 ·replace hm := hz
  refine s_reg [] [0, 1, 7, 8] (fS [0, 1, 7, 8] [vL g_s s, vS v_, vI (ln s), vI 0]) [] H2 (by kernel_rfl) trivial fun _ _ H5 hb => ?_
  replace hS := hS.below hb
  clear H2 hb
  apply w_block
  refine w_loop (fun kk a' w' => ∃ (v6 : Int), slices_Index_string_string_L1 m s v_ kk v6 = some _ ∧ Fr 19 (fS [0, 1, 7, 8] [vL g_s s, vS v_, vI (ln s), vI v6]) a' ∧ SH M X w [eI tS s g_s] w') ⟨_, 0, hm, FrG.keep (ks := [0, 1, 7, 8]) H5 (by kernel_rfl), hS⟩ ?_
  clear hm H5 hS
  rintro kk _ _ ⟨v6, hm, H, hS⟩
  cases kk with
  | zero => exact noneE hm
  | succ kk =>
   rw [slices_Index_string_string_L1] at hm
   refine s_reg [] [0, 1, 7, 8, 9] (fS [0, 1, 7, 8, 9] [vL g_s s, vS v_, vI (ln s), vI v6, vB (decide (v6 < (ln s)))]) [] H (by kernel_rfl) trivial fun _ _ H8 hb => ?_
   replace hS := hS.below hb
   clear H hb
   apply w_seq
   refine w_if H8 rfl (fun hc => ?_) (fun hc => ?c19)
   case c19 =>
    replace hm := bF hc hm
    apply w_exit rfl
    obtain rfl := someE hm
    exact ⟨_, rfl, FrG.keep (ks := []) H8 (by kernel_rfl), hS⟩
   replace hm := bT hc hm
   apply w_skip
   apply w_seq
   apply w_block
   refine s_reg [] [0, 1, 5, 7, 8] (fS [0, 1, 5, 7, 8] [vL g_s s, vS v_, vI v6, vI (ln s), vI v6]) [] H8 (by kernel_rfl) trivial fun _ _ H10 hb => ?_
   replace hS := hS.below hb
   clear H8 hb
   obtain ⟨ho11, hm⟩ := chkE hm
   refine s_reg [(vS (gi s v6))] [0, 1, 5, 7, 8, 16] (fS [0, 1, 5, 7, 8, 16] [vL g_s s, vS v_, vI v6, vI (ln s), vI v6, vB (v_ == (gi s v6))]) [fun _ => oka g_s.a ∧ 0 ≤ v6 ∧ v6 < ln s, fun wz => V.at1 ⟨ab g_s.a, ao g_s.a + (v6).toNat * 1, none⟩ (vS (gi s v6)) wz] H10 (by kernel_rfl) ⟨((hS.im 0 rfl).oki ho11), ((hS.im 0 rfl).at1 ho11 0 rfl), trivial⟩ fun _ _ H13 hb => ?_
   replace hS := hS.below hb
   clear H10 hb
   refine w_if H13 rfl (fun hc => ?_) (fun hc => ?c18)
   case c18 =>
    replace hm := bF hc hm
    apply w_skip
    refine w_reg [] [0, 1, 7, 8] (fS [0, 1, 7, 8] [vL g_s s, vS v_, vI (ln s), vI (w64 (v6 + 1))]) [] H13 (by kernel_rfl) trivial fun _ _ H17 hb => ?_
    replace hS := hS.below hb
    clear H13 hb
    exact ⟨_, Nat.lt_succ_self _, w64 (v6 + 1), hm, FrG.keep (ks := [0, 1, 7, 8]) H17 (by kernel_rfl), hS⟩
   replace hm := bT hc hm
   refine s_reg [] [4] [(4, [], vI v6)] [] H13 (by kernel_rfl) trivial fun _ _ H15 hb => ?_
   replace hS := hS.below hb
   clear H13 hb
   apply w_ret
   obtain rfl := someE hm
   have hm := hm_z3
   obtain rfl := someE hm
   exact retR1 H15 rfl rfl ⟨_, rfl, rfl, (hS.sel [] rfl)⟩
 ·rintro _ _ ⟨s_z3, hz, H, hS⟩
  subst hz
  replace hm := sumR hm_z3
  replace hS : SH M X w [] _ := hS.sel [] rfl
  refine s_reg [] [4] [(4, [], vI (-1))] [] H (by kernel_rfl) trivial fun _ _ H22 hb => ?_
  replace hS := hS.below hb
  clear H hb
  apply w_ret
  obtain rfl := someE hm
  exact retR1 H22 rfl rfl ⟨_, rfl, rfl, (hS.sel [] rfl)⟩
theorem slices_Index_string_string_ok {g_s : Gh} (m : Nat) (s : List Str) (v_ : Str) (r : Int) (hm : slices_Index_string_string m s v_ = some r) (w : World) (hL : S0 F0 [eI tS s g_s] w ∧ fpl [eI tS s g_s] = []) : RetB Tryz.prog 62 ⟨[vL g_s s, vS v_]⟩ (vI r) w := retB_of hL (Tryz.call62 _) (fun w' h => slices_Index_string_string_w F0 m   s v_ r hm w' h)

theorem slices_Contains_string_string_w {g_s : Gh} (M : Av) (m : Nat) (s : List Str) (v_ : Str) (r : Bool) (hm : slices_Contains_string_string m s v_ = some r) (w : World) (hS : S0 M [eI tS s g_s] w) : Calls Tryz.prog 41 ⟨[vL g_s s, vS v_]⟩ w (fun e w' => ∃ v, e = .returned v ∧ v = vB r ∧ SH M (fpl [eI tS s g_s]) w [] w') := by
 rw [slices_Contains_string_string] at hm
 have hS0 : SH M (fpl [eI tS s g_s]) w [eI tS s g_s] w := hS
 generalize hX : fpl [eI tS s g_s] = X at hS0 ⊢
 clear hS hX
 have hS := hS0
 clear hS0
 refine calls_entryP Tryz.func41 rfl Tryz.ntmps41 rfl fun _ H => ?_
 refine s_reg [] [0, 1] (fS [0, 1] [vL g_s s, vS v_]) [] H (by kernel_rfl) trivial fun _ _ H2 hb => ?_
 replace hS := hS.below hb
 clear H hb
 obtain ⟨y3, hy3, hm⟩ := bindE hm
 refine s_reg [(vI y3)] [4] [(4, [], vB (decide (0 ≤ y3)))] [rB 62 [vL g_s s, vS v_] (vI y3)] H2 (by kernel_rfl) ⟨(slices_Index_string_string_ok (g_s := g_s) m _ _ _ hy3 _ (s0im s0nil (hS.im 0 rfl))), trivial⟩ fun _ _ H5 hb => ?_
 replace hS := hS.below hb
 clear H2 hb
 replace hS : SH M X w [] _ := hS.sel [] rfl
 apply w_ret
 obtain rfl := someE hm
 exact retR1 H5 rfl rfl ⟨_, rfl, rfl, (hS.sel [] rfl)⟩
theorem slices_Contains_string_string_ok {g_s : Gh} (m : Nat) (s : List Str) (v_ : Str) (r : Bool) (hm : slices_Contains_string_string m s v_ = some r) (w : World) (hL : S0 F0 [eI tS s g_s] w ∧ fpl [eI tS s g_s] = []) : RetB Tryz.prog 41 ⟨[vL g_s s, vS v_]⟩ (vB r) w := retB_of hL (Tryz.call41 _) (fun w' h => slices_Contains_string_string_w F0 m   s v_ r hm w' h)

theorem slices_Index_uint8_uint8_w {g_s : Gh} (M : Av) (m : Nat) (s : List Int) (v_ : Int) (r : Int) (hm : slices_Index_uint8_uint8 m s v_ = some r) (w : World) (hS : S0 M [eI (tI .u8) s g_s] w) : Calls Tryz.prog 63 ⟨[vL g_s s, vU v_]⟩ w (fun e w' => ∃ v, e = .returned v ∧ v = vI r ∧ SH M (fpl [eI (tI .u8) s g_s]) w [] w') := by
 rw [slices_Index_uint8_uint8] at hm
 have hS0 : SH M (fpl [eI (tI .u8) s g_s]) w [eI (tI .u8) s g_s] w := hS
 generalize hX : fpl [eI (tI .u8) s g_s] = X at hS0 ⊢
 clear hS hX
 have hS := hS0
 clear hS0
 refine calls_entryP Tryz.func63 rfl Tryz.ntmps63 rfl fun _ H => ?_
 refine s_reg [] [0, 1] (fS [0, 1] [vL g_s s, vU v_]) [] H (by kernel_rfl) trivial fun _ _ H2 hb => ?_
 replace hS := hS.below hb
 clear H hb
 obtain ⟨z3, hz, hm_z3⟩ := bindE hm
 refine w_cut (fun a' w' => ∃ s_z3 : Unit, z3 = Sum.inr s_z3 ∧ Fr 19 [] a' ∧ SH M X w [eI (tI .u8) s g_s] w') ?_ ?_
 ·replace hm := hz
  refine s_reg [] [0, 1, 7, 8] (fS [0, 1, 7, 8] [vL g_s s, vU v_, vI (ln s), vI 0]) [] H2 (by kernel_rfl) trivial fun _ _ H5 hb => ?_
  replace hS := hS.below hb
  clear H2 hb
  apply w_block
  refine w_loop (fun kk a' w' => ∃ (v6 : Int), slices_Index_uint8_uint8_L1 m s v_ kk v6 = some _ ∧ Fr 19 (fS [0, 1, 7, 8] [vL g_s s, vU v_, vI (ln s), vI v6]) a' ∧ SH M X w [eI (tI .u8) s g_s] w') ⟨_, 0, hm, FrG.keep (ks := [0, 1, 7, 8]) H5 (by kernel_rfl), hS⟩ ?_
  clear hm H5 hS
  rintro kk _ _ ⟨v6, hm, H, hS⟩
  cases kk with
  | zero => exact noneE hm
  | succ kk =>
   rw [slices_Index_uint8_uint8_L1] at hm
   refine s_reg [] [0, 1, 7, 8, 9] (fS [0, 1, 7, 8, 9] [vL g_s s, vU v_, vI (ln s), vI v6, vB (decide (v6 < (ln s)))]) [] H (by kernel_rfl) trivial fun _ _ H8 hb => ?_
   replace hS := hS.below hb
   clear H hb
   apply w_seq
   refine w_if H8 rfl (fun hc => ?_) (fun hc => ?c19)
   case c19 =>
    replace hm := bF hc hm
    apply w_exit rfl
    obtain rfl := someE hm
    exact ⟨_, rfl, FrG.keep (ks := []) H8 (by kernel_rfl), hS⟩
   replace hm := bT hc hm
   apply w_skip
   apply w_seq
   apply w_block
   refine s_reg [] [0, 1, 5, 7, 8] (fS [0, 1, 5, 7, 8] [vL g_s s, vU v_, vI v6, vI (ln s), vI v6]) [] H8 (by kernel_rfl) trivial fun _ _ H10 hb => ?_
   replace hS := hS.below hb
   clear H8 hb
   obtain ⟨ho11, hm⟩ := chkE hm
   refine s_reg [(vU (gi s v6))] [0, 1, 5, 7, 8, 16] (fS [0, 1, 5, 7, 8, 16] [vL g_s s, vU v_, vI v6, vI (ln s), vI v6, vB (v_ == (gi s v6))]) [fun _ => oka g_s.a ∧ 0 ≤ v6 ∧ v6 < ln s, fun wz => V.at1 ⟨ab g_s.a, ao g_s.a + (v6).toNat * 1, none⟩ (vU (gi s v6)) wz] H10 (by kernel_rfl) ⟨((hS.im 0 rfl).oki ho11), ((hS.im 0 rfl).at1 ho11 0 rfl), trivial⟩ fun _ _ H13 hb => ?_
   replace hS := hS.below hb
   clear H10 hb
   refine w_if H13 rfl (fun hc => ?_) (fun hc => ?c18)
   case c18 =>
    replace hm := bF hc hm
    apply w_skip
    refine w_reg [] [0, 1, 7, 8] (fS [0, 1, 7, 8] [vL g_s s, vU v_, vI (ln s), vI (w64 (v6 + 1))]) [] H13 (by kernel_rfl) trivial fun _ _ H17 hb => ?_
    replace hS := hS.below hb
    clear H13 hb
    exact ⟨_, Nat.lt_succ_self _, w64 (v6 + 1), hm, FrG.keep (ks := [0, 1, 7, 8]) H17 (by kernel_rfl), hS⟩
   replace hm := bT hc hm
   refine s_reg [] [4] [(4, [], vI v6)] [] H13 (by kernel_rfl) trivial fun _ _ H15 hb => ?_
   replace hS := hS.below hb
   clear H13 hb
   apply w_ret
   obtain rfl := someE hm
   have hm := hm_z3
   obtain rfl := someE hm
   exact retR1 H15 rfl rfl ⟨_, rfl, rfl, (hS.sel [] rfl)⟩
 ·rintro _ _ ⟨s_z3, hz, H, hS⟩
  subst hz
  replace hm := sumR hm_z3
  replace hS : SH M X w [] _ := hS.sel [] rfl
  refine s_reg [] [4] [(4, [], vI (-1))] [] H (by kernel_rfl) trivial fun _ _ H22 hb => ?_
  replace hS := hS.below hb
  clear H hb
  apply w_ret
  obtain rfl := someE hm
  exact retR1 H22 rfl rfl ⟨_, rfl, rfl, (hS.sel [] rfl)⟩
theorem slices_Index_uint8_uint8_ok {g_s : Gh} (m : Nat) (s : List Int) (v_ : Int) (r : Int) (hm : slices_Index_uint8_uint8 m s v_ = some r) (w : World) (hL : S0 F0 [eI (tI .u8) s g_s] w ∧ fpl [eI (tI .u8) s g_s] = []) : RetB Tryz.prog 63 ⟨[vL g_s s, vU v_]⟩ (vI r) w := retB_of hL (Tryz.call63 _) (fun w' h => slices_Index_uint8_uint8_w F0 m   s v_ r hm w' h)

theorem slices_Contains_uint8_uint8_w {g_s : Gh} (M : Av) (m : Nat) (s : List Int) (v_ : Int) (r : Bool) (hm : slices_Contains_uint8_uint8 m s v_ = some r) (w : World) (hS : S0 M [eI (tI .u8) s g_s] w) : Calls Tryz.prog 42 ⟨[vL g_s s, vU v_]⟩ w (fun e w' => ∃ v, e = .returned v ∧ v = vB r ∧ SH M (fpl [eI (tI .u8) s g_s]) w [] w') := by
 rw [slices_Contains_uint8_uint8] at hm
 have hS0 : SH M (fpl [eI (tI .u8) s g_s]) w [eI (tI .u8) s g_s] w := hS
 generalize hX : fpl [eI (tI .u8) s g_s] = X at hS0 ⊢
 clear hS hX
 have hS := hS0
 clear hS0
 refine calls_entryP Tryz.func42 rfl Tryz.ntmps42 rfl fun _ H => ?_
 refine s_reg [] [0, 1] (fS [0, 1] [vL g_s s, vU v_]) [] H (by kernel_rfl) trivial fun _ _ H2 hb => ?_
 replace hS := hS.below hb
 clear H hb
 obtain ⟨y3, hy3, hm⟩ := bindE hm
 refine s_reg [(vI y3)] [4] [(4, [], vB (decide (0 ≤ y3)))] [rB 63 [vL g_s s, vU v_] (vI y3)] H2 (by kernel_rfl) ⟨(slices_Index_uint8_uint8_ok (g_s := g_s) m _ _ _ hy3 _ (s0im s0nil (hS.im 0 rfl))), trivial⟩ fun _ _ H5 hb => ?_
 replace hS := hS.below hb
 clear H2 hb
 replace hS : SH M X w [] _ := hS.sel [] rfl
 apply w_ret
 obtain rfl := someE hm
 exact retR1 H5 rfl rfl ⟨_, rfl, rfl, (hS.sel [] rfl)⟩
theorem slices_Contains_uint8_uint8_ok {g_s : Gh} (m : Nat) (s : List Int) (v_ : Int) (r : Bool) (hm : slices_Contains_uint8_uint8 m s v_ = some r) (w : World) (hL : S0 F0 [eI (tI .u8) s g_s] w ∧ fpl [eI (tI .u8) s g_s] = []) : RetB Tryz.prog 42 ⟨[vL g_s s, vU v_]⟩ (vB r) w := retB_of hL (Tryz.call42 _) (fun w' h => slices_Contains_uint8_uint8_w F0 m   s v_ r hm w' h)

theorem props_Has_w  (M : Av) (m : Nat) (prop : Int) (v_ : TVal) (r : Bool × Int) (hm : props_Has m prop v_ = some r) (w : World) (hS : S0 M [gE1] w) : Calls Tryz.prog 24 ⟨[vI prop, vG (cV v_)]⟩ w (fun e w' => ∃ v, e = .returned v ∧ v = vW [vB r.1, vI r.2] ∧ SH M (fpl [gE1]) w [] w') := by
 rw [props_Has] at hm
 have hS0 : SH M (fpl [gE1]) w [gE1] w := hS
 generalize hX : fpl [gE1] = X at hS0 ⊢
 clear hS hX
 have hS := hS0
 clear hS0
 refine calls_entryP Tryz.func24 rfl Tryz.ntmps24 rfl fun _ H => ?_
 apply w_seq
 apply wl_start
 have hd := hS.hand [] [0] rfl rfl
 refine m_stp [3, 0] [(0, [], vI prop)] H rfl rfl rfl rfl (o_box (cV v_) H hd rfl rfl) (fun _ => rfl) fun _ _ v H3 hq => ?_
 clear H hd
 obtain ⟨b1, rfl, hq⟩ := hq
 replace hS : SH M X w [eB b1 (cV v_), gE1] _ := hS.join [] [0] rfl rfl hq
 clear hq
 refine wl_batch 1 3 [] [0, 3] (fS [0, 3] [vI prop, vP b1]) [] H3 (by decide) (by kernel_rfl) trivial fun _ _ H5 hb => ?_
 replace hS := hS.below hb
 clear H3 hb
 apply wl_end rfl
 apply w_seq
 obtain ⟨x6, hx6, hm⟩ := letE hm
 refine s_reg [] [0, 3, 12] (fS [0, 3, 12] [vI prop, vP b1, vB x6]) [] H5 (by subst hx6; kernel_rfl) trivial fun _ _ H8 hb => ?_
 replace hS := hS.below hb
 clear H5 hb
 refine w_if H8 rfl (fun hc => ?c40) (fun hc => ?_)
 case c40 =>
  replace hm := bT hc hm
  refine s_reg [] [4, 5] (fS [4, 5] [vF, vI 2]) [] H8 (by kernel_rfl) trivial fun _ _ H10 hb => ?_
  replace hS := hS.below hb
  clear H8 hb
  replace hS : SH M X w [gE1] _ := hS.sel [1] rfl
  apply w_ret
  obtain rfl := someE hm
  exact retR2 H10 rfl rfl rfl ⟨_, rfl, rfl, (hS.sel [] rfl)⟩
 replace hm := bF hc hm
 apply w_skip
 apply w_seq
 apply wl_start
 obtain ⟨y11, hy11, hm⟩ := bindE hm
 have hd := hS.hand [1] [0, 1] rfl rfl
 refine m_stp [13, 0, 3] (fS [0, 3] [vI prop, vP b1]) H8 rfl rfl rfl rfl (o_callx H8 rfl rfl (props_Table_ok m _ hy11 _ _ hd)) (fun _ => rfl) fun _ _ v H15 hq => ?_
 clear H8 hd
 obtain ⟨g12, rfl, hq⟩ := hq
 replace hS : SH M X w [eO 82 tyProp y11 g12, eB b1 (cV v_), gE1] _ := hS.join [1] [0, 1] rfl rfl hq
 clear hq
 obtain ⟨ho16, hm⟩ := chkE hm
 refine wl_batch 1 4 [(vG [vS (gi y11 prop).Name, vB ((gi y11 prop).Inherited), vU ((gi y11 prop).Initial.Kind), vS (gi y11 prop).Initial.Word, vI ((gi y11 prop).Initial.Num), vU ((gi y11 prop).Initial.Color.Red), vU ((gi y11 prop).Initial.Color.Green), vU ((gi y11 prop).Initial.Color.Blue), vU ((gi y11 prop).Initial.Color.Alpha), .slice (g12.s (prop).toNat 0).a (((gi y11 prop).Words).length) (g12.s (prop).toNat 0).c, .slice (g12.s (prop).toNat 1).a (((gi y11 prop).Kinds).length) (g12.s (prop).toNat 1).c, vB ((gi y11 prop).Least)])] [3, 16] (fS [3, 16] [vP b1, vG [vS (gi y11 prop).Name, vB ((gi y11 prop).Inherited), vU ((gi y11 prop).Initial.Kind), vS (gi y11 prop).Initial.Word, vI ((gi y11 prop).Initial.Num), vU ((gi y11 prop).Initial.Color.Red), vU ((gi y11 prop).Initial.Color.Green), vU ((gi y11 prop).Initial.Color.Blue), vU ((gi y11 prop).Initial.Color.Alpha), .slice (g12.s (prop).toNat 0).a (((gi y11 prop).Words).length) (g12.s (prop).toNat 0).c, .slice (g12.s (prop).toNat 1).a (((gi y11 prop).Kinds).length) (g12.s (prop).toNat 1).c, vB ((gi y11 prop).Least)]]) [fun _ => oka g12.a ∧ 0 ≤ prop ∧ prop < ln y11, fun wz => V.atN (ab g12.a) (ao g12.a + (prop).toNat * 12) [vS (gi y11 prop).Name, vB ((gi y11 prop).Inherited), vU ((gi y11 prop).Initial.Kind), vS (gi y11 prop).Initial.Word, vI ((gi y11 prop).Initial.Num), vU ((gi y11 prop).Initial.Color.Red), vU ((gi y11 prop).Initial.Color.Green), vU ((gi y11 prop).Initial.Color.Blue), vU ((gi y11 prop).Initial.Color.Alpha), .slice (g12.s (prop).toNat 0).a (((gi y11 prop).Words).length) (g12.s (prop).toNat 0).c, .slice (g12.s (prop).toNat 1).a (((gi y11 prop).Kinds).length) (g12.s (prop).toNat 1).c, vB ((gi y11 prop).Least)] 0 wz] H15 (by decide) (by kernel_rfl) ⟨((hS.osl 0 rfl).oki ho16), ((hS.osl 0 rfl).atA ho16 0 rfl), trivial⟩ fun _ _ H18 hb => ?_
 replace hS := hS.below hb
 clear H15 hb
 have hd := hS.hand [] [0, 1, 2] rfl rfl
 refine m_stp [6, 3, 16] (fS [3, 16] [vP b1, vG [vS (gi y11 prop).Name, vB ((gi y11 prop).Inherited), vU ((gi y11 prop).Initial.Kind), vS (gi y11 prop).Initial.Word, vI ((gi y11 prop).Initial.Num), vU ((gi y11 prop).Initial.Color.Red), vU ((gi y11 prop).Initial.Color.Green), vU ((gi y11 prop).Initial.Color.Blue), vU ((gi y11 prop).Initial.Color.Alpha), .slice (g12.s (prop).toNat 0).a (((gi y11 prop).Words).length) (g12.s (prop).toNat 0).c, .slice (g12.s (prop).toNat 1).a (((gi y11 prop).Kinds).length) (g12.s (prop).toNat 1).c, vB ((gi y11 prop).Least)]]) H18 rfl rfl rfl rfl (o_alloc [vN, vF, vU 0, vN, vI 0, vU 0, vU 0, vU 0, vU 0, vO, vO, vF] (z := vG [vN, vF, vU 0, vN, vI 0, vU 0, vU 0, vU 0, vU 0, vO, vO, vF]) hd (by kernel_rfl) rfl) (fun _ => rfl) fun _ _ v H21 hq => ?_
 clear H18 hd
 obtain ⟨b19, rfl, hq⟩ := hq
 replace hS : SH M X w [eB b19 [vN, vF, vU 0, vN, vI 0, vU 0, vU 0, vU 0, vU 0, vO, vO, vF], eO 82 tyProp y11 g12, eB b1 (cV v_), gE1] _ := hS.join [] [0, 1, 2] rfl rfl hq
 clear hq
 have hd := hS.hand [0] [1, 2, 3] rfl rfl
 refine m_stp0 [3, 6] (fS [3, 6] [vP b1, vP b19]) H21 rfl rfl rfl (o_store [vS (gi y11 prop).Name, vB ((gi y11 prop).Inherited), vU ((gi y11 prop).Initial.Kind), vS (gi y11 prop).Initial.Word, vI ((gi y11 prop).Initial.Num), vU ((gi y11 prop).Initial.Color.Red), vU ((gi y11 prop).Initial.Color.Green), vU ((gi y11 prop).Initial.Color.Blue), vU ((gi y11 prop).Initial.Color.Alpha), .slice (g12.s (prop).toNat 0).a (((gi y11 prop).Words).length) (g12.s (prop).toNat 0).c, .slice (g12.s (prop).toNat 1).a (((gi y11 prop).Kinds).length) (g12.s (prop).toNat 1).c, vB ((gi y11 prop).Least)] H21 hd rfl rfl (by kernel_rfl) rfl rfl rfl) rfl fun _ _ H23 hq => ?_
 clear H21 hd
 obtain ⟨_, hq⟩ := hq
 replace hS : SH M X w [eB b19 [vS (gi y11 prop).Name, vB ((gi y11 prop).Inherited), vU ((gi y11 prop).Initial.Kind), vS (gi y11 prop).Initial.Word, vI ((gi y11 prop).Initial.Num), vU ((gi y11 prop).Initial.Color.Red), vU ((gi y11 prop).Initial.Color.Green), vU ((gi y11 prop).Initial.Color.Blue), vU ((gi y11 prop).Initial.Color.Alpha), .slice (g12.s (prop).toNat 0).a (((gi y11 prop).Words).length) (g12.s (prop).toNat 0).c, .slice (g12.s (prop).toNat 1).a (((gi y11 prop).Kinds).length) (g12.s (prop).toNat 1).c, vB ((gi y11 prop).Least)], eO 82 tyProp y11 g12, eB b1 (cV v_), gE1] _ := hS.join [0] [1, 2, 3] rfl rfl hq
 clear hq
 apply wl_end rfl
 apply w_seq
 apply w_block
 obtain ⟨y24, hy24, hm⟩ := bindE hm
 refine s_reg [(vG (cV v_)), (vI y24)] [3, 6, 17] (fS [3, 6, 17] [vP b1, vP b19, vB (y24 != 0)]) [rN b1 0 (cV v_), rB 34 [vG (cV v_)] (vI y24)] H23 (by kernel_rfl) ⟨((hS.bk 2 rfl).atD rfl), ((props_Check_ok _ _ hy24).b), trivial⟩ fun _ _ H26 hb => ?_
 replace hS := hS.below hb
 clear H23 hb
 refine w_if H26 rfl (fun hc => ?c39) (fun hc => ?_)
 case c39 =>
  replace hm := bT hc hm
  refine s_reg [] [4, 5] (fS [4, 5] [vF, vI 0]) [] H26 (by kernel_rfl) trivial fun _ _ H28 hb => ?_
  replace hS := hS.below hb
  clear H26 hb
  replace hS : SH M X w [gE1] _ := hS.sel [3] rfl
  apply w_ret
  obtain rfl := someE hm
  exact retR2 H28 rfl rfl rfl ⟨_, rfl, rfl, (hS.sel [] rfl)⟩
 replace hm := bF hc hm
 refine s_reg [(vU v_.Kind)] [3, 6, 21] (fS [3, 6, 21] [vP b1, vP b19, vB (v_.Kind == 1)]) [rA b1 0 (vU v_.Kind)] H26 (by kernel_rfl) ⟨((hS.bk 2 rfl).at1 rfl), trivial⟩ fun _ _ H30 hb => ?_
 replace hS := hS.below hb
 clear H26 hb
 refine w_if H30 rfl (fun hc => ?c38) (fun hc => ?_)
 case c38 =>
  replace hm := bT hc hm
  obtain ⟨y31, hy31, hm⟩ := bindE hm
  refine s_reg [(.slice (g12.s (prop).toNat 0).a (((gi y11 prop).Words).length) (g12.s (prop).toNat 0).c), (vS v_.Word), (vB y31)] [4, 5] (fS [4, 5] [vB y31, vI 0]) [fun wz => V.at1 ⟨b19, 9, none⟩ (.slice (g12.s (prop).toNat 0).a (((gi y11 prop).Words).length) (g12.s (prop).toNat 0).c) wz, rA b1 1 (vS v_.Word), rB 41 [.slice (g12.s (prop).toNat 0).a (((gi y11 prop).Words).length) (g12.s (prop).toNat 0).c, vS v_.Word] (vB y31)] H30 (by kernel_rfl) ⟨((hS.bk 0 rfl).at1 rfl), ((hS.bk 2 rfl).at1 rfl), (slices_Contains_string_string_ok (g_s := (g12.s (prop).toNat 0)) m _ _ _ hy31 _ (s0im s0nil (tyProp_i0 ((hS.osl 1 rfl).el ho16)))), trivial⟩ fun _ _ H33 hb => ?_
  replace hS := hS.below hb
  clear H30 hb
  replace hS : SH M X w [gE1] _ := hS.sel [3] rfl
  apply w_ret
  obtain rfl := someE hm
  exact retR2 H33 rfl rfl rfl ⟨_, rfl, rfl, (hS.sel [] rfl)⟩
 replace hm := bF hc hm
 apply w_skip
 obtain ⟨y34, hy34, hm⟩ := bindE hm
 obtain ⟨x35, hx35, hm⟩ := letE hm
 refine s_reg [(.slice (g12.s (prop).toNat 1).a (((gi y11 prop).Kinds).length) (g12.s (prop).toNat 1).c), (vU v_.Kind), (vB y34), (vB ((gi y11 prop).Least)), (vI v_.Num)] [4, 5] (fS [4, 5] [vB x35, vI 0]) [fun wz => V.at1 ⟨b19, 10, none⟩ (.slice (g12.s (prop).toNat 1).a (((gi y11 prop).Kinds).length) (g12.s (prop).toNat 1).c) wz, rA b1 0 (vU v_.Kind), rB 42 [.slice (g12.s (prop).toNat 1).a (((gi y11 prop).Kinds).length) (g12.s (prop).toNat 1).c, vU v_.Kind] (vB y34), fun wz => (y34 = true ∧ True → V.at1 ⟨b19, 11, none⟩ (vB ((gi y11 prop).Least)) wz), fun wz => ((!((gi y11 prop).Least)) = false ∧ y34 = true ∧ True → V.at1 ⟨b1, 2, none⟩ (vI v_.Num) wz)] H30 (by subst hx35; kernel_rfl) ⟨((hS.bk 0 rfl).at1 rfl), ((hS.bk 2 rfl).at1 rfl), (slices_Contains_uint8_uint8_ok (g_s := (g12.s (prop).toNat 1)) m _ _ _ hy34 _ (s0im s0nil (tyProp_i1 ((hS.osl 1 rfl).el ho16)))), fun hg => (hS.bk 0 rfl).at1 rfl, fun hg => (hS.bk 2 rfl).at1 rfl, trivial⟩ fun _ _ H37 hb => ?_
 replace hS := hS.below hb
 clear H30 hb
 replace hS : SH M X w [gE1] _ := hS.sel [3] rfl
 apply w_ret
 obtain rfl := someE hm
 exact retR2 H37 rfl rfl rfl ⟨_, rfl, rfl, (hS.sel [] rfl)⟩
theorem props_Has_ok  (m : Nat) (prop : Int) (v_ : TVal) (r : Bool × Int) (hm : props_Has m prop v_ = some r) (w : World) (hL : S0 F0 [gE1] w ∧ fpl [gE1] = []) : RetB Tryz.prog 24 ⟨[vI prop, vG (cV v_)]⟩ (vW [vB r.1, vI r.2]) w := retB_of hL (Tryz.call24 _) (fun w' h => props_Has_w F0 m   prop v_ r hm w' h)

theorem parseval_Parse_w {g_l_ : Gh} (M : Av) (m : Nat) (prop : Int) (l_ : List TValue) (r : TVal × Int) (hm : parseval_Parse m prop l_ = some r) (w : World) (hS : S0 M [eI tyValue l_ g_l_, gE1] w) : Calls Tryz.prog 10 ⟨[vI prop, vL g_l_ l_]⟩ w (fun e w' => ∃ v, e = .returned v ∧ v = vW [vG (cV r.1), vI r.2] ∧ SH M (fpl [eI tyValue l_ g_l_, gE1]) w [] w') := by
 rw [parseval_Parse] at hm
 have hS0 : SH M (fpl [eI tyValue l_ g_l_, gE1]) w [eI tyValue l_ g_l_, gE1] w := hS
 generalize hX : fpl [eI tyValue l_ g_l_, gE1] = X at hS0 ⊢
 clear hS hX
 have hS := hS0
 clear hS0
 refine calls_entryP Tryz.func10 rfl Tryz.ntmps10 rfl fun _ H => ?_
 apply w_seq
 apply wl_start
 have hd := hS.hand [] [0, 1] rfl rfl
 refine m_stp [4, 0, 1] (fS [0, 1] [vI prop, vL g_l_ l_]) H rfl rfl rfl rfl (o_alloc [vU 0, vN, vI 0, vU 0, vU 0, vU 0, vU 0] (z := vG [vU 0, vN, vI 0, vU 0, vU 0, vU 0, vU 0]) hd (by kernel_rfl) rfl) (fun _ => rfl) fun _ _ v H3 hq => ?_
 clear H hd
 obtain ⟨b1, rfl, hq⟩ := hq
 replace hS : SH M X w [eB b1 [vU 0, vN, vI 0, vU 0, vU 0, vU 0, vU 0], eI tyValue l_ g_l_, gE1] _ := hS.join [] [0, 1] rfl rfl hq
 clear hq
 refine wl_batch 1 2 [] [0, 1, 4] (fS [0, 1, 4] [vI prop, vL g_l_ l_, vP b1]) [] H3 (by decide) (by kernel_rfl) trivial fun _ _ H5 hb => ?_
 replace hS := hS.below hb
 clear H3 hb
 apply wl_end rfl
 apply w_seq
 obtain ⟨x6, hx6, hm⟩ := letE hm
 refine s_reg [] [0, 1, 4, 15] (fS [0, 1, 4, 15] [vI prop, vL g_l_ l_, vP b1, vB x6]) [] H5 (by subst hx6; kernel_rfl) trivial fun _ _ H8 hb => ?_
 replace hS := hS.below hb
 clear H5 hb
 refine w_if H8 rfl (fun hc => ?c70) (fun hc => ?_)
 case c70 =>
  replace hm := bT hc hm
  apply w_seq
  apply wl_start
  refine wl_batch 0 1 [] [4, 16] (fS [4, 16] [vP b1, vG [vU 0, vN, vI 0, vU 0, vU 0, vU 0, vU 0]]) [] H8 (by decide) (by kernel_rfl) trivial fun _ _ H10 hb => ?_
  replace hS := hS.below hb
  clear H8 hb
  have hd := hS.hand [0] [1, 2] rfl rfl
  refine m_stp0 [4] [(4, [], vP b1)] H10 rfl rfl rfl (o_store [vU 0, vN, vI 0, vU 0, vU 0, vU 0, vU 0] H10 hd rfl rfl (by kernel_rfl) rfl rfl rfl) rfl fun _ _ H12 hq => ?_
  clear H10 hd
  obtain ⟨_, hq⟩ := hq
  replace hS : SH M X w [eB b1 [vU 0, vN, vI 0, vU 0, vU 0, vU 0, vU 0], eI tyValue l_ g_l_, gE1] _ := hS.join [0] [1, 2] rfl rfl hq
  clear hq
  refine wl_batch 2 3 [] [4, 5] (fS [4, 5] [vP b1, vI 2]) [] H12 (by decide) (by kernel_rfl) trivial fun _ _ H14 hb => ?_
  replace hS := hS.below hb
  clear H12 hb
  apply wl_end rfl
  replace hS : SH M X w [eB b1 [vU 0, vN, vI 0, vU 0, vU 0, vU 0, vU 0], gE1] _ := hS.sel [0, 2] rfl
  apply w_ret
  obtain rfl := someE hm
  exact retR2 H14 rfl (oneRes_agg rfl (hS.bk 0 rfl) Tryz.underlying28 rfl (by kernel_rfl)) rfl ⟨_, rfl, rfl, (hS.sel [] rfl)⟩
 replace hm := bF hc hm
 apply w_skip
 apply w_seq
 refine s_reg [] [0, 1, 4, 19] (fS [0, 1, 4, 19] [vI prop, vL g_l_ l_, vP b1, vB ((ln l_) != 1)]) [] H8 (by kernel_rfl) trivial fun _ _ H16 hb => ?_
 replace hS := hS.below hb
 clear H8 hb
 refine w_if H16 rfl (fun hc => ?c69) (fun hc => ?_)
 case c69 =>
  replace hm := bT hc hm
  apply w_seq
  apply wl_start
  refine wl_batch 0 1 [] [4, 20] (fS [4, 20] [vP b1, vG [vU 0, vN, vI 0, vU 0, vU 0, vU 0, vU 0]]) [] H16 (by decide) (by kernel_rfl) trivial fun _ _ H18 hb => ?_
  replace hS := hS.below hb
  clear H16 hb
  have hd := hS.hand [0] [1, 2] rfl rfl
  refine m_stp0 [4] [(4, [], vP b1)] H18 rfl rfl rfl (o_store [vU 0, vN, vI 0, vU 0, vU 0, vU 0, vU 0] H18 hd rfl rfl (by kernel_rfl) rfl rfl rfl) rfl fun _ _ H20 hq => ?_
  clear H18 hd
  obtain ⟨_, hq⟩ := hq
  replace hS : SH M X w [eB b1 [vU 0, vN, vI 0, vU 0, vU 0, vU 0, vU 0], eI tyValue l_ g_l_, gE1] _ := hS.join [0] [1, 2] rfl rfl hq
  clear hq
  refine wl_batch 2 3 [] [4, 5] (fS [4, 5] [vP b1, vI 12]) [] H20 (by decide) (by kernel_rfl) trivial fun _ _ H22 hb => ?_
  replace hS := hS.below hb
  clear H20 hb
  apply wl_end rfl
  replace hS : SH M X w [eB b1 [vU 0, vN, vI 0, vU 0, vU 0, vU 0, vU 0], gE1] _ := hS.sel [0, 2] rfl
  apply w_ret
  obtain rfl := someE hm
  exact retR2 H22 rfl (oneRes_agg rfl (hS.bk 0 rfl) Tryz.underlying28 rfl (by kernel_rfl)) rfl ⟨_, rfl, rfl, (hS.sel [] rfl)⟩
 replace hm := bF hc hm
 apply w_skip
 obtain ⟨z23, hz, hm_z23⟩ := bindE hm
 refine w_cut (fun a' w' => ∃ s_z23 : Unit, z23 = Sum.inr s_z23 ∧ Fr 40 [(4, [], vP b1)] a' ∧ SH M X w [eB b1 [vU 0, vN, vI 0, vU 0, vU 0, vU 0, vU 0], eI tyValue l_ g_l_, gE1] w') ?_ ?_
 ·replace hm := hz
  apply w_seq
  apply wl_start
  obtain ⟨ho24, hm⟩ := chkE hm
  refine wl_batch 0 3 [(vG [vU ((gi l_ (0 : Int)).Token.Kind), vS (gi l_ (0 : Int)).Token.Text, vI ((gi l_ (0 : Int)).Token.Num), vS (gi l_ (0 : Int)).Token.Unit, vB ((gi l_ (0 : Int)).Token.Flag), .slice (g_l_.s ((0 : Int)).toNat 0).a (((gi l_ (0 : Int)).List_).length) (g_l_.s ((0 : Int)).toNat 0).c])] [0, 4, 23] (fS [0, 4, 23] [vI prop, vP b1, vG [vU ((gi l_ (0 : Int)).Token.Kind), vS (gi l_ (0 : Int)).Token.Text, vI ((gi l_ (0 : Int)).Token.Num), vS (gi l_ (0 : Int)).Token.Unit, vB ((gi l_ (0 : Int)).Token.Flag), .slice (g_l_.s ((0 : Int)).toNat 0).a (((gi l_ (0 : Int)).List_).length) (g_l_.s ((0 : Int)).toNat 0).c]]) [fun _ => oka g_l_.a ∧ 0 ≤ (0 : Int) ∧ (0 : Int) < ln l_, fun wz => V.atN (ab g_l_.a) (ao g_l_.a + ((0 : Int)).toNat * 6) [vU ((gi l_ (0 : Int)).Token.Kind), vS (gi l_ (0 : Int)).Token.Text, vI ((gi l_ (0 : Int)).Token.Num), vS (gi l_ (0 : Int)).Token.Unit, vB ((gi l_ (0 : Int)).Token.Flag), .slice (g_l_.s ((0 : Int)).toNat 0).a (((gi l_ (0 : Int)).List_).length) (g_l_.s ((0 : Int)).toNat 0).c] 0 wz] H16 (by decide) (by kernel_rfl) ⟨((hS.im 1 rfl).oki ho24), ((hS.im 1 rfl).atA ho24 0 rfl), trivial⟩ fun _ _ H26 hb => ?_
  replace hS := hS.below hb
  clear H16 hb
  replace hS : SH M X w [eI tyValue ((gi l_ (0 : Int)).List_) (g_l_.s ((0 : Int)).toNat 0), eB b1 [vU 0, vN, vI 0, vU 0, vU 0, vU 0, vU 0], eI tyValue l_ g_l_, gE1] _ := hS.addIm (tyValue_i0 ((hS.im 1 rfl).el ho24))
  obtain ⟨y28, hy28, hm⟩ := bindE hm
  have hd := hS.hand [0] [0, 1, 2, 3] rfl rfl
  refine m_stp [24, 0, 4] (fS [0, 4] [vI prop, vP b1]) H26 rfl rfl rfl rfl (o_callx H26 rfl rfl (parseval_maybe_ok (g_v__0 := (g_l_.s ((0 : Int)).toNat 0)) m _ _ hy28 _ _ hd)) (fun _ => rfl) fun _ _ v H32 hq => ?_
  clear H26 hd
  obtain ⟨g29, rfl, hq⟩ := hq
  replace hS : SH M X w [eO 28 tyVal y28 g29, eI tyValue ((gi l_ (0 : Int)).List_) (g_l_.s ((0 : Int)).toNat 0), eB b1 [vU 0, vN, vI 0, vU 0, vU 0, vU 0, vU 0], eI tyValue l_ g_l_, gE1] _ := hS.join [0] [0, 1, 2, 3] rfl rfl hq
  clear hq
  refine wl_batch 4 6 [] [0, 4, 24, 25, 26] (fS [0, 4, 24, 25, 26] [vI prop, vP b1, vL g29 y28, vI (ln y28), vI 0]) [] H32 (by decide) (by kernel_rfl) trivial fun _ _ H34 hb => ?_
  replace hS := hS.below hb
  clear H32 hb
  apply wl_end rfl
  replace hS : SH M X w [eO 28 tyVal y28 g29, eB b1 [vU 0, vN, vI 0, vU 0, vU 0, vU 0, vU 0], eI tyValue l_ g_l_, gE1] _ := hS.sel [0, 2, 3, 4] rfl
  apply w_block
  refine w_loop (fun kk a' w' => ∃ (v35 : Int), parseval_Parse_L1 m prop y28 kk v35 = some _ ∧ Fr 40 (fS [0, 4, 24, 25, 26] [vI prop, vP b1, vL g29 y28, vI (ln y28), vI v35]) a' ∧ SH M X w [eO 28 tyVal y28 g29, eB b1 [vU 0, vN, vI 0, vU 0, vU 0, vU 0, vU 0], eI tyValue l_ g_l_, gE1] w') ⟨_, 0, hm, FrG.keep (ks := [0, 4, 24, 25, 26]) H34 (by kernel_rfl), hS⟩ ?_
  clear hm H34 hS
  rintro kk _ _ ⟨v35, hm, H, hS⟩
  cases kk with
  | zero => exact noneE hm
  | succ kk =>
   rw [parseval_Parse_L1] at hm
   refine s_reg [] [0, 4, 24, 25, 26, 27] (fS [0, 4, 24, 25, 26, 27] [vI prop, vP b1, vL g29 y28, vI (ln y28), vI v35, vB (decide (v35 < (ln y28)))]) [] H (by kernel_rfl) trivial fun _ _ H37 hb => ?_
   replace hS := hS.below hb
   clear H hb
   apply w_seq
   refine w_if H37 rfl (fun hc => ?_) (fun hc => ?c60)
   case c60 =>
    replace hm := bF hc hm
    apply w_exit rfl
    obtain rfl := someE hm
    replace hS : SH M X w [eB b1 [vU 0, vN, vI 0, vU 0, vU 0, vU 0, vU 0], eI tyValue l_ g_l_, gE1] _ := hS.sel [1, 2, 3] rfl
    exact ⟨_, rfl, FrG.keep (ks := [4]) H37 (by kernel_rfl), hS⟩
   replace hm := bT hc hm
   apply w_skip
   apply w_seq
   apply w_block
   apply w_seq
   apply wl_start
   obtain ⟨ho38, hm⟩ := chkE hm
   refine wl_batch 0 2 [(vG [vU ((gi y28 v35).Kind), vS (gi y28 v35).Word, vI ((gi y28 v35).Num), vU ((gi y28 v35).Color.Red), vU ((gi y28 v35).Color.Green), vU ((gi y28 v35).Color.Blue), vU ((gi y28 v35).Color.Alpha)])] [0, 4, 24, 25, 26, 29] (fS [0, 4, 24, 25, 26, 29] [vI prop, vP b1, vL g29 y28, vI (ln y28), vI v35, vG [vU ((gi y28 v35).Kind), vS (gi y28 v35).Word, vI ((gi y28 v35).Num), vU ((gi y28 v35).Color.Red), vU ((gi y28 v35).Color.Green), vU ((gi y28 v35).Color.Blue), vU ((gi y28 v35).Color.Alpha)]]) [fun _ => oka g29.a ∧ 0 ≤ v35 ∧ v35 < ln y28, fun wz => V.atN (ab g29.a) (ao g29.a + (v35).toNat * 7) [vU ((gi y28 v35).Kind), vS (gi y28 v35).Word, vI ((gi y28 v35).Num), vU ((gi y28 v35).Color.Red), vU ((gi y28 v35).Color.Green), vU ((gi y28 v35).Color.Blue), vU ((gi y28 v35).Color.Alpha)] 0 wz] H37 (by decide) (by kernel_rfl) ⟨((hS.osl 0 rfl).oki ho38), ((hS.osl 0 rfl).atA ho38 0 rfl), trivial⟩ fun _ _ H40 hb => ?_
   replace hS := hS.below hb
   clear H37 hb
   have hd := hS.hand [] [0, 1, 2, 3] rfl rfl
   refine m_stp [7, 0, 4, 24, 25, 26, 29] (fS [0, 4, 24, 25, 26, 29] [vI prop, vP b1, vL g29 y28, vI (ln y28), vI v35, vG [vU ((gi y28 v35).Kind), vS (gi y28 v35).Word, vI ((gi y28 v35).Num), vU ((gi y28 v35).Color.Red), vU ((gi y28 v35).Color.Green), vU ((gi y28 v35).Color.Blue), vU ((gi y28 v35).Color.Alpha)]]) H40 rfl rfl rfl rfl (o_alloc [vU 0, vN, vI 0, vU 0, vU 0, vU 0, vU 0] (z := vG [vU 0, vN, vI 0, vU 0, vU 0, vU 0, vU 0]) hd (by kernel_rfl) rfl) (fun _ => rfl) fun _ _ v H43 hq => ?_
   clear H40 hd
   obtain ⟨b41, rfl, hq⟩ := hq
   replace hS : SH M X w [eB b41 [vU 0, vN, vI 0, vU 0, vU 0, vU 0, vU 0], eO 28 tyVal y28 g29, eB b1 [vU 0, vN, vI 0, vU 0, vU 0, vU 0, vU 0], eI tyValue l_ g_l_, gE1] _ := hS.join [] [0, 1, 2, 3] rfl rfl hq
   clear hq
   have hd := hS.hand [0] [1, 2, 3, 4] rfl rfl
   refine m_stp0 [0, 4, 7, 24, 25, 26] (fS [0, 4, 7, 24, 25, 26] [vI prop, vP b1, vP b41, vL g29 y28, vI (ln y28), vI v35]) H43 rfl rfl rfl (o_store [vU ((gi y28 v35).Kind), vS (gi y28 v35).Word, vI ((gi y28 v35).Num), vU ((gi y28 v35).Color.Red), vU ((gi y28 v35).Color.Green), vU ((gi y28 v35).Color.Blue), vU ((gi y28 v35).Color.Alpha)] H43 hd rfl rfl (by kernel_rfl) rfl rfl rfl) rfl fun _ _ H45 hq => ?_
   clear H43 hd
   obtain ⟨_, hq⟩ := hq
   replace hS : SH M X w [eB b41 [vU ((gi y28 v35).Kind), vS (gi y28 v35).Word, vI ((gi y28 v35).Num), vU ((gi y28 v35).Color.Red), vU ((gi y28 v35).Color.Green), vU ((gi y28 v35).Color.Blue), vU ((gi y28 v35).Color.Alpha)], eO 28 tyVal y28 g29, eB b1 [vU 0, vN, vI 0, vU 0, vU 0, vU 0, vU 0], eI tyValue l_ g_l_, gE1] _ := hS.join [0] [1, 2, 3, 4] rfl rfl hq
   clear hq
   apply wl_end rfl
   obtain ⟨y46, hy46, hm⟩ := bindE hm
   refine s_reg [(vG [vU ((gi y28 v35).Kind), vS (gi y28 v35).Word, vI ((gi y28 v35).Num), vU ((gi y28 v35).Color.Red), vU ((gi y28 v35).Color.Green), vU ((gi y28 v35).Color.Blue), vU ((gi y28 v35).Color.Alpha)]), (vW [vB y46.1, vI y46.2])] [0, 4, 7, 8, 24, 25, 26] (fS [0, 4, 7, 8, 24, 25, 26] [vI prop, vP b1, vP b41, vB y46.1, vL g29 y28, vI (ln y28), vI v35]) [rN b41 0 [vU ((gi y28 v35).Kind), vS (gi y28 v35).Word, vI ((gi y28 v35).Num), vU ((gi y28 v35).Color.Red), vU ((gi y28 v35).Color.Green), vU ((gi y28 v35).Color.Blue), vU ((gi y28 v35).Color.Alpha)], rB 24 [vI prop, vG [vU ((gi y28 v35).Kind), vS (gi y28 v35).Word, vI ((gi y28 v35).Num), vU ((gi y28 v35).Color.Red), vU ((gi y28 v35).Color.Green), vU ((gi y28 v35).Color.Blue), vU ((gi y28 v35).Color.Alpha)]] (vW [vB y46.1, vI y46.2])] H45 (by kernel_rfl) ⟨((hS.bk 0 rfl).atD rfl), (props_Has_ok 64 _ _ _ hy46 _ (s0im s0nil (hS.im 4 rfl))), trivial⟩ fun _ _ H48 hb => ?_
   replace hS := hS.below hb
   clear H45 hb
   refine s_reg [] [0, 4, 7, 24, 25, 26, 36] (fS [0, 4, 7, 24, 25, 26, 36] [vI prop, vP b1, vP b41, vL g29 y28, vI (ln y28), vI v35, vB y46.1]) [] H48 (by kernel_rfl) trivial fun _ _ H50 hb => ?_
   replace hS := hS.below hb
   clear H48 hb
   refine w_if H50 rfl (fun hc => ?_) (fun hc => ?c59)
   case c59 =>
    replace hm := bF hc hm
    apply w_skip
    refine w_reg [] [0, 4, 24, 25, 26] (fS [0, 4, 24, 25, 26] [vI prop, vP b1, vL g29 y28, vI (ln y28), vI (w64 (v35 + 1))]) [] H50 (by kernel_rfl) trivial fun _ _ H58 hb => ?_
    replace hS := hS.below hb
    clear H50 hb
    replace hS : SH M X w [eO 28 tyVal y28 g29, eB b1 [vU 0, vN, vI 0, vU 0, vU 0, vU 0, vU 0], eI tyValue l_ g_l_, gE1] _ := hS.sel [1, 2, 3, 4] rfl
    exact ⟨_, Nat.lt_succ_self _, w64 (v35 + 1), hm, FrG.keep (ks := [0, 4, 24, 25, 26]) H58 (by kernel_rfl), hS⟩
   replace hm := bT hc hm
   apply w_seq
   apply wl_start
   refine wl_batch 0 1 [(vG [vU ((gi y28 v35).Kind), vS (gi y28 v35).Word, vI ((gi y28 v35).Num), vU ((gi y28 v35).Color.Red), vU ((gi y28 v35).Color.Green), vU ((gi y28 v35).Color.Blue), vU ((gi y28 v35).Color.Alpha)])] [4, 37] (fS [4, 37] [vP b1, vG [vU ((gi y28 v35).Kind), vS (gi y28 v35).Word, vI ((gi y28 v35).Num), vU ((gi y28 v35).Color.Red), vU ((gi y28 v35).Color.Green), vU ((gi y28 v35).Color.Blue), vU ((gi y28 v35).Color.Alpha)]]) [rN b41 0 [vU ((gi y28 v35).Kind), vS (gi y28 v35).Word, vI ((gi y28 v35).Num), vU ((gi y28 v35).Color.Red), vU ((gi y28 v35).Color.Green), vU ((gi y28 v35).Color.Blue), vU ((gi y28 v35).Color.Alpha)]] H50 (by decide) (by kernel_rfl) ⟨((hS.bk 0 rfl).atD rfl), trivial⟩ fun _ _ H52 hb => ?_
   replace hS := hS.below hb
   clear H50 hb
   have hd := hS.hand [2] [0, 1, 3, 4] rfl rfl
   refine m_stp0 [4] [(4, [], vP b1)] H52 rfl rfl rfl (o_store [vU ((gi y28 v35).Kind), vS (gi y28 v35).Word, vI ((gi y28 v35).Num), vU ((gi y28 v35).Color.Red), vU ((gi y28 v35).Color.Green), vU ((gi y28 v35).Color.Blue), vU ((gi y28 v35).Color.Alpha)] H52 hd rfl rfl (by kernel_rfl) rfl rfl rfl) rfl fun _ _ H54 hq => ?_
   clear H52 hd
   obtain ⟨_, hq⟩ := hq
   replace hS : SH M X w [eB b1 [vU ((gi y28 v35).Kind), vS (gi y28 v35).Word, vI ((gi y28 v35).Num), vU ((gi y28 v35).Color.Red), vU ((gi y28 v35).Color.Green), vU ((gi y28 v35).Color.Blue), vU ((gi y28 v35).Color.Alpha)], eB b41 [vU ((gi y28 v35).Kind), vS (gi y28 v35).Word, vI ((gi y28 v35).Num), vU ((gi y28 v35).Color.Red), vU ((gi y28 v35).Color.Green), vU ((gi y28 v35).Color.Blue), vU ((gi y28 v35).Color.Alpha)], eO 28 tyVal y28 g29, eI tyValue l_ g_l_, gE1] _ := hS.join [2] [0, 1, 3, 4] rfl rfl hq
   clear hq
   refine wl_batch 2 3 [] [4, 5] (fS [4, 5] [vP b1, vI 0]) [] H54 (by decide) (by kernel_rfl) trivial fun _ _ H56 hb => ?_
   replace hS := hS.below hb
   clear H54 hb
   apply wl_end rfl
   replace hS : SH M X w [eB b1 [vU ((gi y28 v35).Kind), vS (gi y28 v35).Word, vI ((gi y28 v35).Num), vU ((gi y28 v35).Color.Red), vU ((gi y28 v35).Color.Green), vU ((gi y28 v35).Color.Blue), vU ((gi y28 v35).Color.Alpha)], eO 28 tyVal y28 g29, eI tyValue l_ g_l_, gE1] _ := hS.sel [0, 2, 3, 4] rfl
   apply w_ret
   obtain rfl := someE hm
   have hm := hm_z23
   obtain rfl := someE hm
   exact retR2 H56 rfl (oneRes_agg rfl (hS.bk 0 rfl) Tryz.underlying28 rfl (by kernel_rfl)) rfl ⟨_, rfl, rfl, (hS.sel [] rfl)⟩
 ·rintro _ _ ⟨s_z23, hz, H, hS⟩
  subst hz
  replace hm := sumR hm_z23
  replace hS : SH M X w [eB b1 [vU 0, vN, vI 0, vU 0, vU 0, vU 0, vU 0], gE1] _ := hS.sel [0, 2] rfl
  apply w_seq
  apply wl_start
  refine wl_batch 0 1 [] [4, 39] (fS [4, 39] [vP b1, vG [vU 0, vN, vI 0, vU 0, vU 0, vU 0, vU 0]]) [] H (by decide) (by kernel_rfl) trivial fun _ _ H63 hb => ?_
  replace hS := hS.below hb
  clear H hb
  have hd := hS.hand [0] [1] rfl rfl
  refine m_stp0 [4] [(4, [], vP b1)] H63 rfl rfl rfl (o_store [vU 0, vN, vI 0, vU 0, vU 0, vU 0, vU 0] H63 hd rfl rfl (by kernel_rfl) rfl rfl rfl) rfl fun _ _ H65 hq => ?_
  clear H63 hd
  obtain ⟨_, hq⟩ := hq
  replace hS : SH M X w [eB b1 [vU 0, vN, vI 0, vU 0, vU 0, vU 0, vU 0], gE1] _ := hS.join [0] [1] rfl rfl hq
  clear hq
  refine wl_batch 2 3 [] [4, 5] (fS [4, 5] [vP b1, vI 12]) [] H65 (by decide) (by kernel_rfl) trivial fun _ _ H67 hb => ?_
  replace hS := hS.below hb
  clear H65 hb
  apply wl_end rfl
  apply w_ret
  obtain rfl := someE hm
  exact retR2 H67 rfl (oneRes_agg rfl (hS.bk 0 rfl) Tryz.underlying28 rfl (by kernel_rfl)) rfl ⟨_, rfl, rfl, (hS.sel [] rfl)⟩
theorem parseval_Parse_ok {g_l_ : Gh} (m : Nat) (prop : Int) (l_ : List TValue) (r : TVal × Int) (hm : parseval_Parse m prop l_ = some r) (w : World) (hL : S0 F0 [eI tyValue l_ g_l_, gE1] w ∧ fpl [eI tyValue l_ g_l_, gE1] = []) : RetB Tryz.prog 10 ⟨[vI prop, vL g_l_ l_]⟩ (vW [vG (cV r.1), vI r.2]) w := retB_of hL (Tryz.call10 _) (fun w' h => parseval_Parse_w F0 m   prop l_ r hm w' h)

theorem law26_reads_w  (M : Av) (m : Nat) (prop : Int) (s : Str) (want : TVal) (r : Bool) (hm : law26_reads m prop s want = some r) (w : World) (hS : S0 M [gE1] w) : Calls Tryz.prog 18 ⟨[vI prop, vS s, vG (cV want)]⟩ w (fun e w' => ∃ v, e = .returned v ∧ v = vB r ∧ SH M (fpl [gE1]) w [] w') := by
 rw [law26_reads] at hm
 have hS0 : SH M (fpl [gE1]) w [gE1] w := hS
 generalize hX : fpl [gE1] = X at hS0 ⊢
 clear hS hX
 have hS := hS0
 clear hS0
 refine calls_entryP Tryz.func18 rfl Tryz.ntmps18 rfl fun _ H => ?_
 apply w_seq
 apply wl_start
 have hd := hS.hand [] [0] rfl rfl
 refine m_stp [5, 0, 1] (fS [0, 1] [vI prop, vS s]) H rfl rfl rfl rfl (o_box (cV want) H hd rfl rfl) (fun _ => rfl) fun _ _ v H3 hq => ?_
 clear H hd
 obtain ⟨b1, rfl, hq⟩ := hq
 replace hS : SH M X w [eB b1 (cV want), gE1] _ := hS.join [] [0] rfl rfl hq
 clear hq
 refine wl_batch 1 2 [] [0, 1, 5] (fS [0, 1, 5] [vI prop, vS s, vP b1]) [] H3 (by decide) (by kernel_rfl) trivial fun _ _ H5 hb => ?_
 replace hS := hS.below hb
 clear H3 hb
 apply wl_end rfl
 apply w_seq
 apply wl_start
 refine wl_batch 0 2 [] [5, 10, 11] (fS [5, 10, 11] [vP b1, vI prop, vS s]) [] H5 (by decide) (by kernel_rfl) trivial fun _ _ H7 hb => ?_
 replace hS := hS.below hb
 clear H5 hb
 obtain ⟨y8, hy8, hm⟩ := bindE hm
 have hd := hS.hand [] [0, 1] rfl rfl
 refine m_stp [12, 5, 10] (fS [5, 10] [vP b1, vI prop]) H7 rfl rfl rfl rfl (o_callx H7 rfl rfl (r04_Of_ok 300 _ _ hy8 _ _ hd)) (fun _ => rfl) fun _ _ v H12 hq => ?_
 clear H7 hd
 obtain ⟨g9, rfl, hq⟩ := hq
 replace hS : SH M X w [eI tyValue y8 g9, eB b1 (cV want), gE1] _ := hS.join [] [0, 1] rfl rfl hq
 clear hq
 obtain ⟨y13, hy13, hm⟩ := bindE hm
 refine wl_batch 3 7 [(vW [vG (cV y13.1), vI y13.2])] [5, 14, 15] (fS [5, 14, 15] [vP b1, vG (cV y13.1), vI y13.2]) [rB 10 [vI prop, vL g9 y8] (vW [vG (cV y13.1), vI y13.2])] H12 (by decide) (by kernel_rfl) ⟨(parseval_Parse_ok (g_l_ := g9) m _ _ _ hy13 _ (s0im (s0im s0nil (hS.im 2 rfl)) (hS.im 0 rfl))), trivial⟩ fun _ _ H15 hb => ?_
 replace hS := hS.below hb
 clear H12 hb
 have hd := hS.hand [] [0, 1, 2] rfl rfl
 refine m_stp [7, 5, 14, 15] (fS [5, 14, 15] [vP b1, vG (cV y13.1), vI y13.2]) H15 rfl rfl rfl rfl (o_alloc [vU 0, vN, vI 0, vU 0, vU 0, vU 0, vU 0] (z := vG [vU 0, vN, vI 0, vU 0, vU 0, vU 0, vU 0]) hd (by kernel_rfl) rfl) (fun _ => rfl) fun _ _ v H18 hq => ?_
 clear H15 hd
 obtain ⟨b16, rfl, hq⟩ := hq
 replace hS : SH M X w [eB b16 [vU 0, vN, vI 0, vU 0, vU 0, vU 0, vU 0], eI tyValue y8 g9, eB b1 (cV want), gE1] _ := hS.join [] [0, 1, 2] rfl rfl hq
 clear hq
 have hd := hS.hand [0] [1, 2, 3] rfl rfl
 refine m_stp0 [5, 7, 15] (fS [5, 7, 15] [vP b1, vP b16, vI y13.2]) H18 rfl rfl rfl (o_store (cV y13.1) H18 hd rfl rfl (by kernel_rfl) rfl rfl rfl) rfl fun _ _ H20 hq => ?_
 clear H18 hd
 obtain ⟨_, hq⟩ := hq
 replace hS : SH M X w [eB b16 (cV y13.1), eI tyValue y8 g9, eB b1 (cV want), gE1] _ := hS.join [0] [1, 2, 3] rfl rfl hq
 clear hq
 refine wl_batch 9 10 [] [5, 7, 8] (fS [5, 7, 8] [vP b1, vP b16, vI y13.2]) [] H20 (by decide) (by kernel_rfl) trivial fun _ _ H22 hb => ?_
 replace hS := hS.below hb
 clear H20 hb
 apply wl_end rfl
 replace hS : SH M X w [eB b16 (cV y13.1), eB b1 (cV want), gE1] _ := hS.sel [0, 2, 3] rfl
 obtain ⟨x23, hx23, hm⟩ := letE hm
 refine s_reg [(vG (cV y13.1)), (vG (cV want))] [6] [(6, [], vB x23)] [fun wz => ((y13.2 == 0) = true ∧ True → V.atN b16 0 (cV y13.1) 0 wz), fun wz => ((y13.2 == 0) = true ∧ True → V.atN b1 0 (cV want) 0 wz)] H22 (by subst hx23; kernel_rfl) ⟨fun hg => (hS.bk 0 rfl).atD rfl, fun hg => (hS.bk 1 rfl).atD rfl, trivial⟩ fun _ _ H25 hb => ?_
 replace hS := hS.below hb
 clear H22 hb
 replace hS : SH M X w [gE1] _ := hS.sel [2] rfl
 apply w_ret
 obtain rfl := someE hm
 exact retR1 H25 rfl rfl ⟨_, rfl, rfl, (hS.sel [] rfl)⟩
theorem law26_reads_ok  (m : Nat) (prop : Int) (s : Str) (want : TVal) (r : Bool) (hm : law26_reads m prop s want = some r) (w : World) (hL : S0 F0 [gE1] w ∧ fpl [gE1] = []) : RetB Tryz.prog 18 ⟨[vI prop, vS s, vG (cV want)]⟩ (vB r) w := retB_of hL (Tryz.call18 _) (fun w' h => law26_reads_w F0 m   prop s want r hm w' h)

theorem law26_color_w  (M : Av) (m : Nat) (s : Str) (want : TColor) (r : Bool) (hm : law26_color m s want = some r) (w : World) (hS : S0 M [gE1] w) : Calls Tryz.prog 16 ⟨[vS s, vG (cC want)]⟩ w (fun e w' => ∃ v, e = .returned v ∧ v = vB r ∧ SH M (fpl [gE1]) w [] w') := by
 rw [law26_color] at hm
 have hS0 : SH M (fpl [gE1]) w [gE1] w := hS
 generalize hX : fpl [gE1] = X at hS0 ⊢
 clear hS hX
 have hS := hS0
 clear hS0
 refine calls_entryP Tryz.func16 rfl Tryz.ntmps16 rfl fun _ H => ?_
 apply w_seq
 apply wl_start
 have hd := hS.hand [] [0] rfl rfl
 refine m_stp [3, 0] [(0, [], vS s)] H rfl rfl rfl rfl (o_box (cC want) H hd rfl rfl) (fun _ => rfl) fun _ _ v H3 hq => ?_
 clear H hd
 obtain ⟨b1, rfl, hq⟩ := hq
 replace hS : SH M X w [eB b1 (cC want), gE1] _ := hS.join [] [0] rfl rfl hq
 clear hq
 refine wl_batch 1 2 [] [0, 3] (fS [0, 3] [vS s, vP b1]) [] H3 (by decide) (by kernel_rfl) trivial fun _ _ H5 hb => ?_
 replace hS := hS.below hb
 clear H3 hb
 apply wl_end rfl
 apply w_seq
 apply wl_start
 refine wl_batch 0 1 [] [0, 3, 8] (fS [0, 3, 8] [vS s, vP b1, vS s]) [] H5 (by decide) (by kernel_rfl) trivial fun _ _ H7 hb => ?_
 replace hS := hS.below hb
 clear H5 hb
 obtain ⟨y8, hy8, hm⟩ := bindE hm
 have hd := hS.hand [] [0, 1] rfl rfl
 refine m_stp [9, 0, 3] (fS [0, 3] [vS s, vP b1]) H7 rfl rfl rfl rfl (o_callx H7 rfl rfl (r04_Of_ok 300 _ _ hy8 _ _ hd)) (fun _ => rfl) fun _ _ v H12 hq => ?_
 clear H7 hd
 obtain ⟨g9, rfl, hq⟩ := hq
 replace hS : SH M X w [eI tyValue y8 g9, eB b1 (cC want), gE1] _ := hS.join [] [0, 1] rfl rfl hq
 clear hq
 obtain ⟨y13, hy13, hm⟩ := bindE hm
 refine wl_batch 2 6 [(vW [vG (cC y13.1), vI y13.2])] [0, 3, 11, 12] (fS [0, 3, 11, 12] [vS s, vP b1, vG (cC y13.1), vI y13.2]) [rB 14 [vL g9 y8] (vW [vG (cC y13.1), vI y13.2])] H12 (by decide) (by kernel_rfl) ⟨(parseval_Color_ok (g_l_ := g9) 300 _ _ hy13 _ (s0im s0nil (hS.im 0 rfl))), trivial⟩ fun _ _ H15 hb => ?_
 replace hS := hS.below hb
 clear H12 hb
 have hd := hS.hand [] [0, 1, 2] rfl rfl
 refine m_stp [5, 0, 3, 11, 12] (fS [0, 3, 11, 12] [vS s, vP b1, vG (cC y13.1), vI y13.2]) H15 rfl rfl rfl rfl (o_alloc [vU 0, vU 0, vU 0, vU 0] (z := vG [vU 0, vU 0, vU 0, vU 0]) hd (by kernel_rfl) rfl) (fun _ => rfl) fun _ _ v H18 hq => ?_
 clear H15 hd
 obtain ⟨b16, rfl, hq⟩ := hq
 replace hS : SH M X w [eB b16 [vU 0, vU 0, vU 0, vU 0], eI tyValue y8 g9, eB b1 (cC want), gE1] _ := hS.join [] [0, 1, 2] rfl rfl hq
 clear hq
 have hd := hS.hand [0] [1, 2, 3] rfl rfl
 refine m_stp0 [0, 3, 5, 12] (fS [0, 3, 5, 12] [vS s, vP b1, vP b16, vI y13.2]) H18 rfl rfl rfl (o_store (cC y13.1) H18 hd rfl rfl (by kernel_rfl) rfl rfl rfl) rfl fun _ _ H20 hq => ?_
 clear H18 hd
 obtain ⟨_, hq⟩ := hq
 replace hS : SH M X w [eB b16 (cC y13.1), eI tyValue y8 g9, eB b1 (cC want), gE1] _ := hS.join [0] [1, 2, 3] rfl rfl hq
 clear hq
 refine wl_batch 8 9 [] [0, 3, 5, 6] (fS [0, 3, 5, 6] [vS s, vP b1, vP b16, vI y13.2]) [] H20 (by decide) (by kernel_rfl) trivial fun _ _ H22 hb => ?_
 replace hS := hS.below hb
 clear H20 hb
 apply wl_end rfl
 replace hS : SH M X w [eB b16 (cC y13.1), eB b1 (cC want), gE1] _ := hS.sel [0, 2, 3] rfl
 obtain ⟨x23, hx23, hm⟩ := letE hm
 obtain ⟨y24, hy24, hm⟩ := bindE hm
 refine s_reg [(vG (cC y13.1)), (vG (cC want)), (vG (cC y13.1)), (vB y24)] [4] [(4, [], vB (cond x23 y24 false))] [fun wz => ((y13.2 == 0) = true ∧ True → V.atN b16 0 (cC y13.1) 0 wz), fun wz => ((y13.2 == 0) = true ∧ True → V.atN b1 0 (cC want) 0 wz), fun wz => (x23 = true ∧ True → V.atN b16 0 (cC y13.1) 0 wz), fun wz => (x23 = true ∧ True → RetB Tryz.prog 18 ⟨[vI 3, vS s, vG [vU 7, vN, vI 0, vU y13.1.Red, vU y13.1.Green, vU y13.1.Blue, vU y13.1.Alpha]]⟩ (vB y24) wz)] H22 (by subst hx23; kernel_rfl) ⟨fun hg => (hS.bk 0 rfl).atD rfl, fun hg => (hS.bk 1 rfl).atD rfl, fun hg => (hS.bk 0 rfl).atD rfl, fun hg => law26_reads_ok 300 _ _ _ _ (bT (hg.1) hy24) _ (s0im s0nil (hS.im 2 rfl)), trivial⟩ fun _ _ H26 hb => ?_
 replace hS := hS.below hb
 clear H22 hb
 replace hS : SH M X w [gE1] _ := hS.sel [2] rfl
 apply w_ret
 obtain rfl := someE hm
 exact retR1 H26 rfl rfl ⟨_, rfl, rfl, (hS.sel [] rfl)⟩
theorem law26_color_ok  (m : Nat) (s : Str) (want : TColor) (r : Bool) (hm : law26_color m s want = some r) (w : World) (hL : S0 F0 [gE1] w ∧ fpl [gE1] = []) : RetB Tryz.prog 16 ⟨[vS s, vG (cC want)]⟩ (vB r) w := retB_of hL (Tryz.call16 _) (fun w' h => law26_color_w F0 m   s want r hm w' h)

theorem law26_none_w  (M : Av) (m : Nat) (prop : Int) (s : Str) (r : Bool) (hm : law26_none m prop s = some r) (w : World) (hS : S0 M [gE1] w) : Calls Tryz.prog 20 ⟨[vI prop, vS s]⟩ w (fun e w' => ∃ v, e = .returned v ∧ v = vB r ∧ SH M (fpl [gE1]) w [] w') := by
 rw [law26_none] at hm
 have hS0 : SH M (fpl [gE1]) w [gE1] w := hS
 generalize hX : fpl [gE1] = X at hS0 ⊢
 clear hS hX
 have hS := hS0
 clear hS0
 refine calls_entryP Tryz.func20 rfl Tryz.ntmps20 rfl fun _ H => ?_
 refine s_reg [] [0, 1] (fS [0, 1] [vI prop, vS s]) [] H (by kernel_rfl) trivial fun _ _ H2 hb => ?_
 replace hS := hS.below hb
 clear H hb
 apply w_seq
 apply wl_start
 refine wl_batch 0 2 [] [8, 9] (fS [8, 9] [vI prop, vS s]) [] H2 (by decide) (by kernel_rfl) trivial fun _ _ H4 hb => ?_
 replace hS := hS.below hb
 clear H2 hb
 obtain ⟨y5, hy5, hm⟩ := bindE hm
 have hd := hS.hand [] [0] rfl rfl
 refine m_stp [10, 8] [(8, [], vI prop)] H4 rfl rfl rfl rfl (o_callx H4 rfl rfl (r04_Of_ok 300 _ _ hy5 _ _ hd)) (fun _ => rfl) fun _ _ v H9 hq => ?_
 clear H4 hd
 obtain ⟨g6, rfl, hq⟩ := hq
 replace hS : SH M X w [eI tyValue y5 g6, gE1] _ := hS.join [] [0] rfl rfl hq
 clear hq
 obtain ⟨y10, hy10, hm⟩ := bindE hm
 refine wl_batch 3 7 [(vW [vG (cV y10.1), vI y10.2])] [12, 13] (fS [12, 13] [vG (cV y10.1), vI y10.2]) [rB 10 [vI prop, vL g6 y5] (vW [vG (cV y10.1), vI y10.2])] H9 (by decide) (by kernel_rfl) ⟨(parseval_Parse_ok (g_l_ := g6) m _ _ _ hy10 _ (s0im (s0im s0nil (hS.im 1 rfl)) (hS.im 0 rfl))), trivial⟩ fun _ _ H12 hb => ?_
 replace hS := hS.below hb
 clear H9 hb
 have hd := hS.hand [] [0, 1] rfl rfl
 refine m_stp [5, 12, 13] (fS [12, 13] [vG (cV y10.1), vI y10.2]) H12 rfl rfl rfl rfl (o_alloc [vU 0, vN, vI 0, vU 0, vU 0, vU 0, vU 0] (z := vG [vU 0, vN, vI 0, vU 0, vU 0, vU 0, vU 0]) hd (by kernel_rfl) rfl) (fun _ => rfl) fun _ _ v H15 hq => ?_
 clear H12 hd
 obtain ⟨b13, rfl, hq⟩ := hq
 replace hS : SH M X w [eB b13 [vU 0, vN, vI 0, vU 0, vU 0, vU 0, vU 0], eI tyValue y5 g6, gE1] _ := hS.join [] [0, 1] rfl rfl hq
 clear hq
 have hd := hS.hand [0] [1, 2] rfl rfl
 refine m_stp0 [5, 13] (fS [5, 13] [vP b13, vI y10.2]) H15 rfl rfl rfl (o_store (cV y10.1) H15 hd rfl rfl (by kernel_rfl) rfl rfl rfl) rfl fun _ _ H17 hq => ?_
 clear H15 hd
 obtain ⟨_, hq⟩ := hq
 replace hS : SH M X w [eB b13 (cV y10.1), eI tyValue y5 g6, gE1] _ := hS.join [0] [1, 2] rfl rfl hq
 clear hq
 refine wl_batch 9 10 [] [5, 6] (fS [5, 6] [vP b13, vI y10.2]) [] H17 (by decide) (by kernel_rfl) trivial fun _ _ H19 hb => ?_
 replace hS := hS.below hb
 clear H17 hb
 apply wl_end rfl
 replace hS : SH M X w [eB b13 (cV y10.1), gE1] _ := hS.sel [0, 2] rfl
 obtain ⟨x20, hx20, hm⟩ := letE hm
 refine s_reg [(vG (cV y10.1))] [4] [(4, [], vB x20)] [fun wz => ((y10.2 == 12) = true ∧ True → V.atN b13 0 (cV y10.1) 0 wz)] H19 (by subst hx20; kernel_rfl) ⟨fun hg => (hS.bk 0 rfl).atD rfl, trivial⟩ fun _ _ H22 hb => ?_
 replace hS := hS.below hb
 clear H19 hb
 replace hS : SH M X w [gE1] _ := hS.sel [1] rfl
 apply w_ret
 obtain rfl := someE hm
 exact retR1 H22 rfl rfl ⟨_, rfl, rfl, (hS.sel [] rfl)⟩
theorem law26_none_ok  (m : Nat) (prop : Int) (s : Str) (r : Bool) (hm : law26_none m prop s = some r) (w : World) (hL : S0 F0 [gE1] w ∧ fpl [gE1] = []) : RetB Tryz.prog 20 ⟨[vI prop, vS s]⟩ (vB r) w := retB_of hL (Tryz.call20 _) (fun w' h => law26_none_w F0 m   prop s r hm w' h)

theorem strings_Join_w {g_elems : Gh} (M : Av) (m : Nat) (elems : List Str) (sep : Str) (r : Str) (hm : strings_Join m elems sep = some r) (w : World) (hS : S0 M [eI tS elems g_elems] w) : Calls Tryz.prog 29 ⟨[vL g_elems elems, vS sep]⟩ w (fun e w' => ∃ v, e = .returned v ∧ v = vS r ∧ SH M (fpl [eI tS elems g_elems]) w [] w') := by
 rw [strings_Join] at hm
 have hS0 : SH M (fpl [eI tS elems g_elems]) w [eI tS elems g_elems] w := hS
 generalize hX : fpl [eI tS elems g_elems] = X at hS0 ⊢
 clear hS hX
 have hS := hS0
 clear hS0
 refine calls_entryP Tryz.func29 rfl Tryz.ntmps29 rfl fun _ H => ?_
 refine s_reg [] [0, 1] (fS [0, 1] [vL g_elems elems, vS sep]) [] H (by kernel_rfl) trivial fun _ _ H2 hb => ?_
 replace hS := hS.below hb
 clear H hb
 apply w_seq
 refine s_reg [] [0, 1, 12] (fS [0, 1, 12] [vL g_elems elems, vS sep, vI (ln elems)]) [] H2 (by kernel_rfl) trivial fun _ _ H4 hb => ?_
 replace hS := hS.below hb
 clear H2 hb
 apply w_block
 refine s_reg [] [0, 1, 12, 13] (fS [0, 1, 12, 13] [vL g_elems elems, vS sep, vI (ln elems), vB ((ln elems) == 0)]) [] H4 (by kernel_rfl) trivial fun _ _ H6 hb => ?_
 replace hS := hS.below hb
 clear H4 hb
 refine w_if H6 rfl (fun hc => ?c111) (fun hc => ?_)
 case c111 =>
  replace hm := bT hc hm
  refine s_reg [] [4] [(4, [], vN)] [] H6 (by kernel_rfl) trivial fun _ _ H8 hb => ?_
  replace hS := hS.below hb
  clear H6 hb
  replace hS : SH M X w [] _ := hS.sel [] rfl
  apply w_ret
  obtain rfl := someE hm
  exact retR1 H8 rfl rfl ⟨_, rfl, rfl, (hS.sel [] rfl)⟩
 replace hm := bF hc hm
 refine s_reg [] [0, 1, 15] (fS [0, 1, 15] [vL g_elems elems, vS sep, vB ((ln elems) == 1)]) [] H6 (by kernel_rfl) trivial fun _ _ H10 hb => ?_
 replace hS := hS.below hb
 clear H6 hb
 refine w_if H10 rfl (fun hc => ?c110) (fun hc => ?_)
 case c110 =>
  replace hm := bT hc hm
  obtain ⟨ho11, hm⟩ := chkE hm
  refine s_reg [(vS (gi elems (0 : Int)))] [4] [(4, [], vS (gi elems (0 : Int)))] [fun _ => oka g_elems.a ∧ 0 ≤ (0 : Int) ∧ (0 : Int) < ln elems, fun wz => V.at1 ⟨ab g_elems.a, ao g_elems.a + ((0 : Int)).toNat * 1, none⟩ (vS (gi elems (0 : Int))) wz] H10 (by kernel_rfl) ⟨((hS.im 0 rfl).oki ho11), ((hS.im 0 rfl).at1 ho11 0 rfl), trivial⟩ fun _ _ H13 hb => ?_
  replace hS := hS.below hb
  clear H10 hb
  replace hS : SH M X w [] _ := hS.sel [] rfl
  apply w_ret
  obtain rfl := someE hm
  exact retR1 H13 rfl rfl ⟨_, rfl, rfl, (hS.sel [] rfl)⟩
 replace hm := bF hc hm
 apply w_skip
 refine s_reg [] [0, 1, 5] (fS [0, 1, 5] [vL g_elems elems, vS sep, vI 0]) [] H10 (by kernel_rfl) trivial fun _ _ H15 hb => ?_
 replace hS := hS.below hb
 clear H10 hb
 obtain ⟨z16, hz, hm⟩ := bindE hm
 refine w_cut (fun a' w' => Fr 75 (fS [0, 1, 5] [vL g_elems elems, vS sep, vI z16]) a' ∧ SH M X w [eI tS elems g_elems] w') ?_ ?_
 ·replace hm := hz
  refine s_reg [] [0, 1, 5, 22] (fS [0, 1, 5, 22] [vL g_elems elems, vS sep, vI 0, vB (decide (0 < (ln sep)))]) [] H15 (by kernel_rfl) trivial fun _ _ H18 hb => ?_
  replace hS := hS.below hb
  clear H15 hb
  refine w_if H18 rfl (fun hc => ?_) (fun hc => ?c27)
  case c27 =>
   replace hm := bF hc hm
   apply w_skip
   obtain rfl := someE hm
   exact ⟨FrG.keep (ks := [0, 1, 5]) H18 (by kernel_rfl), hS⟩
  replace hm := bT hc hm
  apply w_seq
  obtain ⟨ho19, hm⟩ := chkE hm
  obtain ⟨x20, hx20, hm⟩ := letE hm
  refine s_reg [] [0, 1, 5, 29] (fS [0, 1, 5, 29] [vL g_elems elems, vS sep, vI 0, vB (decide (x20 ≤ (ln sep)))]) [fun _ => (w64 ((ln elems) - 1)) ≠ 0] H18 (by subst hx20; kernel_rfl) ⟨ho19, trivial⟩ fun _ _ H22 hb => ?_
  replace hS := hS.below hb
  clear H18 hb
  refine w_if H22 rfl (fun hc => ?c26) (fun hc => ?_)
  case c26 =>
   replace hm := bT hc hm
   exact noneE hm
  replace hm := bF hc hm
  apply w_skip
  obtain ⟨x23, hx23, hm⟩ := letE hm
  refine w_reg [] [0, 1, 5] (fS [0, 1, 5] [vL g_elems elems, vS sep, vI x23]) [] H22 (by subst hx23; kernel_rfl) trivial fun _ _ H25 hb => ?_
  replace hS := hS.below hb
  clear H22 hb
  obtain rfl := someE hm
  exact ⟨FrG.keep (ks := [0, 1, 5]) H25 (by kernel_rfl), hS⟩
 ·rintro _ _ ⟨H, hS⟩
  obtain ⟨z28, hz, hm⟩ := bindE hm
  refine w_cut (fun a' w' => Fr 75 (fS [0, 1, 5] [vL g_elems elems, vS sep, vI z28]) a' ∧ SH M X w [eI tS elems g_elems] w') ?_ ?_
  ·replace hm := hz
   refine s_reg [] [0, 1, 5, 39, 40, 41] (fS [0, 1, 5, 39, 40, 41] [vL g_elems elems, vS sep, vI z16, vL g_elems elems, vI (ln elems), vI 0]) [] H (by kernel_rfl) trivial fun _ _ H30 hb => ?_
   replace hS := hS.below hb
   clear H hb
   apply w_block
   refine w_loop (fun kk a' w' => ∃ (v31 : Int) (v32 : Int), strings_Join_L1 m elems kk v31 v32 = some _ ∧ Fr 75 (fS [0, 1, 39, 40, 5, 41] [vL g_elems elems, vS sep, vL g_elems elems, vI (ln elems), vI v31, vI v32]) a' ∧ SH M X w [eI tS elems g_elems] w') ⟨_, z16, 0, hm, FrG.keep (ks := [0, 1, 39, 40, 5, 41]) H30 (by kernel_rfl), hS⟩ ?_
   clear hm H30 hS
   rintro kk _ _ ⟨v31, v32, hm, H, hS⟩
   cases kk with
   | zero => exact noneE hm
   | succ kk =>
    rw [strings_Join_L1] at hm
    refine s_reg [] [0, 1, 5, 39, 40, 41, 42] (fS [0, 1, 5, 39, 40, 41, 42] [vL g_elems elems, vS sep, vI v31, vL g_elems elems, vI (ln elems), vI v32, vB (decide (v32 < (ln elems)))]) [] H (by kernel_rfl) trivial fun _ _ H34 hb => ?_
    replace hS := hS.below hb
    clear H hb
    apply w_seq
    refine w_if H34 rfl (fun hc => ?_) (fun hc => ?c46)
    case c46 =>
     replace hm := bF hc hm
     apply w_exit rfl
     obtain rfl := someE hm
     exact ⟨FrG.keep (ks := [0, 1, 5]) H34 (by kernel_rfl), hS⟩
    replace hm := bT hc hm
    apply w_skip
    apply w_seq
    apply w_block
    obtain ⟨ho35, hm⟩ := chkE hm
    refine s_reg [(vS (gi elems v32))] [0, 1, 5, 7, 39, 40, 41] (fS [0, 1, 5, 7, 39, 40, 41] [vL g_elems elems, vS sep, vI v31, vS (gi elems v32), vL g_elems elems, vI (ln elems), vI v32]) [fun _ => oka g_elems.a ∧ 0 ≤ v32 ∧ v32 < ln elems, fun wz => V.at1 ⟨ab g_elems.a, ao g_elems.a + (v32).toNat * 1, none⟩ (vS (gi elems v32)) wz] H34 (by kernel_rfl) ⟨((hS.im 0 rfl).oki ho35), ((hS.im 0 rfl).at1 ho35 0 rfl), trivial⟩ fun _ _ H37 hb => ?_
    replace hS := hS.below hb
    clear H34 hb
    apply w_seq
    obtain ⟨x38, hx38, hm⟩ := letE hm
    refine s_reg [] [0, 1, 5, 7, 39, 40, 41, 49] (fS [0, 1, 5, 7, 39, 40, 41, 49] [vL g_elems elems, vS sep, vI v31, vS (gi elems v32), vL g_elems elems, vI (ln elems), vI v32, vB x38]) [] H37 (by subst hx38; kernel_rfl) trivial fun _ _ H40 hb => ?_
    replace hS := hS.below hb
    clear H37 hb
    refine w_if H40 rfl (fun hc => ?c45) (fun hc => ?_)
    case c45 =>
     replace hm := bT hc hm
     exact noneE hm
    replace hm := bF hc hm
    apply w_skip
    refine w_reg [] [0, 1, 5, 39, 40, 41] (fS [0, 1, 5, 39, 40, 41] [vL g_elems elems, vS sep, vI (w64 (v31 + (ln (gi elems v32)))), vL g_elems elems, vI (ln elems), vI v32]) [] H40 (by kernel_rfl) trivial fun _ _ H42 hb => ?_
    replace hS := hS.below hb
    clear H40 hb
    refine w_reg [] [0, 1, 5, 39, 40, 41] (fS [0, 1, 5, 39, 40, 41] [vL g_elems elems, vS sep, vI (w64 (v31 + (ln (gi elems v32)))), vL g_elems elems, vI (ln elems), vI (w64 (v32 + 1))]) [] H42 (by kernel_rfl) trivial fun _ _ H44 hb => ?_
    replace hS := hS.below hb
    clear H42 hb
    exact ⟨_, Nat.lt_succ_self _, w64 (v31 + (ln (gi elems v32))), w64 (v32 + 1), hm, FrG.keep (ks := [0, 1, 39, 40, 5, 41]) H44 (by kernel_rfl), hS⟩
  ·rintro _ _ ⟨H, hS⟩
   apply w_seq
   apply wl_start
   have hd := hS.hand [] [0] rfl rfl
   refine m_stp [8, 0, 1, 5] (fS [0, 1, 5] [vL g_elems elems, vS sep, vI z28]) H rfl rfl rfl rfl (o_allocB 5 (z := vG [vQ, vO]) hd (by kernel_rfl) rfl) (fun _ => rfl) fun _ _ v H50 hq => ?_
   clear H hd
   obtain ⟨b48, rfl, hq⟩ := hq
   replace hS : SH M X w [Ent.bld 89 5 b48 ([] : Str) (.nil), eI tS elems g_elems] _ := hS.join [] [0] rfl rfl hq
   clear hq
   apply wl_end rfl
   apply w_seq
   apply wl_start
   refine wl_batch 0 1 [] [0, 1, 8, 56] (fS [0, 1, 8, 56] [vL g_elems elems, vS sep, vP b48, vI z28]) [] H50 (by decide) (by kernel_rfl) trivial fun _ _ H52 hb => ?_
   replace hS := hS.below hb
   clear H50 hb
   obtain ⟨ho53, hm⟩ := chkE hm
   have hd := hS.hand [0] [1] rfl rfl
   refine m_stp [57, 0, 1, 8] (fS [0, 1, 8] [vL g_elems elems, vS sep, vP b48]) H52 rfl rfl rfl rfl (o_callx H52 rfl rfl (bld_Gr z28 ho53 hd)) (fun _ => rfl) fun _ _ v H55 hq => ?_
   clear H52 hd
   obtain ⟨g56, rfl, hq⟩ := hq
   replace hS : SH M X w [Ent.bld 89 5 b48 ([] : Str) g56, eI tS elems g_elems] _ := hS.join [0] [1] rfl rfl hq
   clear hq
   apply wl_end rfl
   apply w_seq
   apply wl_start
   obtain ⟨ho57, hm⟩ := chkE hm
   refine wl_batch 0 3 [(vS (gi elems (0 : Int)))] [0, 1, 8, 60] (fS [0, 1, 8, 60] [vL g_elems elems, vS sep, vP b48, vS (gi elems (0 : Int))]) [fun _ => oka g_elems.a ∧ 0 ≤ (0 : Int) ∧ (0 : Int) < ln elems, fun wz => V.at1 ⟨ab g_elems.a, ao g_elems.a + ((0 : Int)).toNat * 1, none⟩ (vS (gi elems (0 : Int))) wz] H55 (by decide) (by kernel_rfl) ⟨((hS.im 1 rfl).oki ho57), ((hS.im 1 rfl).at1 ho57 0 rfl), trivial⟩ fun _ _ H59 hb => ?_
   replace hS := hS.below hb
   clear H55 hb
   obtain ⟨ho60, hm⟩ := chkE hm
   obtain ⟨q61, hq61, hm⟩ := letE hm
   have hd := hS.hand [0] [1] rfl rfl
   refine m_stp [61, 0, 1, 8] (fS [0, 1, 8] [vL g_elems elems, vS sep, vP b48]) H59 rfl rfl rfl rfl (o_callx H59 rfl rfl (bld_WS (gi elems (0 : Int)) ho60 hd)) (fun _ => rfl) fun _ _ v H63 hq => ?_
   clear H59 hd
   obtain ⟨g64, rfl, hq⟩ := hq
   rw [← hq61] at hq
   replace hS : SH M X w [Ent.bld 89 5 b48 q61 g64, eI tS elems g_elems] _ := hS.join [0] [1] rfl rfl hq
   clear hq
   apply wl_end rfl
   obtain ⟨z65, hz, hm⟩ := bindE hm
   refine w_cut (fun a' w' => ∃ (g102 : Gh), Fr 75 [(8, [], vP b48)] a' ∧ SH M X w [Ent.bld 89 5 b48 z65 g102, eI tS elems g_elems] w') ?_ ?_
   ·replace hm := hz
    apply w_seq
    apply wl_start
    refine wl_batch 0 1 [] [1, 8, 62] (fS [1, 8, 62] [vS sep, vP b48, vL g_elems elems]) [] H63 (by decide) (by kernel_rfl) trivial fun _ _ H67 hb => ?_
    replace hS := hS.below hb
    clear H63 hb
    obtain ⟨ho68, hm⟩ := chkE hm
    obtain ⟨q69, hq69, hm⟩ := letE hm
    have hd := hS.hand [1] [0, 1] rfl rfl
    refine m_stp [63, 1, 8] (fS [1, 8] [vS sep, vP b48]) H67 rfl rfl rfl rfl (o_sub (T := tS) (E := 9) (g := g_elems) (q := elems) (1 : Int) (ln elems) (.some (vI 1)) .none H67 hd (hd.im 0 rfl) rfl rfl rfl rfl rfl rfl (.inr ⟨_, rfl⟩) (.inl ⟨rfl, rfl⟩) (by kernel_rfl) (by kernel_rfl) ho68) (fun _ => rfl) fun _ _ v H71 hq => ?_
    clear H67 hd
    obtain ⟨g72, rfl, hq⟩ := hq
    rw [← hq69] at hq
    rw [← hq69] at H71
    replace hS : SH M X w [eI tS q69 g72, eI tS elems g_elems, Ent.bld 89 5 b48 q61 g64, eI tS elems g_elems] _ := hS.join [1] [0, 1] rfl rfl hq
    clear hq
    refine wl_batch 2 4 [] [1, 8, 63, 64, 65] (fS [1, 8, 63, 64, 65] [vS sep, vP b48, vL g72 q69, vI (ln q69), vI 0]) [] H71 (by decide) (by kernel_rfl) trivial fun _ _ H75 hb => ?_
    replace hS := hS.below hb
    clear H71 hb
    apply wl_end rfl
    replace hS : SH M X w [eI tS q69 g72, eI tS elems g_elems, Ent.bld 89 5 b48 q61 g64] _ := hS.sel [0, 1, 2] rfl
    apply w_block
    refine w_loop (fun kk a' w' => ∃ (v76 : Int) (v77 : Str) (g78 : Gh), strings_Join_L2 m sep q69 kk v76 v77 = some _ ∧ Fr 75 (fS [1, 8, 63, 64, 65] [vS sep, vP b48, vL g72 q69, vI (ln q69), vI v76]) a' ∧ SH M X w [eI tS q69 g72, eI tS elems g_elems, Ent.bld 89 5 b48 v77 g78] w') ⟨_, 0, q61, g64, hm, FrG.keep (ks := [1, 8, 63, 64, 65]) H75 (by kernel_rfl), hS⟩ ?_
    clear hm H75 hS
    rintro kk _ _ ⟨v76, v77, g78, hm, H, hS⟩
    cases kk with
    | zero => exact noneE hm
    | succ kk =>
     rw [strings_Join_L2] at hm
     refine s_reg [] [1, 8, 63, 64, 65, 66] (fS [1, 8, 63, 64, 65, 66] [vS sep, vP b48, vL g72 q69, vI (ln q69), vI v76, vB (decide (v76 < (ln q69)))]) [] H (by kernel_rfl) trivial fun _ _ H80 hb => ?_
     replace hS := hS.below hb
     clear H hb
     apply w_seq
     refine w_if H80 rfl (fun hc => ?_) (fun hc => ?c100)
     case c100 =>
      replace hm := bF hc hm
      apply w_exit rfl
      obtain rfl := someE hm
      replace hS : SH M X w [Ent.bld 89 5 b48 v77 g78, eI tS elems g_elems] _ := hS.sel [2, 1] rfl
      exact ⟨g78, FrG.keep (ks := [8]) H80 (by kernel_rfl), hS⟩
     replace hm := bT hc hm
     apply w_skip
     apply w_seq
     apply w_block
     obtain ⟨ho81, hm⟩ := chkE hm
     refine s_reg [(vS (gi q69 v76))] [1, 8, 10, 63, 64, 65] (fS [1, 8, 10, 63, 64, 65] [vS sep, vP b48, vS (gi q69 v76), vL g72 q69, vI (ln q69), vI v76]) [fun _ => oka g72.a ∧ 0 ≤ v76 ∧ v76 < ln q69, fun wz => V.at1 ⟨ab g72.a, ao g72.a + (v76).toNat * 1, none⟩ (vS (gi q69 v76)) wz] H80 (by kernel_rfl) ⟨((hS.im 0 rfl).oki ho81), ((hS.im 0 rfl).at1 ho81 0 rfl), trivial⟩ fun _ _ H83 hb => ?_
     replace hS := hS.below hb
     clear H80 hb
     apply w_seq
     apply wl_start
     refine wl_batch 0 1 [] [1, 8, 10, 63, 64, 65, 69] (fS [1, 8, 10, 63, 64, 65, 69] [vS sep, vP b48, vS (gi q69 v76), vL g72 q69, vI (ln q69), vI v76, vS sep]) [] H83 (by decide) (by kernel_rfl) trivial fun _ _ H85 hb => ?_
     replace hS := hS.below hb
     clear H83 hb
     obtain ⟨ho86, hm⟩ := chkE hm
     obtain ⟨q87, hq87, hm⟩ := letE hm
     have hd := hS.hand [2] [0, 1] rfl rfl
     refine m_stp [70, 1, 8, 10, 63, 64, 65] (fS [1, 8, 10, 63, 64, 65] [vS sep, vP b48, vS (gi q69 v76), vL g72 q69, vI (ln q69), vI v76]) H85 rfl rfl rfl rfl (o_callx H85 rfl rfl (bld_WS sep ho86 hd)) (fun _ => rfl) fun _ _ v H89 hq => ?_
     clear H85 hd
     obtain ⟨g90, rfl, hq⟩ := hq
     rw [← hq87] at hq
     replace hS : SH M X w [Ent.bld 89 5 b48 q87 g90, eI tS q69 g72, eI tS elems g_elems] _ := hS.join [2] [0, 1] rfl rfl hq
     clear hq
     apply wl_end rfl
     apply wl_start
     refine wl_batch 0 1 [] [1, 8, 63, 64, 65, 71] (fS [1, 8, 63, 64, 65, 71] [vS sep, vP b48, vL g72 q69, vI (ln q69), vI v76, vS (gi q69 v76)]) [] H89 (by decide) (by kernel_rfl) trivial fun _ _ H92 hb => ?_
     replace hS := hS.below hb
     clear H89 hb
     obtain ⟨ho93, hm⟩ := chkE hm
     obtain ⟨q94, hq94, hm⟩ := letE hm
     have hd := hS.hand [0] [1, 2] rfl rfl
     refine m_stp [72, 1, 8, 63, 64, 65] (fS [1, 8, 63, 64, 65] [vS sep, vP b48, vL g72 q69, vI (ln q69), vI v76]) H92 rfl rfl rfl rfl (o_callx H92 rfl rfl (bld_WS (gi q69 v76) ho93 hd)) (fun _ => rfl) fun _ _ v H96 hq => ?_
     clear H92 hd
     obtain ⟨g97, rfl, hq⟩ := hq
     rw [← hq94] at hq
     replace hS : SH M X w [Ent.bld 89 5 b48 q94 g97, eI tS q69 g72, eI tS elems g_elems] _ := hS.join [0] [1, 2] rfl rfl hq
     clear hq
     apply wl_end rfl
     refine w_reg [] [1, 8, 63, 64, 65] (fS [1, 8, 63, 64, 65] [vS sep, vP b48, vL g72 q69, vI (ln q69), vI (w64 (v76 + 1))]) [] H96 (by kernel_rfl) trivial fun _ _ H99 hb => ?_
     replace hS := hS.below hb
     clear H96 hb
     replace hS : SH M X w [eI tS q69 g72, eI tS elems g_elems, Ent.bld 89 5 b48 q94 g97] _ := hS.sel [1, 2, 0] rfl
     exact ⟨_, Nat.lt_succ_self _, w64 (v76 + 1), q94, g97, hm, FrG.keep (ks := [1, 8, 63, 64, 65]) H99 (by kernel_rfl), hS⟩
   ·rintro _ _ ⟨g102, H, hS⟩
    replace hS : SH M X w [Ent.bld 89 5 b48 z65 g102] _ := hS.sel [0] rfl
    apply w_seq
    apply wl_start
    have hd := hS.hand [0] [] rfl rfl
    refine m_stp [74] [] H rfl rfl rfl rfl (o_callx H rfl rfl (bld_St hd)) (fun _ => rfl) fun _ _ v H104 hq => ?_
    clear H hd
    obtain ⟨rfl, hq⟩ := hq
    replace hS : SH M X w [] _ := hS.join [0] [] rfl rfl hq
    clear hq
    refine wl_batch 1 2 [] [4] [(4, [], vS z65)] [] H104 (by decide) (by kernel_rfl) trivial fun _ _ H106 hb => ?_
    replace hS := hS.below hb
    clear H104 hb
    apply wl_end rfl
    apply w_ret
    obtain rfl := someE hm
    exact retR1 H106 rfl rfl ⟨_, rfl, rfl, (hS.sel [] rfl)⟩
theorem strings_Join_ok {g_elems : Gh} (m : Nat) (elems : List Str) (sep : Str) (r : Str) (hm : strings_Join m elems sep = some r) (w : World) (hL : S0 F0 [eI tS elems g_elems] w ∧ fpl [eI tS elems g_elems] = []) : RetB Tryz.prog 29 ⟨[vL g_elems elems, vS sep]⟩ (vS r) w := retB_of hL (Tryz.call29 _) (fun w' h => strings_Join_w F0 m   elems sep r hm w' h)

theorem strconv_small_w  (M : Av) (i : Int) (r : Str) (hm : strconv_small i = some r) (w : World) (hS : S0 M [] w) : Calls Tryz.prog 66 ⟨[vI i]⟩ w (fun e w' => ∃ v, e = .returned v ∧ v = vS r ∧ SH M (fpl []) w [] w') := by
 rw [strconv_small] at hm
 have hS0 : SH M (fpl []) w [] w := hS
 generalize hX : fpl [] = X at hS0 ⊢
 clear hS hX
 have hS := hS0
 clear hS0
 refine calls_entryP Tryz.func66 rfl Tryz.ntmps66 rfl fun _ H => ?_
 refine s_reg [] [0] [(0, [], vI i)] [] H (by kernel_rfl) trivial fun _ _ H2 hb => ?_
 replace hS := hS.below hb
 clear H hb
 apply w_seq
 refine s_reg [] [0, 4] (fS [0, 4] [vI i, vB (decide (i < 10))]) [] H2 (by kernel_rfl) trivial fun _ _ H4 hb => ?_
 replace hS := hS.below hb
 clear H2 hb
 refine w_if H4 rfl (fun hc => ?c13) (fun hc => ?_)
 case c13 =>
  replace hm := bT hc hm
  obtain ⟨ho5, hm⟩ := chkE hm
  obtain ⟨x6, hx6, hm⟩ := letE hm
  refine s_reg [] [2] [(2, [], vS x6)] [fun _ => 0 ≤ i ∧ i ≤ (w64 (i + 1)) ∧ (w64 (i + 1)) ≤ ln [48, 49, 50, 51, 52, 53, 54, 55, 56, 57, 97, 98, 99, 100, 101, 102, 103, 104, 105, 106, 107, 108, 109, 110, 111, 112, 113, 114, 115, 116, 117, 118, 119, 120, 121, 122]] H4 (by subst hx6; kernel_rfl) ⟨ho5, trivial⟩ fun _ _ H8 hb => ?_
  replace hS := hS.below hb
  clear H4 hb
  apply w_ret
  obtain rfl := someE hm
  exact retR1 H8 rfl rfl ⟨_, rfl, rfl, (hS.sel [] rfl)⟩
 replace hm := bF hc hm
 apply w_skip
 obtain ⟨ho9, hm⟩ := chkE hm
 obtain ⟨x10, hx10, hm⟩ := letE hm
 refine s_reg [] [2] [(2, [], vS x10)] [fun _ => 0 ≤ (w64 (i * 2)) ∧ (w64 (i * 2)) ≤ (w64 ((w64 (i * 2)) + 2)) ∧ (w64 ((w64 (i * 2)) + 2)) ≤ ln [48, 48, 48, 49, 48, 50, 48, 51, 48, 52, 48, 53, 48, 54, 48, 55, 48, 56, 48, 57, 49, 48, 49, 49, 49, 50, 49, 51, 49, 52, 49, 53, 49, 54, 49, 55, 49, 56, 49, 57, 50, 48, 50, 49, 50, 50, 50, 51, 50, 52, 50, 53, 50, 54, 50, 55, 50, 56, 50, 57, 51, 48, 51, 49, 51, 50, 51, 51, 51, 52, 51, 53, 51, 54, 51, 55, 51, 56, 51, 57, 52, 48, 52, 49, 52, 50, 52, 51, 52, 52, 52, 53, 52, 54, 52, 55, 52, 56, 52, 57, 53, 48, 53, 49, 53, 50, 53, 51, 53, 52, 53, 53, 53, 54, 53, 55, 53, 56, 53, 57, 54, 48, 54, 49, 54, 50, 54, 51, 54, 52, 54, 53, 54, 54, 54, 55, 54, 56, 54, 57, 55, 48, 55, 49, 55, 50, 55, 51, 55, 52, 55, 53, 55, 54, 55, 55, 55, 56, 55, 57, 56, 48, 56, 49, 56, 50, 56, 51, 56, 52, 56, 53, 56, 54, 56, 55, 56, 56, 56, 57, 57, 48, 57, 49, 57, 50, 57, 51, 57, 52, 57, 53, 57, 54, 57, 55, 57, 56, 57, 57]] H4 (by subst hx10; kernel_rfl) ⟨ho9, trivial⟩ fun _ _ H12 hb => ?_
 replace hS := hS.below hb
 clear H4 hb
 apply w_ret
 obtain rfl := someE hm
 exact retR1 H12 rfl rfl ⟨_, rfl, rfl, (hS.sel [] rfl)⟩
theorem strconv_small_ok  (i : Int) (r : Str) (hm : strconv_small i = some r) : Ret Tryz.prog 66 ⟨[vI i]⟩ (vS r) := retP_of (Tryz.call66 _) (fun w h => strconv_small_w F0   i r hm w h)

theorem math_bits_Len64_w  (M : Av) (x_ : Int) (r : Int) (hm : math_bits_Len64 x_ = some r) (w : World) (hS : S0 M [] w) : Calls Tryz.prog 85 ⟨[.int .u64 x_]⟩ w (fun e w' => ∃ v, e = .returned v ∧ v = vI r ∧ SH M (fpl []) w [] w') := by
 rw [math_bits_Len64] at hm
 have hS0 : SH M (fpl []) w [] w := hS
 generalize hX : fpl [] = X at hS0 ⊢
 clear hS hX
 have hS := hS0
 clear hS0
 refine calls_entryP Tryz.func85 rfl Tryz.ntmps85 rfl fun _ H => ?_
 refine s_reg [] [0, 2] (fS [0, 2] [.int .u64 x_, vI 0]) [] H (by kernel_rfl) trivial fun _ _ H2 hb => ?_
 replace hS := hS.below hb
 clear H hb
 obtain ⟨z3, hz, hm⟩ := bindE hm
 refine w_cut (fun a' w' => Fr 25 (fS [0, 2] [.int .u64 z3.1, vI z3.2]) a' ∧ SH M X w [] w') ?_ ?_
 ·replace hm := hz
  refine s_reg [] [0, 2, 4] (fS [0, 2, 4] [.int .u64 x_, vI 0, vB (decide (4294967296 ≤ x_))]) [] H2 (by kernel_rfl) trivial fun _ _ H5 hb => ?_
  replace hS := hS.below hb
  clear H2 hb
  refine w_if H5 rfl (fun hc => ?_) (fun hc => ?c10)
  case c10 =>
   replace hm := bF hc hm
   apply w_skip
   obtain rfl := someE hm
   exact ⟨FrG.keep (ks := [0, 2]) H5 (by kernel_rfl), hS⟩
  replace hm := bT hc hm
  refine s_reg [] [0] [(0, [], .int .u64 (Int.fdiv x_ (2 ^ 32)))] [fun _ => (0 : Int) ≤ 32] H5 (by kernel_rfl) ⟨(by show (0 : Int) ≤ 32; decide), trivial⟩ fun _ _ H7 hb => ?_
  replace hS := hS.below hb
  clear H5 hb
  refine w_reg [] [0, 2] (fS [0, 2] [.int .u64 (Int.fdiv x_ (2 ^ 32)), vI 32]) [] H7 (by kernel_rfl) trivial fun _ _ H9 hb => ?_
  replace hS := hS.below hb
  clear H7 hb
  obtain rfl := someE hm
  exact ⟨FrG.keep (ks := [0, 2]) H9 (by kernel_rfl), hS⟩
 ·rintro _ _ ⟨H, hS⟩
  obtain ⟨z11, hz, hm⟩ := bindE hm
  refine w_cut (fun a' w' => Fr 25 (fS [0, 2] [.int .u64 z11.1, vI z11.2]) a' ∧ SH M X w [] w') ?_ ?_
  ·replace hm := hz
   refine s_reg [] [0, 2, 8] (fS [0, 2, 8] [.int .u64 z3.1, vI z3.2, vB (decide (65536 ≤ z3.1))]) [] H (by kernel_rfl) trivial fun _ _ H13 hb => ?_
   replace hS := hS.below hb
   clear H hb
   refine w_if H13 rfl (fun hc => ?_) (fun hc => ?c18)
   case c18 =>
    replace hm := bF hc hm
    apply w_skip
    obtain rfl := someE hm
    exact ⟨FrG.keep (ks := [0, 2]) H13 (by kernel_rfl), hS⟩
   replace hm := bT hc hm
   refine s_reg [] [0, 2] (fS [0, 2] [.int .u64 (Int.fdiv z3.1 (2 ^ 16)), vI z3.2]) [fun _ => (0 : Int) ≤ 16] H13 (by kernel_rfl) ⟨(by show (0 : Int) ≤ 16; decide), trivial⟩ fun _ _ H15 hb => ?_
   replace hS := hS.below hb
   clear H13 hb
   refine w_reg [] [0, 2] (fS [0, 2] [.int .u64 (Int.fdiv z3.1 (2 ^ 16)), vI (w64 (z3.2 + 16))]) [] H15 (by kernel_rfl) trivial fun _ _ H17 hb => ?_
   replace hS := hS.below hb
   clear H15 hb
   obtain rfl := someE hm
   exact ⟨FrG.keep (ks := [0, 2]) H17 (by kernel_rfl), hS⟩
  ·rintro _ _ ⟨H, hS⟩
   obtain ⟨z19, hz, hm⟩ := bindE hm
   refine w_cut (fun a' w' => Fr 25 (fS [0, 2] [.int .u64 z19.1, vI z19.2]) a' ∧ SH M X w [] w') ?_ ?_
   ·replace hm := hz
    refine s_reg [] [0, 2, 14] (fS [0, 2, 14] [.int .u64 z11.1, vI z11.2, vB (decide (256 ≤ z11.1))]) [] H (by kernel_rfl) trivial fun _ _ H21 hb => ?_
    replace hS := hS.below hb
    clear H hb
    refine w_if H21 rfl (fun hc => ?_) (fun hc => ?c26)
    case c26 =>
     replace hm := bF hc hm
     apply w_skip
     obtain rfl := someE hm
     exact ⟨FrG.keep (ks := [0, 2]) H21 (by kernel_rfl), hS⟩
    replace hm := bT hc hm
    refine s_reg [] [0, 2] (fS [0, 2] [.int .u64 (Int.fdiv z11.1 (2 ^ 8)), vI z11.2]) [fun _ => (0 : Int) ≤ 8] H21 (by kernel_rfl) ⟨(by show (0 : Int) ≤ 8; decide), trivial⟩ fun _ _ H23 hb => ?_
    replace hS := hS.below hb
    clear H21 hb
    refine w_reg [] [0, 2] (fS [0, 2] [.int .u64 (Int.fdiv z11.1 (2 ^ 8)), vI (w64 (z11.2 + 8))]) [] H23 (by kernel_rfl) trivial fun _ _ H25 hb => ?_
    replace hS := hS.below hb
    clear H23 hb
    obtain rfl := someE hm
    exact ⟨FrG.keep (ks := [0, 2]) H25 (by kernel_rfl), hS⟩
   ·rintro _ _ ⟨H, hS⟩
    obtain ⟨ho27, hm⟩ := chkE hm
    obtain ⟨x28, hx28, hm⟩ := letE hm
    refine s_reg [] [2] [(2, [], vI (w64 (z19.2 + (w64 x28))))] [fun _ => 0 ≤ (wu8 z19.1) ∧ (wu8 z19.1) < ln [0, 1, 2, 2, 3, 3, 3, 3, 4, 4, 4, 4, 4, 4, 4, 4, 5, 5, 5, 5, 5, 5, 5, 5, 5, 5, 5, 5, 5, 5, 5, 5, 6, 6, 6, 6, 6, 6, 6, 6, 6, 6, 6, 6, 6, 6, 6, 6, 6, 6, 6, 6, 6, 6, 6, 6, 6, 6, 6, 6, 6, 6, 6, 6, 7, 7, 7, 7, 7, 7, 7, 7, 7, 7, 7, 7, 7, 7, 7, 7, 7, 7, 7, 7, 7, 7, 7, 7, 7, 7, 7, 7, 7, 7, 7, 7, 7, 7, 7, 7, 7, 7, 7, 7, 7, 7, 7, 7, 7, 7, 7, 7, 7, 7, 7, 7, 7, 7, 7, 7, 7, 7, 7, 7, 7, 7, 7, 7, 8, 8, 8, 8, 8, 8, 8, 8, 8, 8, 8, 8, 8, 8, 8, 8, 8, 8, 8, 8, 8, 8, 8, 8, 8, 8, 8, 8, 8, 8, 8, 8, 8, 8, 8, 8, 8, 8, 8, 8, 8, 8, 8, 8, 8, 8, 8, 8, 8, 8, 8, 8, 8, 8, 8, 8, 8, 8, 8, 8, 8, 8, 8, 8, 8, 8, 8, 8, 8, 8, 8, 8, 8, 8, 8, 8, 8, 8, 8, 8, 8, 8, 8, 8, 8, 8, 8, 8, 8, 8, 8, 8, 8, 8, 8, 8, 8, 8, 8, 8, 8, 8, 8, 8, 8, 8, 8, 8, 8, 8, 8, 8, 8, 8, 8, 8, 8, 8, 8, 8, 8, 8, 8, 8, 8, 8, 8, 8]] H (by subst hx28; kernel_rfl) ⟨ho27, trivial⟩ fun _ _ H30 hb => ?_
    replace hS := hS.below hb
    clear H hb
    apply w_ret
    obtain rfl := someE hm
    exact retR1 H30 rfl rfl ⟨_, rfl, rfl, (hS.sel [] rfl)⟩
theorem math_bits_Len64_ok  (x_ : Int) (r : Int) (hm : math_bits_Len64 x_ = some r) : Ret Tryz.prog 85 ⟨[.int .u64 x_]⟩ (vI r) := retP_of (Tryz.call85 _) (fun w h => math_bits_Len64_w F0   x_ r hm w h)

theorem strconv_log10Pow2_w  (M : Av) (x_ : Int) (r : Int) (hm : strconv_log10Pow2 x_ = r) (w : World) (hS : S0 M [] w) : Calls Tryz.prog 84 ⟨[vI x_]⟩ w (fun e w' => ∃ v, e = .returned v ∧ v = vI r ∧ SH M (fpl []) w [] w') := by
 rw [strconv_log10Pow2] at hm
 have hS0 : SH M (fpl []) w [] w := hS
 generalize hX : fpl [] = X at hS0 ⊢
 clear hS hX
 have hS := hS0
 clear hS0
 refine calls_entryP Tryz.func84 rfl Tryz.ntmps84 rfl fun _ H => ?_
 refine s_reg [] [0] [(0, [], vI x_)] [] H (by kernel_rfl) trivial fun _ _ H2 hb => ?_
 replace hS := hS.below hb
 clear H hb
 refine s_reg [] [2] [(2, [], vI (Int.fdiv (w64 (x_ * 78913)) (2 ^ 18)))] [fun _ => (0 : Int) ≤ 18] H2 (by kernel_rfl) ⟨(by show (0 : Int) ≤ 18; decide), trivial⟩ fun _ _ H4 hb => ?_
 replace hS := hS.below hb
 clear H2 hb
 apply w_ret
 subst hm
 exact retR1 H4 rfl rfl ⟨_, rfl, rfl, (hS.sel [] rfl)⟩
theorem strconv_log10Pow2_ok  (x_ : Int) : Ret Tryz.prog 84 ⟨[vI x_]⟩ (vI (strconv_log10Pow2 x_)) := retP_of (Tryz.call84 _) (fun w h => strconv_log10Pow2_w F0   x_ _ rfl w h)

theorem strconv_isPowerOfTwo_w  (M : Av) (x_ : Int) (r : Bool) (hm : strconv_isPowerOfTwo x_ = r) (w : World) (hS : S0 M [] w) : Calls Tryz.prog 87 ⟨[vI x_]⟩ w (fun e w' => ∃ v, e = .returned v ∧ v = vB r ∧ SH M (fpl []) w [] w') := by
 rw [strconv_isPowerOfTwo] at hm
 have hS0 : SH M (fpl []) w [] w := hS
 generalize hX : fpl [] = X at hS0 ⊢
 clear hS hX
 have hS := hS0
 clear hS0
 refine calls_entryP Tryz.func87 rfl Tryz.ntmps87 rfl fun _ H => ?_
 refine s_reg [] [0] [(0, [], vI x_)] [] H (by kernel_rfl) trivial fun _ _ H2 hb => ?_
 replace hS := hS.below hb
 clear H hb
 refine s_reg [] [2] [(2, [], vB ((ibit .and .i64 x_ (w64 (x_ - 1))) == 0))] [] H2 (by kernel_rfl) trivial fun _ _ H4 hb => ?_
 replace hS := hS.below hb
 clear H2 hb
 apply w_ret
 subst hm
 exact retR1 H4 rfl rfl ⟨_, rfl, rfl, (hS.sel [] rfl)⟩
theorem strconv_isPowerOfTwo_ok  (x_ : Int) : Ret Tryz.prog 87 ⟨[vI x_]⟩ (vB (strconv_isPowerOfTwo x_)) := retP_of (Tryz.call87 _) (fun w h => strconv_isPowerOfTwo_w F0   x_ _ rfl w h)

abbrev gE5 : Ent := eI (tI .u8) gl_math_bits_deBruijn64tab (Gh.mk (some ⟨5, 0, none⟩) 64 fun _ _ => .nil)
theorem math_bits_TrailingZeros64_w  (M : Av) (x_ : Int) (r : Int) (hm : math_bits_TrailingZeros64 x_ = some r) (w : World) (hS : S0 M [gE5] w) : Calls Tryz.prog 109 ⟨[.int .u64 x_]⟩ w (fun e w' => ∃ v, e = .returned v ∧ v = vI r ∧ SH M (fpl [gE5]) w [] w') := by
 rw [math_bits_TrailingZeros64] at hm
 have hS0 : SH M (fpl [gE5]) w [gE5] w := hS
 generalize hX : fpl [gE5] = X at hS0 ⊢
 clear hS hX
 have hS := hS0
 clear hS0
 refine calls_entryP Tryz.func109 rfl Tryz.ntmps109 rfl fun _ H => ?_
 refine s_reg [] [0] [(0, [], .int .u64 x_)] [] H (by kernel_rfl) trivial fun _ _ H2 hb => ?_
 replace hS := hS.below hb
 clear H hb
 apply w_seq
 refine s_reg [] [0, 4] (fS [0, 4] [.int .u64 x_, vB (x_ == 0)]) [] H2 (by kernel_rfl) trivial fun _ _ H4 hb => ?_
 replace hS := hS.below hb
 clear H2 hb
 refine w_if H4 rfl (fun hc => ?c12) (fun hc => ?_)
 case c12 =>
  replace hm := bT hc hm
  refine s_reg [] [2] [(2, [], vI 64)] [] H4 (by kernel_rfl) trivial fun _ _ H6 hb => ?_
  replace hS := hS.below hb
  clear H4 hb
  apply w_ret
  obtain rfl := someE hm
  exact retR1 H6 rfl rfl ⟨_, rfl, rfl, (hS.sel [] rfl)⟩
 replace hm := bF hc hm
 apply w_skip
 obtain ⟨x7, hx7, hm⟩ := letE hm
 obtain ⟨ho8, hm⟩ := chkE hm
 obtain ⟨x9, hx9, hm⟩ := letE hm
 refine s_reg [(vU (gi gl_math_bits_deBruijn64tab (Int.fdiv x7 (2 ^ 58))))] [2] [(2, [], vI (w64 x9))] [fun _ => (0 : Int) ≤ 58, fun _ => 0 ≤ (Int.fdiv x7 (2 ^ 58)) ∧ (Int.fdiv x7 (2 ^ 58)) < (64 : Int), fun wz => V.at1 ⟨5, 0 + ((Int.fdiv x7 (2 ^ 58))).toNat * 1, none⟩ (vU (gi gl_math_bits_deBruijn64tab (Int.fdiv x7 (2 ^ 58)))) wz] H4 (by subst hx7 hx9; kernel_rfl) ⟨(by show (0 : Int) ≤ 58; decide), ho8, ((hS.im 0 rfl).at1 ho8 0 rfl), trivial⟩ fun _ _ H11 hb => ?_
 replace hS := hS.below hb
 clear H4 hb
 apply w_ret
 obtain rfl := someE hm
 exact retR1 H11 rfl rfl ⟨_, rfl, rfl, (hS.sel [] rfl)⟩
theorem math_bits_TrailingZeros64_ok  (x_ : Int) (r : Int) (hm : math_bits_TrailingZeros64 x_ = some r) (w : World) (hL : S0 F0 [gE5] w ∧ fpl [gE5] = []) : RetB Tryz.prog 109 ⟨[.int .u64 x_]⟩ (vI r) w := retB_of hL (Tryz.call109 _) (fun w' h => math_bits_TrailingZeros64_w F0   x_ r hm w' h)

theorem math_bits_TrailingZeros_w  (M : Av) (x_ : Int) (r : Int) (hm : math_bits_TrailingZeros x_ = some r) (w : World) (hS : S0 M [gE5] w) : Calls Tryz.prog 88 ⟨[.int .u64 x_]⟩ w (fun e w' => ∃ v, e = .returned v ∧ v = vI r ∧ SH M (fpl [gE5]) w [] w') := by
 rw [math_bits_TrailingZeros] at hm
 have hS0 : SH M (fpl [gE5]) w [gE5] w := hS
 generalize hX : fpl [gE5] = X at hS0 ⊢
 clear hS hX
 have hS := hS0
 clear hS0
 refine calls_entryP Tryz.func88 rfl Tryz.ntmps88 rfl fun _ H => ?_
 refine s_reg [] [0] [(0, [], .int .u64 x_)] [] H (by kernel_rfl) trivial fun _ _ H2 hb => ?_
 replace hS := hS.below hb
 clear H hb
 apply w_seq
 refine w_if H2 rfl (fun hc => by cases hc) (fun _ => ?_)
 apply w_skip
 obtain ⟨y3, hy3, hm⟩ := bindE hm
 refine s_reg [(vI y3)] [2] [(2, [], vI y3)] [rB 109 [.int .u64 x_] (vI y3)] H2 (by kernel_rfl) ⟨(math_bits_TrailingZeros64_ok _ _ hy3 _ (s0im s0nil (hS.im 0 rfl))), trivial⟩ fun _ _ H5 hb => ?_
 replace hS := hS.below hb
 clear H2 hb
 apply w_ret
 obtain rfl := someE hm
 exact retR1 H5 rfl rfl ⟨_, rfl, rfl, (hS.sel [] rfl)⟩
theorem math_bits_TrailingZeros_ok  (x_ : Int) (r : Int) (hm : math_bits_TrailingZeros x_ = some r) (w : World) (hL : S0 F0 [gE5] w ∧ fpl [gE5] = []) : RetB Tryz.prog 88 ⟨[.int .u64 x_]⟩ (vI r) w := retB_of hL (Tryz.call88 _) (fun w' h => math_bits_TrailingZeros_w F0   x_ r hm w' h)

theorem strconv_formatBits_w {g_dst : Gh} (M : Av) (m : Nat) (dst : List Int) (u_ : Int) (base : Int) (neg : Bool) (append_ : Bool) (r : (List Int) × Str) (hm : strconv_formatBits m dst u_ base neg append_ = some r) (w : World) (hS : S0 M [eI (tI .u8) dst g_dst, gE5] w) : Calls Tryz.prog 69 ⟨[vL g_dst dst, .int .u64 u_, vI base, vB neg, vB append_]⟩ w (fun e w' => ∃ v, e = .returned v ∧ ∃ (g901 : Gh), v = vW [vL g901 r.1, vS r.2] ∧ SH M (fpl [eI (tI .u8) dst g_dst, gE5]) w [eO 5 (tI .u8) r.1 g901] w') := by
 rw [strconv_formatBits] at hm
 have hS0 : SH M (fpl [eI (tI .u8) dst g_dst, gE5]) w [eI (tI .u8) dst g_dst, gE5] w := hS
 generalize hX : fpl [eI (tI .u8) dst g_dst, gE5] = X at hS0 ⊢
 clear hS hX
 have hS := hS0
 clear hS0
 refine calls_entryP Tryz.func69 rfl Tryz.ntmps69 rfl fun _ H => ?_
 refine s_reg [] [0, 1, 2, 3, 4, 10, 11] (fS [0, 1, 2, 3, 4, 10, 11] [vL g_dst dst, .int .u64 u_, vI base, vB neg, vB append_, vO, vN]) [] H (by kernel_rfl) trivial fun _ _ H2 hb => ?_
 replace hS := hS.below hb
 clear H hb
 apply w_seq
 obtain ⟨x3, hx3, hm⟩ := letE hm
 refine s_reg [] [0, 1, 2, 3, 4, 10, 11, 28] (fS [0, 1, 2, 3, 4, 10, 11, 28] [vL g_dst dst, .int .u64 u_, vI base, vB neg, vB append_, vO, vN, vB (cond x3 true (decide (36 < base)))]) [] H2 (by subst hx3; kernel_rfl) trivial fun _ _ H5 hb => ?_
 replace hS := hS.below hb
 clear H2 hb
 refine w_if H5 rfl (fun hc => ?c124) (fun hc => ?_)
 case c124 =>
  replace hm := bT hc hm
  exact noneE hm
 replace hm := bF hc hm
 apply w_skip
 apply w_seq
 apply wl_start
 have hd := hS.hand [] [0, 1] rfl rfl
 refine m_stp [12, 0, 1, 2, 3, 4, 10, 11] (fS [0, 1, 2, 3, 4, 10, 11] [vL g_dst dst, .int .u64 u_, vI base, vB neg, vB append_, vO, vN]) H5 rfl rfl rfl rfl (o_allocR .u8 (List.replicate 65 (0 : Int)) (z := .agg ⟨(List.replicate 65 (0 : Int)).map (Value.int .u8)⟩) hd (by kernel_rfl) rfl) (fun _ => rfl) fun _ _ v H8 hq => ?_
 clear H5 hd
 obtain ⟨b6, rfl, hq⟩ := hq
 replace hq : SH _ _ _ [Ent.row .u8 b6 (List.replicate 65 (0 : Int)) (65 : Int)] _ := hq
 replace hS : SH M X w [Ent.row .u8 b6 (List.replicate 65 (0 : Int)) (65 : Int), eI (tI .u8) dst g_dst, gE5] _ := hS.join [] [0, 1] rfl rfl hq
 clear hq
 apply wl_end rfl
 refine s_reg [] [0, 1, 2, 3, 4, 10, 11, 12, 13] (fS [0, 1, 2, 3, 4, 10, 11, 12, 13] [vL g_dst dst, .int .u64 u_, vI base, vB neg, vB append_, vO, vN, vP b6, vI 65]) [] H8 (by kernel_rfl) trivial fun _ _ H10 hb => ?_
 replace hS := hS.below hb
 clear H8 hb
 obtain ⟨z11, hz, hm⟩ := bindE hm
 refine w_cut (fun a' w' => Fr 102 (fS [0, 2, 3, 4, 10, 11, 12, 13, 1] [vL g_dst dst, vI base, vB neg, vB append_, vO, vN, vP b6, vI 65, .int .u64 z11]) a' ∧ SH M X w [Ent.row .u8 b6 (List.replicate 65 (0 : Int)) (65 : Int), eI (tI .u8) dst g_dst, gE5] w') ?_ ?_
 ·replace hm := hz
  refine s_reg [] [0, 1, 2, 3, 4, 10, 11, 12, 13, 30] (fS [0, 1, 2, 3, 4, 10, 11, 12, 13, 30] [vL g_dst dst, .int .u64 u_, vI base, vB neg, vB append_, vO, vN, vP b6, vI 65, vB neg]) [] H10 (by kernel_rfl) trivial fun _ _ H13 hb => ?_
  replace hS := hS.below hb
  clear H10 hb
  refine w_if H13 rfl (fun hc => ?_) (fun hc => ?c16)
  case c16 =>
   replace hm := bF hc hm
   apply w_skip
   obtain rfl := someE hm
   exact ⟨FrG.keep (ks := [0, 2, 3, 4, 10, 11, 12, 13, 1]) H13 (by kernel_rfl), hS⟩
  replace hm := bT hc hm
  refine w_reg [] [0, 1, 2, 3, 4, 10, 11, 12, 13] (fS [0, 1, 2, 3, 4, 10, 11, 12, 13] [vL g_dst dst, .int .u64 (wu64 (0 - u_)), vI base, vB neg, vB append_, vO, vN, vP b6, vI 65]) [] H13 (by kernel_rfl) trivial fun _ _ H15 hb => ?_
  replace hS := hS.below hb
  clear H13 hb
  obtain rfl := someE hm
  exact ⟨FrG.keep (ks := [0, 2, 3, 4, 10, 11, 12, 13, 1]) H15 (by kernel_rfl), hS⟩
 ·rintro _ _ ⟨H, hS⟩
  obtain ⟨z17, hz, hm⟩ := bindE hm
  refine w_cut (fun a' w' => Fr 102 (fS [0, 3, 4, 10, 11, 12, 13] [vL g_dst dst, vB neg, vB append_, vO, vN, vP b6, vI z17.1]) a' ∧ SH M X w [Ent.row .u8 b6 z17.2 (65 : Int), eI (tI .u8) dst g_dst, gE5] w') ?_ ?_
  ·replace hm := hz
   refine s_reg [(vB (strconv_isPowerOfTwo base))] [0, 1, 2, 3, 4, 10, 11, 12, 13, 34] (fS [0, 1, 2, 3, 4, 10, 11, 12, 13, 34] [vL g_dst dst, .int .u64 z11, vI base, vB neg, vB append_, vO, vN, vP b6, vI 65, vB (strconv_isPowerOfTwo base)]) [rB 87 [vI base] (vB (strconv_isPowerOfTwo base))] H (by kernel_rfl) ⟨((strconv_isPowerOfTwo_ok _).b), trivial⟩ fun _ _ H19 hb => ?_
   replace hS := hS.below hb
   clear H hb
   refine w_if H19 rfl (fun hc => ?_) (fun hc => ?c98)
   case c98 =>
    replace hm := bF hc hm
    refine s_reg [] [0, 1, 3, 4, 10, 11, 12, 13, 17] (fS [0, 1, 3, 4, 10, 11, 12, 13, 17] [vL g_dst dst, .int .u64 z11, vB neg, vB append_, vO, vN, vP b6, vI 65, .int .u64 (wu64 base)]) [] H19 (by kernel_rfl) trivial fun _ _ H62 hb => ?_
    replace hS := hS.below hb
    clear H19 hb
    obtain ⟨z63, hz, hm⟩ := bindE hm
    refine w_cut (fun a' w' => Fr 102 (fS [0, 3, 4, 10, 11, 12, 1, 13] [vL g_dst dst, vB neg, vB append_, vO, vN, vP b6, .int .u64 z63.1, vI z63.2.1]) a' ∧ SH M X w [Ent.row .u8 b6 z63.2.2 (65 : Int), eI (tI .u8) dst g_dst, gE5] w') ?_ ?_
    ·replace hm := hz
     apply w_block
     refine w_loop (fun kk a' w' => ∃ (v64 : Int) (v65 : Int) (v66 : List Int), strconv_formatBits_L2 m base kk v64 v65 v66 = some _ ∧ Fr 102 (fS [0, 3, 4, 10, 11, 12, 17, 1, 13] [vL g_dst dst, vB neg, vB append_, vO, vN, vP b6, .int .u64 (wu64 base), .int .u64 v64, vI v65]) a' ∧ SH M X w [Ent.row .u8 b6 v66 (65 : Int), eI (tI .u8) dst g_dst, gE5] w') ⟨_, z11, 65, List.replicate 65 (0 : Int), hm, FrG.keep (ks := [0, 3, 4, 10, 11, 12, 17, 1, 13]) H62 (by kernel_rfl), hS⟩ ?_
     clear hm H62 hS
     rintro kk _ _ ⟨v64, v65, v66, hm, H, hS⟩
     cases kk with
     | zero => exact noneE hm
     | succ kk =>
      rw [strconv_formatBits_L2] at hm
      apply w_seq
      refine s_reg [] [0, 1, 3, 4, 10, 11, 12, 13, 17, 68] (fS [0, 1, 3, 4, 10, 11, 12, 13, 17, 68] [vL g_dst dst, .int .u64 v64, vB neg, vB append_, vO, vN, vP b6, vI v65, .int .u64 (wu64 base), vB (decide ((wu64 base) ≤ v64))]) [] H (by kernel_rfl) trivial fun _ _ H68 hb => ?_
      replace hS := hS.below hb
      clear H hb
      refine w_if H68 rfl (fun hc => ?_) (fun hc => ?c85)
      case c85 =>
       replace hm := bF hc hm
       apply w_exit rfl
       obtain rfl := someE hm
       exact ⟨FrG.keep (ks := [0, 3, 4, 10, 11, 12, 1, 13]) H68 (by kernel_rfl), hS⟩
      replace hm := bT hc hm
      apply w_skip
      apply w_block
      refine s_reg [] [0, 1, 3, 4, 10, 11, 12, 13, 17] (fS [0, 1, 3, 4, 10, 11, 12, 13, 17] [vL g_dst dst, .int .u64 v64, vB neg, vB append_, vO, vN, vP b6, vI (w64 (v65 - 1)), .int .u64 (wu64 base)]) [] H68 (by kernel_rfl) trivial fun _ _ H70 hb => ?_
      replace hS := hS.below hb
      clear H68 hb
      obtain ⟨ho71, hm⟩ := chkE hm
      refine s_reg [] [0, 1, 3, 4, 10, 11, 12, 13, 17, 18] (fS [0, 1, 3, 4, 10, 11, 12, 13, 17, 18] [vL g_dst dst, .int .u64 v64, vB neg, vB append_, vO, vN, vP b6, vI (w64 (v65 - 1)), .int .u64 (wu64 base), .int .u64 (wu64 (Int.tdiv v64 (wu64 base)))]) [fun _ => (wu64 base) ≠ 0] H70 (by kernel_rfl) ⟨ho71, trivial⟩ fun _ _ H73 hb => ?_
      replace hS := hS.below hb
      clear H70 hb
      apply w_seq
      apply wl_start
      obtain ⟨x74, hx74, hm⟩ := letE hm
      obtain ⟨ho75, hm⟩ := chkE hm
      obtain ⟨x76, hx76, hm⟩ := letE hm
      obtain ⟨ho77, hm⟩ := chkE hm
      refine wl_batch 0 8 [] [0, 3, 4, 10, 11, 12, 13, 17, 18, 80, 81] (fS [0, 3, 4, 10, 11, 12, 13, 17, 18, 80, 81] [vL g_dst dst, vB neg, vB append_, vO, vN, vP b6, vI (w64 (v65 - 1)), .int .u64 (wu64 base), .int .u64 (wu64 (Int.tdiv v64 (wu64 base))), vU x76, .pointer (some ⟨b6, 0 + ((w64 (v65 - 1))).toNat * 1, none⟩)]) [fun _ => 0 ≤ (wu64 (v64 - x74)) ∧ (wu64 (v64 - x74)) < ln [48, 49, 50, 51, 52, 53, 54, 55, 56, 57, 97, 98, 99, 100, 101, 102, 103, 104, 105, 106, 107, 108, 109, 110, 111, 112, 113, 114, 115, 116, 117, 118, 119, 120, 121, 122], fun _ => 0 ≤ (w64 (v65 - 1)) ∧ (w64 (v65 - 1)) < (65 : Int)] H73 (by decide) (by subst hx74 hx76; kernel_rfl) ⟨ho75, ho77, trivial⟩ fun _ _ H79 hb => ?_
      replace hS := hS.below hb
      clear H73 hb
      have hd := hS.hand [0] [1, 2] rfl rfl
      refine m_stp0 [0, 3, 4, 10, 11, 12, 13, 17, 18] (fS [0, 3, 4, 10, 11, 12, 13, 17, 18] [vL g_dst dst, vB neg, vB append_, vO, vN, vP b6, vI (w64 (v65 - 1)), .int .u64 (wu64 base), .int .u64 (wu64 (Int.tdiv v64 (wu64 base)))]) H79 rfl rfl rfl (o_rstore H79 hd rfl rfl (by kernel_rfl) ho77) rfl fun _ _ H81 hq => ?_
      clear H79 hd
      obtain ⟨_, hq⟩ := hq
      obtain ⟨q82, hq82, hm⟩ := letE hm
      rw [← hq82] at hq
      replace hS : SH M X w [Ent.row .u8 b6 q82 (65 : Int), eI (tI .u8) dst g_dst, gE5] _ := hS.join [0] [1, 2] rfl rfl hq
      clear hq
      apply wl_end rfl
      refine w_reg [] [0, 1, 3, 4, 10, 11, 12, 13, 17] (fS [0, 1, 3, 4, 10, 11, 12, 13, 17] [vL g_dst dst, .int .u64 (wu64 (Int.tdiv v64 (wu64 base))), vB neg, vB append_, vO, vN, vP b6, vI (w64 (v65 - 1)), .int .u64 (wu64 base)]) [] H81 (by kernel_rfl) trivial fun _ _ H84 hb => ?_
      replace hS := hS.below hb
      clear H81 hb
      exact ⟨_, Nat.lt_succ_self _, wu64 (Int.tdiv v64 (wu64 base)), w64 (v65 - 1), q82, hm, FrG.keep (ks := [0, 3, 4, 10, 11, 12, 17, 1, 13]) H84 (by kernel_rfl), hS⟩
    ·rintro _ _ ⟨H, hS⟩
     refine s_reg [] [0, 1, 3, 4, 10, 11, 12, 13] (fS [0, 1, 3, 4, 10, 11, 12, 13] [vL g_dst dst, .int .u64 z63.1, vB neg, vB append_, vO, vN, vP b6, vI (w64 (z63.2.1 - 1))]) [] H (by kernel_rfl) trivial fun _ _ H88 hb => ?_
     replace hS := hS.below hb
     clear H hb
     apply wl_start
     obtain ⟨ho89, hm⟩ := chkE hm
     obtain ⟨x90, hx90, hm⟩ := letE hm
     obtain ⟨ho91, hm⟩ := chkE hm
     refine wl_batch 0 4 [] [0, 3, 4, 10, 11, 12, 13, 87, 88] (fS [0, 3, 4, 10, 11, 12, 13, 87, 88] [vL g_dst dst, vB neg, vB append_, vO, vN, vP b6, vI (w64 (z63.2.1 - 1)), vU x90, .pointer (some ⟨b6, 0 + ((w64 (z63.2.1 - 1))).toNat * 1, none⟩)]) [fun _ => 0 ≤ z63.1 ∧ z63.1 < ln [48, 49, 50, 51, 52, 53, 54, 55, 56, 57, 97, 98, 99, 100, 101, 102, 103, 104, 105, 106, 107, 108, 109, 110, 111, 112, 113, 114, 115, 116, 117, 118, 119, 120, 121, 122], fun _ => 0 ≤ (w64 (z63.2.1 - 1)) ∧ (w64 (z63.2.1 - 1)) < (65 : Int)] H88 (by decide) (by subst hx90; kernel_rfl) ⟨ho89, ho91, trivial⟩ fun _ _ H93 hb => ?_
     replace hS := hS.below hb
     clear H88 hb
     have hd := hS.hand [0] [1, 2] rfl rfl
     refine m_stp0 [0, 3, 4, 10, 11, 12, 13] (fS [0, 3, 4, 10, 11, 12, 13] [vL g_dst dst, vB neg, vB append_, vO, vN, vP b6, vI (w64 (z63.2.1 - 1))]) H93 rfl rfl rfl (o_rstore H93 hd rfl rfl (by kernel_rfl) ho91) rfl fun _ _ H95 hq => ?_
     clear H93 hd
     obtain ⟨_, hq⟩ := hq
     obtain ⟨q96, hq96, hm⟩ := letE hm
     rw [← hq96] at hq
     replace hS : SH M X w [Ent.row .u8 b6 q96 (65 : Int), eI (tI .u8) dst g_dst, gE5] _ := hS.join [0] [1, 2] rfl rfl hq
     clear hq
     apply wl_end rfl
     obtain rfl := someE hm
     exact ⟨FrG.keep (ks := [0, 3, 4, 10, 11, 12, 13]) H95 (by kernel_rfl), hS⟩
   replace hm := bT hc hm
   obtain ⟨y20, hy20, hm⟩ := bindE hm
   refine s_reg [(vI y20)] [0, 1, 2, 3, 4, 10, 11, 12, 13, 14] (fS [0, 1, 2, 3, 4, 10, 11, 12, 13, 14] [vL g_dst dst, .int .u64 z11, vI base, vB neg, vB append_, vO, vN, vP b6, vI 65, .int .u64 (wu64 y20)]) [rB 88 [.int .u64 (wu64 base)] (vI y20)] H19 (by kernel_rfl) ⟨(math_bits_TrailingZeros_ok _ _ hy20 _ (s0im s0nil (hS.im 2 rfl))), trivial⟩ fun _ _ H22 hb => ?_
   replace hS := hS.below hb
   clear H19 hb
   refine s_reg [] [0, 1, 2, 3, 4, 10, 11, 12, 13, 14, 15] (fS [0, 1, 2, 3, 4, 10, 11, 12, 13, 14, 15] [vL g_dst dst, .int .u64 z11, vI base, vB neg, vB append_, vO, vN, vP b6, vI 65, .int .u64 (wu64 y20), .int .u64 (wu64 base)]) [] H22 (by kernel_rfl) trivial fun _ _ H24 hb => ?_
   replace hS := hS.below hb
   clear H22 hb
   refine s_reg [] [0, 1, 3, 4, 10, 11, 12, 13, 14, 15, 16] (fS [0, 1, 3, 4, 10, 11, 12, 13, 14, 15, 16] [vL g_dst dst, .int .u64 z11, vB neg, vB append_, vO, vN, vP b6, vI 65, .int .u64 (wu64 y20), .int .u64 (wu64 base), .int .u64 (wu64 ((wu64 base) - 1))]) [] H24 (by kernel_rfl) trivial fun _ _ H26 hb => ?_
   replace hS := hS.below hb
   clear H24 hb
   obtain ⟨z27, hz, hm⟩ := bindE hm
   refine w_cut (fun a' w' => Fr 102 (fS [0, 3, 4, 10, 11, 12, 1, 13] [vL g_dst dst, vB neg, vB append_, vO, vN, vP b6, .int .u64 z27.1, vI z27.2.1]) a' ∧ SH M X w [Ent.row .u8 b6 z27.2.2 (65 : Int), eI (tI .u8) dst g_dst, gE5] w') ?_ ?_
   ·replace hm := hz
    apply w_block
    refine w_loop (fun kk a' w' => ∃ (v28 : Int) (v29 : Int) (v30 : List Int), strconv_formatBits_L1 m base y20 kk v28 v29 v30 = some _ ∧ Fr 102 (fS [0, 3, 4, 10, 11, 12, 14, 15, 16, 1, 13] [vL g_dst dst, vB neg, vB append_, vO, vN, vP b6, .int .u64 (wu64 y20), .int .u64 (wu64 base), .int .u64 (wu64 ((wu64 base) - 1)), .int .u64 v28, vI v29]) a' ∧ SH M X w [Ent.row .u8 b6 v30 (65 : Int), eI (tI .u8) dst g_dst, gE5] w') ⟨_, z11, 65, List.replicate 65 (0 : Int), hm, FrG.keep (ks := [0, 3, 4, 10, 11, 12, 14, 15, 16, 1, 13]) H26 (by kernel_rfl), hS⟩ ?_
    clear hm H26 hS
    rintro kk _ _ ⟨v28, v29, v30, hm, H, hS⟩
    cases kk with
    | zero => exact noneE hm
    | succ kk =>
     rw [strconv_formatBits_L1] at hm
     apply w_seq
     refine s_reg [] [0, 1, 3, 4, 10, 11, 12, 13, 14, 15, 16, 46] (fS [0, 1, 3, 4, 10, 11, 12, 13, 14, 15, 16, 46] [vL g_dst dst, .int .u64 v28, vB neg, vB append_, vO, vN, vP b6, vI v29, .int .u64 (wu64 y20), .int .u64 (wu64 base), .int .u64 (wu64 ((wu64 base) - 1)), vB (decide ((wu64 base) ≤ v28))]) [] H (by kernel_rfl) trivial fun _ _ H32 hb => ?_
     replace hS := hS.below hb
     clear H hb
     refine w_if H32 rfl (fun hc => ?_) (fun hc => ?c48)
     case c48 =>
      replace hm := bF hc hm
      apply w_exit rfl
      obtain rfl := someE hm
      exact ⟨FrG.keep (ks := [0, 3, 4, 10, 11, 12, 1, 13]) H32 (by kernel_rfl), hS⟩
     replace hm := bT hc hm
     apply w_skip
     apply w_block
     refine s_reg [] [0, 1, 3, 4, 10, 11, 12, 13, 14, 15, 16] (fS [0, 1, 3, 4, 10, 11, 12, 13, 14, 15, 16] [vL g_dst dst, .int .u64 v28, vB neg, vB append_, vO, vN, vP b6, vI (w64 (v29 - 1)), .int .u64 (wu64 y20), .int .u64 (wu64 base), .int .u64 (wu64 ((wu64 base) - 1))]) [] H32 (by kernel_rfl) trivial fun _ _ H34 hb => ?_
     replace hS := hS.below hb
     clear H32 hb
     apply w_seq
     apply wl_start
     obtain ⟨x35, hx35, hm⟩ := letE hm
     obtain ⟨ho36, hm⟩ := chkE hm
     obtain ⟨x37, hx37, hm⟩ := letE hm
     obtain ⟨ho38, hm⟩ := chkE hm
     refine wl_batch 0 6 [] [0, 1, 3, 4, 10, 11, 12, 13, 14, 15, 16, 53, 54] (fS [0, 1, 3, 4, 10, 11, 12, 13, 14, 15, 16, 53, 54] [vL g_dst dst, .int .u64 v28, vB neg, vB append_, vO, vN, vP b6, vI (w64 (v29 - 1)), .int .u64 (wu64 y20), .int .u64 (wu64 base), .int .u64 (wu64 ((wu64 base) - 1)), vU x37, .pointer (some ⟨b6, 0 + ((w64 (v29 - 1))).toNat * 1, none⟩)]) [fun _ => 0 ≤ x35 ∧ x35 < ln [48, 49, 50, 51, 52, 53, 54, 55, 56, 57, 97, 98, 99, 100, 101, 102, 103, 104, 105, 106, 107, 108, 109, 110, 111, 112, 113, 114, 115, 116, 117, 118, 119, 120, 121, 122], fun _ => 0 ≤ (w64 (v29 - 1)) ∧ (w64 (v29 - 1)) < (65 : Int)] H34 (by decide) (by subst hx35 hx37; kernel_rfl) ⟨ho36, ho38, trivial⟩ fun _ _ H40 hb => ?_
     replace hS := hS.below hb
     clear H34 hb
     have hd := hS.hand [0] [1, 2] rfl rfl
     refine m_stp0 [0, 1, 3, 4, 10, 11, 12, 13, 14, 15, 16] (fS [0, 1, 3, 4, 10, 11, 12, 13, 14, 15, 16] [vL g_dst dst, .int .u64 v28, vB neg, vB append_, vO, vN, vP b6, vI (w64 (v29 - 1)), .int .u64 (wu64 y20), .int .u64 (wu64 base), .int .u64 (wu64 ((wu64 base) - 1))]) H40 rfl rfl rfl (o_rstore H40 hd rfl rfl (by kernel_rfl) ho38) rfl fun _ _ H42 hq => ?_
     clear H40 hd
     obtain ⟨_, hq⟩ := hq
     obtain ⟨q43, hq43, hm⟩ := letE hm
     rw [← hq43] at hq
     replace hS : SH M X w [Ent.row .u8 b6 q43 (65 : Int), eI (tI .u8) dst g_dst, gE5] _ := hS.join [0] [1, 2] rfl rfl hq
     clear hq
     apply wl_end rfl
     obtain ⟨ho44, hm⟩ := chkE hm
     obtain ⟨x45, hx45, hm⟩ := letE hm
     refine w_reg [] [0, 1, 3, 4, 10, 11, 12, 13, 14, 15, 16] (fS [0, 1, 3, 4, 10, 11, 12, 13, 14, 15, 16] [vL g_dst dst, .int .u64 x45, vB neg, vB append_, vO, vN, vP b6, vI (w64 (v29 - 1)), .int .u64 (wu64 y20), .int .u64 (wu64 base), .int .u64 (wu64 ((wu64 base) - 1))]) [fun _ => 0 ≤ (wu64 y20)] H42 (by subst hx45; kernel_rfl) ⟨ho44, trivial⟩ fun _ _ H47 hb => ?_
     replace hS := hS.below hb
     clear H42 hb
     exact ⟨_, Nat.lt_succ_self _, x45, w64 (v29 - 1), q43, hm, FrG.keep (ks := [0, 3, 4, 10, 11, 12, 14, 15, 16, 1, 13]) H47 (by kernel_rfl), hS⟩
   ·rintro _ _ ⟨H, hS⟩
    refine s_reg [] [0, 1, 3, 4, 10, 11, 12, 13] (fS [0, 1, 3, 4, 10, 11, 12, 13] [vL g_dst dst, .int .u64 z27.1, vB neg, vB append_, vO, vN, vP b6, vI (w64 (z27.2.1 - 1))]) [] H (by kernel_rfl) trivial fun _ _ H51 hb => ?_
    replace hS := hS.below hb
    clear H hb
    apply wl_start
    obtain ⟨ho52, hm⟩ := chkE hm
    obtain ⟨x53, hx53, hm⟩ := letE hm
    obtain ⟨ho54, hm⟩ := chkE hm
    refine wl_batch 0 4 [] [0, 3, 4, 10, 11, 12, 13, 62, 63] (fS [0, 3, 4, 10, 11, 12, 13, 62, 63] [vL g_dst dst, vB neg, vB append_, vO, vN, vP b6, vI (w64 (z27.2.1 - 1)), vU x53, .pointer (some ⟨b6, 0 + ((w64 (z27.2.1 - 1))).toNat * 1, none⟩)]) [fun _ => 0 ≤ z27.1 ∧ z27.1 < ln [48, 49, 50, 51, 52, 53, 54, 55, 56, 57, 97, 98, 99, 100, 101, 102, 103, 104, 105, 106, 107, 108, 109, 110, 111, 112, 113, 114, 115, 116, 117, 118, 119, 120, 121, 122], fun _ => 0 ≤ (w64 (z27.2.1 - 1)) ∧ (w64 (z27.2.1 - 1)) < (65 : Int)] H51 (by decide) (by subst hx53; kernel_rfl) ⟨ho52, ho54, trivial⟩ fun _ _ H56 hb => ?_
    replace hS := hS.below hb
    clear H51 hb
    have hd := hS.hand [0] [1, 2] rfl rfl
    refine m_stp0 [0, 3, 4, 10, 11, 12, 13] (fS [0, 3, 4, 10, 11, 12, 13] [vL g_dst dst, vB neg, vB append_, vO, vN, vP b6, vI (w64 (z27.2.1 - 1))]) H56 rfl rfl rfl (o_rstore H56 hd rfl rfl (by kernel_rfl) ho54) rfl fun _ _ H58 hq => ?_
    clear H56 hd
    obtain ⟨_, hq⟩ := hq
    obtain ⟨q59, hq59, hm⟩ := letE hm
    rw [← hq59] at hq
    replace hS : SH M X w [Ent.row .u8 b6 q59 (65 : Int), eI (tI .u8) dst g_dst, gE5] _ := hS.join [0] [1, 2] rfl rfl hq
    clear hq
    apply wl_end rfl
    obtain rfl := someE hm
    exact ⟨FrG.keep (ks := [0, 3, 4, 10, 11, 12, 13]) H58 (by kernel_rfl), hS⟩
  ·rintro _ _ ⟨H, hS⟩
   obtain ⟨z99, hz, hm⟩ := bindE hm
   refine w_cut (fun a' w' => Fr 102 (fS [0, 4, 10, 11, 12, 13] [vL g_dst dst, vB append_, vO, vN, vP b6, vI z99.1]) a' ∧ SH M X w [Ent.row .u8 b6 z99.2 (65 : Int), eI (tI .u8) dst g_dst, gE5] w') ?_ ?_
   ·replace hm := hz
    refine s_reg [] [0, 4, 10, 11, 12, 13, 89] (fS [0, 4, 10, 11, 12, 13, 89] [vL g_dst dst, vB append_, vO, vN, vP b6, vI z17.1, vB neg]) [] H (by kernel_rfl) trivial fun _ _ H101 hb => ?_
    replace hS := hS.below hb
    clear H hb
    refine w_if H101 rfl (fun hc => ?_) (fun hc => ?c110)
    case c110 =>
     replace hm := bF hc hm
     apply w_skip
     obtain rfl := someE hm
     exact ⟨FrG.keep (ks := [0, 4, 10, 11, 12, 13]) H101 (by kernel_rfl), hS⟩
    replace hm := bT hc hm
    refine s_reg [] [0, 4, 10, 11, 12, 13] (fS [0, 4, 10, 11, 12, 13] [vL g_dst dst, vB append_, vO, vN, vP b6, vI (w64 (z17.1 - 1))]) [] H101 (by kernel_rfl) trivial fun _ _ H103 hb => ?_
    replace hS := hS.below hb
    clear H101 hb
    apply wl_start
    obtain ⟨ho104, hm⟩ := chkE hm
    refine wl_batch 0 2 [] [0, 4, 10, 11, 12, 13, 93] (fS [0, 4, 10, 11, 12, 13, 93] [vL g_dst dst, vB append_, vO, vN, vP b6, vI (w64 (z17.1 - 1)), .pointer (some ⟨b6, 0 + ((w64 (z17.1 - 1))).toNat * 1, none⟩)]) [fun _ => 0 ≤ (w64 (z17.1 - 1)) ∧ (w64 (z17.1 - 1)) < (65 : Int)] H103 (by decide) (by kernel_rfl) ⟨ho104, trivial⟩ fun _ _ H106 hb => ?_
    replace hS := hS.below hb
    clear H103 hb
    have hd := hS.hand [0] [1, 2] rfl rfl
    refine m_stp0 [0, 4, 10, 11, 12, 13] (fS [0, 4, 10, 11, 12, 13] [vL g_dst dst, vB append_, vO, vN, vP b6, vI (w64 (z17.1 - 1))]) H106 rfl rfl rfl (o_rstore H106 hd rfl rfl (by kernel_rfl) ho104) rfl fun _ _ H108 hq => ?_
    clear H106 hd
    obtain ⟨_, hq⟩ := hq
    obtain ⟨q109, hq109, hm⟩ := letE hm
    rw [← hq109] at hq
    replace hS : SH M X w [Ent.row .u8 b6 q109 (65 : Int), eI (tI .u8) dst g_dst, gE5] _ := hS.join [0] [1, 2] rfl rfl hq
    clear hq
    apply wl_end rfl
    obtain rfl := someE hm
    exact ⟨FrG.keep (ks := [0, 4, 10, 11, 12, 13]) H108 (by kernel_rfl), hS⟩
   ·rintro _ _ ⟨H, hS⟩
    apply w_seq
    refine s_reg [] [0, 10, 11, 12, 13, 94] (fS [0, 10, 11, 12, 13, 94] [vL g_dst dst, vO, vN, vP b6, vI z99.1, vB append_]) [] H (by kernel_rfl) trivial fun _ _ H112 hb => ?_
    replace hS := hS.below hb
    clear H hb
    refine w_if H112 rfl (fun hc => ?c120) (fun hc => ?_)
    case c120 =>
     replace hm := bT hc hm
     exact noneE hm
    replace hm := bF hc hm
    apply w_skip
    obtain ⟨ho116, hm⟩ := chkE hm
    refine s_reg [(vS (toB (z99.2.drop (z99.1).toNat)))] [10, 11] (fS [10, 11] [vO, vS (toB (z99.2.drop (z99.1).toNat))]) [fun _ => 0 ≤ z99.1 ∧ z99.1 < (65 : Int), fun wz => ∀ w', Below wz.heap.size wz w' → (convert 63 9 (.slice (some ⟨b6, 0 + (z99.1).toNat * 1, none⟩) (65 - (z99.1).toNat) (65 - (z99.1).toNat))).run Tryz.prog w' = .ok (vS (toB (z99.2.drop (z99.1).toNat))) w'] H112 (by kernel_rfl) ⟨ho116, (conv_rowd (E := 5) (by kernel_rfl) (by kernel_rfl) (by kernel_rfl) (hS.rw 0 rfl).1 (hS.rw 0 rfl).2), trivial⟩ fun _ _ H118 hb => ?_
    replace hS := hS.below hb
    clear H112 hb
    replace hS : SH M X w [gE5] _ := hS.sel [2] rfl
    apply w_ret
    obtain rfl := someE hm
    replace hS : SH M X w [eO 5 (tI .u8) ([] : List Int) (.nil), gE5] _ := hS.addNil 5 (tI .u8)
    exact retR2 H118 rfl rfl rfl ⟨_, rfl, Gh.nil, rfl, (hS.sel [0] rfl)⟩
theorem strconv_formatBits_ok {g_dst : Gh} (m : Nat) (dst : List Int) (u_ : Int) (base : Int) (neg : Bool) (append_ : Bool) (r : (List Int) × Str) (hm : strconv_formatBits m dst u_ base neg append_ = some r) (M : Av) (w : World) (hS : S0 M [eI (tI .u8) dst g_dst, gE5] w) : DoesX Tryz.prog 69 ⟨[vL g_dst dst, .int .u64 u_, vI base, vB neg, vB append_]⟩ w (fun v w' => ∃ (g901 : Gh), v = vW [vL g901 r.1, vS r.2] ∧ SH M (fpl [eI (tI .u8) dst g_dst, gE5]) w [eO 5 (tI .u8) r.1 g901] w') := ⟨Tryz.call69 _, strconv_formatBits_w M m   dst u_ base neg append_ r hm w hS⟩

theorem strconv_FormatInt_2_w  (M : Av) (m : Nat) (i : Int) (base : Int) (r : Str) (hm : strconv_FormatInt_2 m i base = some r) (w : World) (hS : S0 M [gE5] w) : Calls Tryz.prog 48 ⟨[vI i, vI base]⟩ w (fun e w' => ∃ v, e = .returned v ∧ v = vS r ∧ SH M (fpl [gE5]) w [] w') := by
 rw [strconv_FormatInt_2] at hm
 have hS0 : SH M (fpl [gE5]) w [gE5] w := hS
 generalize hX : fpl [gE5] = X at hS0 ⊢
 clear hS hX
 have hS := hS0
 clear hS0
 refine calls_entryP Tryz.func48 rfl Tryz.ntmps48 rfl fun _ H => ?_
 refine s_reg [] [0, 1] (fS [0, 1] [vI i, vI base]) [] H (by kernel_rfl) trivial fun _ _ H2 hb => ?_
 replace hS := hS.below hb
 clear H hb
 apply w_seq
 refine s_reg [] [0, 1, 11] (fS [0, 1, 11] [vI i, vI base, vB (base == 10)]) [] H2 (by kernel_rfl) trivial fun _ _ H4 hb => ?_
 replace hS := hS.below hb
 clear H2 hb
 refine w_if H4 rfl (fun hc => ?_) (fun hc => ?c36)
 case c36 =>
  replace hm := bF hc hm
  apply w_skip
  apply w_seq
  apply wl_start
  refine wl_batch 0 5 [] [46, 47, 49] (fS [46, 47, 49] [.int .u64 (wu64 i), vI base, vB (decide (i < 0))]) [] H4 (by decide) (by kernel_rfl) trivial fun _ _ H25 hb => ?_
  replace hS := hS.below hb
  clear H4 hb
  replace hS : SH M X w [eO 5 (tI .u8) ([] : List Int) (.nil), gE5] _ := hS.addNil 5 (tI .u8)
  replace hS : SH M X w [eI (tI .u8) ([] : List Int) (.nil), gE5] _ := SH.frz1 (hS.sel [0, 1] rfl)
  obtain ⟨y27, hy27, hm⟩ := bindE hm
  have hd := hS.hand [0, 1] [0, 1] rfl rfl
  refine m_stp [50] [] H25 rfl rfl rfl rfl (o_callx H25 rfl rfl (strconv_formatBits_ok (g_dst := Gh.nil) m _ _ _ _ _ _ hy27 _ _ hd)) (fun _ => rfl) fun _ _ v H31 hq => ?_
  clear H25 hd
  obtain ⟨g28, rfl, hq⟩ := hq
  replace hS : SH M X w [eO 5 (tI .u8) y27.1 g28, eI (tI .u8) ([] : List Int) (.nil), gE5] _ := hS.join [0, 1] [0, 1] rfl rfl hq
  clear hq
  refine wl_batch 6 11 [] [9] [(9, [], vS y27.2)] [] H31 (by decide) (by kernel_rfl) trivial fun _ _ H33 hb => ?_
  replace hS := hS.below hb
  clear H31 hb
  apply wl_end rfl
  replace hS : SH M X w [gE5] _ := hS.sel [2] rfl
  refine s_reg [] [4] [(4, [], vS y27.2)] [] H33 (by kernel_rfl) trivial fun _ _ H35 hb => ?_
  replace hS := hS.below hb
  clear H33 hb
  apply w_ret
  obtain rfl := someE hm
  exact retR1 H35 rfl rfl ⟨_, rfl, rfl, (hS.sel [] rfl)⟩
 replace hm := bT hc hm
 apply w_seq
 obtain ⟨x5, hx5, hm⟩ := letE hm
 refine s_reg [] [0, 17] (fS [0, 17] [vI i, vB x5]) [] H4 (by subst hx5; kernel_rfl) trivial fun _ _ H7 hb => ?_
 replace hS := hS.below hb
 clear H4 hb
 refine w_if H7 rfl (fun hc => ?c23) (fun hc => ?_)
 case c23 =>
  replace hm := bT hc hm
  obtain ⟨y8, hy8, hm⟩ := bindE hm
  refine s_reg [(vS y8)] [4] [(4, [], vS y8)] [rB 66 [vI i] (vS y8)] H7 (by kernel_rfl) ⟨((strconv_small_ok _ _ hy8).b), trivial⟩ fun _ _ H10 hb => ?_
  replace hS := hS.below hb
  clear H7 hb
  apply w_ret
  obtain rfl := someE hm
  exact retR1 H10 rfl rfl ⟨_, rfl, rfl, (hS.sel [] rfl)⟩
 replace hm := bF hc hm
 apply w_skip
 apply w_seq
 apply wl_start
 have hd := hS.hand [] [0] rfl rfl
 refine m_stp [5, 0] [(0, [], vI i)] H7 rfl rfl rfl rfl (o_allocR .u8 [0, 0, 0, 0, 0, 0, 0, 0, 0, 0, 0, 0, 0, 0, 0, 0, 0, 0, 0, 0, 0, 0, 0, 0] (z := vG [vU 0, vU 0, vU 0, vU 0, vU 0, vU 0, vU 0, vU 0, vU 0, vU 0, vU 0, vU 0, vU 0, vU 0, vU 0, vU 0, vU 0, vU 0, vU 0, vU 0, vU 0, vU 0, vU 0, vU 0]) hd (by kernel_rfl) rfl) (fun _ => rfl) fun _ _ v H13 hq => ?_
 clear H7 hd
 obtain ⟨b11, rfl, hq⟩ := hq
 replace hS : SH M X w [Ent.row .u8 b11 [0, 0, 0, 0, 0, 0, 0, 0, 0, 0, 0, 0, 0, 0, 0, 0, 0, 0, 0, 0, 0, 0, 0, 0] (24 : Int), gE5] _ := hS.join [] [0] rfl rfl hq
 clear hq
 apply wl_end rfl
 refine s_reg [] [0, 5, 6] (fS [0, 5, 6] [vI i, vP b11, .int .u64 (wu64 i)]) [] H13 (by kernel_rfl) trivial fun _ _ H15 hb => ?_
 replace hS := hS.below hb
 clear H13 hb
 obtain ⟨z16, hz, hm⟩ := bindE hm
 refine w_cut (fun a' w' => Fr 54 (fS [0, 5, 6] [vI i, vP b11, .int .u64 z16]) a' ∧ SH M X w [Ent.row .u8 b11 [0, 0, 0, 0, 0, 0, 0, 0, 0, 0, 0, 0, 0, 0, 0, 0, 0, 0, 0, 0, 0, 0, 0, 0] (24 : Int), gE5] w') ?_ ?_
 ·replace hm := hz
  refine s_reg [] [0, 5, 6, 23] (fS [0, 5, 6, 23] [vI i, vP b11, .int .u64 (wu64 i), vB (decide (i < 0))]) [] H15 (by kernel_rfl) trivial fun _ _ H18 hb => ?_
  replace hS := hS.below hb
  clear H15 hb
  refine w_if H18 rfl (fun hc => ?_) (fun hc => ?c21)
  case c21 =>
   replace hm := bF hc hm
   apply w_skip
   obtain rfl := someE hm
   exact ⟨FrG.keep (ks := [0, 5, 6]) H18 (by kernel_rfl), hS⟩
  replace hm := bT hc hm
  refine w_reg [] [0, 5, 6] (fS [0, 5, 6] [vI i, vP b11, .int .u64 (wu64 (0 - (wu64 i)))]) [] H18 (by kernel_rfl) trivial fun _ _ H20 hb => ?_
  replace hS := hS.below hb
  clear H18 hb
  obtain rfl := someE hm
  exact ⟨FrG.keep (ks := [0, 5, 6]) H20 (by kernel_rfl), hS⟩
 ·rintro _ _ ⟨H, hS⟩
  exact noneE hm
theorem strconv_FormatInt_2_ok  (m : Nat) (i : Int) (base : Int) (r : Str) (hm : strconv_FormatInt_2 m i base = some r) (w : World) (hL : S0 F0 [gE5] w ∧ fpl [gE5] = []) : RetB Tryz.prog 48 ⟨[vI i, vI base]⟩ (vS r) w := retB_of hL (Tryz.call48 _) (fun w' h => strconv_FormatInt_2_w F0 m   i base r hm w' h)

theorem strconv_FormatInt_w  (M : Av) (m : Nat) (i : Int) (r : Str) (hm : strconv_FormatInt m i = some r) (w : World) (hS : S0 M [gE5] w) : Calls Tryz.prog 30 ⟨[vI i, vI 16]⟩ w (fun e w' => ∃ v, e = .returned v ∧ v = vS r ∧ SH M (fpl [gE5]) w [] w') := by
 rw [strconv_FormatInt] at hm
 have hS0 : SH M (fpl [gE5]) w [gE5] w := hS
 generalize hX : fpl [gE5] = X at hS0 ⊢
 clear hS hX
 have hS := hS0
 clear hS0
 refine calls_entryP Tryz.func30 rfl Tryz.ntmps30 rfl fun _ H => ?_
 refine s_reg [] [0, 1] (fS [0, 1] [vI i, vI 16]) [] H (by kernel_rfl) trivial fun _ _ H2 hb => ?_
 replace hS := hS.below hb
 clear H hb
 obtain ⟨y3, hy3, hm⟩ := bindE hm
 refine s_reg [(vS y3)] [4] [(4, [], vS y3)] [rB 48 [vI i, vI 16] (vS y3)] H2 (by kernel_rfl) ⟨(strconv_FormatInt_2_ok m _ _ _ hy3 _ (s0im s0nil (hS.im 0 rfl))), trivial⟩ fun _ _ H5 hb => ?_
 replace hS := hS.below hb
 clear H2 hb
 apply w_ret
 obtain rfl := someE hm
 exact retR1 H5 rfl rfl ⟨_, rfl, rfl, (hS.sel [] rfl)⟩
theorem strconv_FormatInt_ok  (m : Nat) (i : Int) (r : Str) (hm : strconv_FormatInt m i = some r) (w : World) (hL : S0 F0 [gE5] w ∧ fpl [gE5] = []) : RetB Tryz.prog 30 ⟨[vI i, vI 16]⟩ (vS r) w := retB_of hL (Tryz.call30 _) (fun w' h => strconv_FormatInt_w F0 m   i r hm w' h)

theorem parseval_Shown_w  (M : Av) (m : Nat) (c_ : TColor) (r : Str) (hm : parseval_Shown m c_ = some r) (w : World) (hS : S0 M [Ent.tab 0 (Lib.pow10Tab.map fun z => Value.int .u64 z), gE5] w) : Calls Tryz.prog 13 ⟨[vG (cC c_)]⟩ w (fun e w' => ∃ v, e = .returned v ∧ v = vS r ∧ SH M (fpl [Ent.tab 0 (Lib.pow10Tab.map fun z => Value.int .u64 z), gE5]) w [] w') := by
 rw [parseval_Shown] at hm
 have hS0 : SH M (fpl [Ent.tab 0 (Lib.pow10Tab.map fun z => Value.int .u64 z), gE5]) w [Ent.tab 0 (Lib.pow10Tab.map fun z => Value.int .u64 z), gE5] w := hS
 generalize hX : fpl [Ent.tab 0 (Lib.pow10Tab.map fun z => Value.int .u64 z), gE5] = X at hS0 ⊢
 clear hS hX
 have hS := hS0
 clear hS0
 refine calls_entryP Tryz.func13 rfl Tryz.ntmps13 rfl fun _ H => ?_
 apply w_seq
 apply wl_start
 have hd := hS.hand [] [0, 1] rfl rfl
 refine m_stp [1] [] H rfl rfl rfl rfl (o_box (cC c_) H hd rfl rfl) (fun _ => rfl) fun _ _ v H3 hq => ?_
 clear H hd
 obtain ⟨b1, rfl, hq⟩ := hq
 replace hS : SH M X w [eB b1 (cC c_), Ent.tab 0 (Lib.pow10Tab.map fun z => Value.int .u64 z), gE5] _ := hS.join [] [0, 1] rfl rfl hq
 clear hq
 refine wl_batch 1 2 [] [1] [(1, [], vP b1)] [] H3 (by decide) (by kernel_rfl) trivial fun _ _ H5 hb => ?_
 replace hS := hS.below hb
 clear H3 hb
 apply wl_end rfl
 apply w_seq
 apply wl_start
 refine wl_batch 0 9 [(vU c_.Red), (vU c_.Green), (vU c_.Blue), (vU c_.Alpha)] [1, 18] (fS [1, 18] [vP b1, vG (cC c_)]) [rA b1 0 (vU c_.Red), rA b1 1 (vU c_.Green), rA b1 2 (vU c_.Blue), rA b1 3 (vU c_.Alpha)] H5 (by decide) (by kernel_rfl) ⟨((hS.bk 0 rfl).at1 rfl), ((hS.bk 0 rfl).at1 rfl), ((hS.bk 0 rfl).at1 rfl), ((hS.bk 0 rfl).at1 rfl), trivial⟩ fun _ _ H7 hb => ?_
 replace hS := hS.below hb
 clear H5 hb
 have hd := hS.hand [] [0, 1, 2] rfl rfl
 refine m_stp [3, 1, 18] (fS [1, 18] [vP b1, vG (cC c_)]) H7 rfl rfl rfl rfl (o_alloc [vU 0, vU 0, vU 0, vU 0] (z := vG [vU 0, vU 0, vU 0, vU 0]) hd (by kernel_rfl) rfl) (fun _ => rfl) fun _ _ v H10 hq => ?_
 clear H7 hd
 obtain ⟨b8, rfl, hq⟩ := hq
 replace hS : SH M X w [eB b8 [vU 0, vU 0, vU 0, vU 0], eB b1 (cC c_), Ent.tab 0 (Lib.pow10Tab.map fun z => Value.int .u64 z), gE5] _ := hS.join [] [0, 1, 2] rfl rfl hq
 clear hq
 have hd := hS.hand [0] [1, 2, 3] rfl rfl
 refine m_stp0 [1, 3] (fS [1, 3] [vP b1, vP b8]) H10 rfl rfl rfl (o_store (cC c_) H10 hd rfl rfl (by kernel_rfl) rfl rfl rfl) rfl fun _ _ H12 hq => ?_
 clear H10 hd
 obtain ⟨_, hq⟩ := hq
 replace hS : SH M X w [eB b8 (cC c_), eB b1 (cC c_), Ent.tab 0 (Lib.pow10Tab.map fun z => Value.int .u64 z), gE5] _ := hS.join [0] [1, 2, 3] rfl rfl hq
 clear hq
 apply wl_end rfl
 obtain ⟨z13, hz, hm_z13⟩ := bindE hm
 refine w_cut (fun a' w' => ∃ s_z13 : Unit, z13 = Sum.inr s_z13 ∧ Fr 52 [(3, [], vP b8)] a' ∧ SH M X w [eB b8 (cC c_), eB b1 (cC c_), Ent.tab 0 (Lib.pow10Tab.map fun z => Value.int .u64 z), gE5] w') ?_ ?_
 ·replace hm := hz
  refine s_reg [(vU c_.Alpha)] [3, 21] (fS [3, 21] [vP b8, vB (c_.Alpha == 255)]) [rA b1 3 (vU c_.Alpha)] H12 (by kernel_rfl) ⟨((hS.bk 1 rfl).at1 rfl), trivial⟩ fun _ _ H15 hb => ?_
  replace hS := hS.below hb
  clear H12 hb
  refine w_if H15 rfl (fun hc => ?_) (fun hc => ?c58)
  case c58 =>
   replace hm := bF hc hm
   apply w_skip
   obtain rfl := someE hm
   exact ⟨_, rfl, FrG.keep (ks := [3]) H15 (by kernel_rfl), hS⟩
  replace hm := bT hc hm
  refine s_reg [] [3, 4] (fS [3, 4] [vP b8, vO]) [] H15 (by kernel_rfl) trivial fun _ _ H17 hb => ?_
  replace hS := hS.below hb
  clear H15 hb
  replace hS : SH M X w [Ent.row .u8 b8 [c_.Red, c_.Green, c_.Blue, c_.Alpha] (4 : Int), eB b1 (cC c_), Ent.tab 0 (Lib.pow10Tab.map fun z => Value.int .u64 z), gE5] _ := SH.toRow (q := [c_.Red, c_.Green, c_.Blue, c_.Alpha]) rfl (hS.sel [0, 1, 2, 3] rfl)
  obtain ⟨z18, hz, hm⟩ := bindE hm
  refine w_cut (fun a' w' => ∃ (g50 : Gh), Fr 52 [(4, [], vL g50 z18)] a' ∧ SH M X w [eO 9 tS z18 g50, Ent.row .u8 b8 [c_.Red, c_.Green, c_.Blue, c_.Alpha] (4 : Int), eB b1 (cC c_), Ent.tab 0 (Lib.pow10Tab.map fun z => Value.int .u64 z), gE5] w') ?_ ?_
  ·replace hm := hz
   refine s_reg [] [4, 22, 23, 24] (fS [4, 22, 23, 24] [vO, .slice (some ⟨b8, 0, none⟩) 3 4, vI (3 : Int), vI 0]) [fun _ => 0 ≤ (3 : Int) ∧ (3 : Int) ≤ (4 : Int)] H17 (by kernel_rfl) ⟨(⟨by decide, by decide⟩), trivial⟩ fun _ _ H20 hb => ?_
   replace hS := hS.below hb
   clear H17 hb
   apply w_block
   replace hS : SH M X w [eO 9 tS ([] : List Str) (.nil), Ent.row .u8 b8 [c_.Red, c_.Green, c_.Blue, c_.Alpha] (4 : Int), eB b1 (cC c_), Ent.tab 0 (Lib.pow10Tab.map fun z => Value.int .u64 z), gE5] _ := hS.addNil 9 tS
   refine w_loop (fun kk a' w' => ∃ (v22 : List Str) (v24 : Int) (g23 : Gh), parseval_Shown_L1 m c_ kk v22 v24 = some _ ∧ Fr 52 (fS [22, 23, 4, 24] [.slice (some ⟨b8, 0, none⟩) 3 4, vI (3 : Int), vL g23 v22, vI v24]) a' ∧ SH M X w [eO 9 tS v22 g23, Ent.row .u8 b8 [c_.Red, c_.Green, c_.Blue, c_.Alpha] (4 : Int), eB b1 (cC c_), Ent.tab 0 (Lib.pow10Tab.map fun z => Value.int .u64 z), gE5] w') ⟨_, ([] : List Str), 0, Gh.nil, hm, FrG.keep (ks := [22, 23, 4, 24]) H20 (by kernel_rfl), hS⟩ ?_
   clear hm H20 hS
   rintro kk _ _ ⟨v22, v24, g23, hm, H, hS⟩
   cases kk with
   | zero => exact noneE hm
   | succ kk =>
    rw [parseval_Shown_L1] at hm
    refine s_reg [] [4, 22, 23, 24, 25] (fS [4, 22, 23, 24, 25] [vL g23 v22, .slice (some ⟨b8, 0, none⟩) 3 4, vI (3 : Int), vI v24, vB (decide (v24 < (3 : Int)))]) [] H (by kernel_rfl) trivial fun _ _ H26 hb => ?_
    replace hS := hS.below hb
    clear H hb
    apply w_seq
    refine w_if H26 rfl (fun hc => ?_) (fun hc => ?c48)
    case c48 =>
     replace hm := bF hc hm
     apply w_exit rfl
     obtain rfl := someE hm
     exact ⟨g23, FrG.keep (ks := [4]) H26 (by kernel_rfl), hS⟩
    replace hm := bT hc hm
    apply w_skip
    apply w_seq
    apply w_block
    obtain ⟨ho27, hm⟩ := chkE hm
    obtain ⟨ho28, hm⟩ := chkE hm
    obtain ⟨x29, hx29, hm⟩ := letE hm
    refine s_reg [(vU (gi [c_.Red, c_.Green, c_.Blue, c_.Alpha] v24))] [4, 6, 22, 23, 24] (fS [4, 6, 22, 23, 24] [vL g23 v22, vU x29, .slice (some ⟨b8, 0, none⟩) 3 4, vI (3 : Int), vI v24]) [fun _ => oka (some ⟨b8, 0, none⟩) ∧ 0 ≤ v24 ∧ v24 < (3 : Int), fun wz => V.at1 ⟨b8, 0 + (v24).toNat * 1, none⟩ (vU (gi [c_.Red, c_.Green, c_.Blue, c_.Alpha] v24)) wz] H26 (by subst hx29; kernel_rfl) ⟨(⟨rfl, ho27⟩), (Rw.ixn (hS.rw 1 rfl) ho28), trivial⟩ fun _ _ H31 hb => ?_
    replace hS := hS.below hb
    clear H26 hb
    apply wl_start
    obtain ⟨y32, hy32, hm⟩ := bindE hm
    refine wl_batch 0 4 [(vS y32)] [22, 23, 24, 28, 31] (fS [22, 23, 24, 28, 31] [.slice (some ⟨b8, 0, none⟩) 3 4, vI (3 : Int), vI v24, vL g23 v22, vS y32]) [rB 28 [vI (w64 x29)] (vS y32)] H31 (by decide) (by kernel_rfl) ⟨(x_Itoa_ok _ _ hy32 _ (s0tab s0nil (hS.at 3 rfl))), trivial⟩ fun _ _ H34 hb => ?_
    replace hS := hS.below hb
    clear H31 hb
    have hd := hS.hand [] [0, 1, 2, 3, 4] rfl rfl
    refine m_stp [32, 22, 23, 24, 28] (fS [22, 23, 24, 28] [.slice (some ⟨b8, 0, none⟩) 3 4, vI (3 : Int), vI v24, vL g23 v22]) H34 rfl rfl rfl rfl (o_lit (T := tS) (E := 9) (zv := vN) [vS y32] ([y32] : List Str) [gL []] _ H34 hd rfl (by kernel_rfl) (by kernel_rfl) (by kernel_rfl) (by kernel_rfl) (by kernel_rfl) (by kernel_rfl) (by kernel_rfl) rfl (InnL.cons trivial InnL.nil)) (fun _ => rfl) fun _ _ v H38 hq => ?_
    clear H34 hd
    obtain ⟨g35, rfl, hq⟩ := hq
    replace hS : SH M X w [eO 9 tS ([y32] : List Str) g35, eO 9 tS v22 g23, Ent.row .u8 b8 [c_.Red, c_.Green, c_.Blue, c_.Alpha] (4 : Int), eB b1 (cC c_), Ent.tab 0 (Lib.pow10Tab.map fun z => Value.int .u64 z), gE5] _ := hS.join [] [0, 1, 2, 3, 4] rfl rfl hq
    clear hq
    obtain ⟨ho39, hm⟩ := chkE hm
    obtain ⟨q40, hq40, hm⟩ := letE hm
    have hd := hS.hand [1, 0] [2, 3, 4, 5] rfl rfl
    refine m_stp [33, 22, 23, 24] (fS [22, 23, 24] [.slice (some ⟨b8, 0, none⟩) 3 4, vI (3 : Int), vI v24]) H38 rfl rfl rfl rfl (o_app2 (T := tS) (zv := vN) (g1 := g23) (g2 := g35) (l1 := v22) (l2 := ([y32] : List Str)) q40 hq40.symm H38 hd rfl rfl rfl rfl rfl rfl rfl (by kernel_rfl) (by kernel_rfl) rfl rfl ho39) (fun _ => rfl) fun _ _ v H42 hq => ?_
    clear H38 hd
    obtain ⟨g43, rfl, hq⟩ := hq
    replace hS : SH M X w [eO 9 tS q40 g43, eO 9 tS ([y32] : List Str) g35, Ent.row .u8 b8 [c_.Red, c_.Green, c_.Blue, c_.Alpha] (4 : Int), eB b1 (cC c_), Ent.tab 0 (Lib.pow10Tab.map fun z => Value.int .u64 z), gE5] _ := hS.join [1, 0] [2, 3, 4, 5] rfl rfl hq
    clear hq
    refine wl_batch 6 7 [] [4, 22, 23, 24] (fS [4, 22, 23, 24] [vL g43 q40, .slice (some ⟨b8, 0, none⟩) 3 4, vI (3 : Int), vI v24]) [] H42 (by decide) (by kernel_rfl) trivial fun _ _ H45 hb => ?_
    replace hS := hS.below hb
    clear H42 hb
    apply wl_end rfl
    replace hS : SH M X w [eO 9 tS q40 g43, Ent.row .u8 b8 [c_.Red, c_.Green, c_.Blue, c_.Alpha] (4 : Int), eB b1 (cC c_), Ent.tab 0 (Lib.pow10Tab.map fun z => Value.int .u64 z), gE5] _ := hS.sel [0, 2, 3, 4, 5] rfl
    refine w_reg [] [4, 22, 23, 24] (fS [4, 22, 23, 24] [vL g43 q40, .slice (some ⟨b8, 0, none⟩) 3 4, vI (3 : Int), vI (w64 (v24 + 1))]) [] H45 (by kernel_rfl) trivial fun _ _ H47 hb => ?_
    replace hS := hS.below hb
    clear H45 hb
    exact ⟨_, Nat.lt_succ_self _, q40, w64 (v24 + 1), g43, hm, FrG.keep (ks := [22, 23, 4, 24]) H47 (by kernel_rfl), hS⟩
  ·rintro _ _ ⟨g50, H, hS⟩
   obtain ⟨y52, hy52, hm⟩ := bindE hm
   obtain ⟨ho53, hm⟩ := chkE hm
   obtain ⟨ho54, hm⟩ := chkE hm
   refine s_reg [(vS y52)] [2] [(2, [], vS (([114, 103, 98, 40] ++ y52) ++ [41]))] [rB 29 [vL g50 z18, vS [44, 32]] (vS y52), fun _ => ln [114, 103, 98, 40] + ln y52 ≤ 9223372036854775807, fun _ => ln ([114, 103, 98, 40] ++ y52) + ln [41] ≤ 9223372036854775807] H (by kernel_rfl) ⟨(strings_Join_ok (g_elems := g50) m _ _ _ hy52 _ (s0im s0nil (hS.osl 0 rfl))), ho53, ho54, trivial⟩ fun _ _ H56 hb => ?_
   replace hS := hS.below hb
   clear H hb
   replace hS : SH M X w [Ent.row .u8 b8 [c_.Red, c_.Green, c_.Blue, c_.Alpha] (4 : Int), eB b1 (cC c_), Ent.tab 0 (Lib.pow10Tab.map fun z => Value.int .u64 z), gE5] _ := hS.sel [1, 2, 3, 4] rfl
   apply w_ret
   obtain rfl := someE hm
   have hm := hm_z13
   obtain rfl := someE hm
   exact retR1 H56 rfl rfl ⟨_, rfl, rfl, (hS.sel [] rfl)⟩
 ·rintro _ _ ⟨s_z13, hz, H, hS⟩
  subst hz
  replace hm := sumR hm_z13
  replace hS : SH M X w [eB b8 (cC c_), Ent.tab 0 (Lib.pow10Tab.map fun z => Value.int .u64 z), gE5] _ := hS.sel [0, 2, 3] rfl
  refine s_reg [] [3, 7] (fS [3, 7] [vP b8, vS [35]]) [] H (by kernel_rfl) trivial fun _ _ H60 hb => ?_
  replace hS := hS.below hb
  clear H hb
  obtain ⟨z61, hz, hm⟩ := bindE hm
  refine w_cut (fun a' w' => Fr 52 [(7, [], vS z61)] a' ∧ SH M X w [eB b8 (cC c_), Ent.tab 0 (Lib.pow10Tab.map fun z => Value.int .u64 z), gE5] w') ?_ ?_
  ·replace hm := hz
   refine s_reg [(vG (cC c_))] [7, 39, 40] (fS [7, 39, 40] [vS [35], vG (cC c_), vI 0]) [rN b8 0 (cC c_)] H60 (by kernel_rfl) ⟨((hS.bk 0 rfl).atD rfl), trivial⟩ fun _ _ H63 hb => ?_
   replace hS := hS.below hb
   clear H60 hb
   apply w_block
   refine w_loop (fun kk a' w' => ∃ (v64 : Str) (v65 : Int), parseval_Shown_L2 m c_ kk v64 v65 = some _ ∧ Fr 52 (fS [39, 7, 40] [vG (cC c_), vS v64, vI v65]) a' ∧ SH M X w [eB b8 (cC c_), Ent.tab 0 (Lib.pow10Tab.map fun z => Value.int .u64 z), gE5] w') ⟨_, [35], 0, hm, FrG.keep (ks := [39, 7, 40]) H63 (by kernel_rfl), hS⟩ ?_
   clear hm H63 hS
   rintro kk _ _ ⟨v64, v65, hm, H, hS⟩
   cases kk with
   | zero => exact noneE hm
   | succ kk =>
    rw [parseval_Shown_L2] at hm
    refine s_reg [] [7, 39, 40, 41] (fS [7, 39, 40, 41] [vS v64, vG (cC c_), vI v65, vB (decide (v65 < 4))]) [] H (by kernel_rfl) trivial fun _ _ H67 hb => ?_
    replace hS := hS.below hb
    clear H hb
    apply w_seq
    refine w_if H67 rfl (fun hc => ?_) (fun hc => ?c79)
    case c79 =>
     replace hm := bF hc hm
     apply w_exit rfl
     obtain rfl := someE hm
     exact ⟨FrG.keep (ks := [7]) H67 (by kernel_rfl), hS⟩
    replace hm := bT hc hm
    apply w_skip
    apply w_seq
    apply w_block
    obtain ⟨ho68, hm⟩ := chkE hm
    obtain ⟨x69, hx69, hm⟩ := letE hm
    refine s_reg [] [7, 9, 39, 40] (fS [7, 9, 39, 40] [vS v64, vU x69, vG (cC c_), vI v65]) [fun _ => 0 ≤ v65 ∧ v65 < (4 : Int)] H67 (by subst hx69; kernel_rfl) ⟨ho68, trivial⟩ fun _ _ H71 hb => ?_
    replace hS := hS.below hb
    clear H67 hb
    obtain ⟨y72, hy72, hm⟩ := bindE hm
    obtain ⟨ho73, hm⟩ := chkE hm
    obtain ⟨ho74, hm⟩ := chkE hm
    refine w_reg [(vS y72)] [7, 39, 40] (fS [7, 39, 40] [vS (v64 ++ (sub y72 1 (ln y72))), vG (cC c_), vI v65]) [rB 30 [vI (w64 (256 + (w64 x69))), vI 16] (vS y72), fun _ => 0 ≤ (1 : Int) ∧ (1 : Int) ≤ ln y72, fun _ => ln v64 + ln (sub y72 1 (ln y72)) ≤ 9223372036854775807] H71 (by kernel_rfl) ⟨(strconv_FormatInt_ok m _ _ hy72 _ (s0im s0nil (hS.im 2 rfl))), ho73, ho74, trivial⟩ fun _ _ H76 hb => ?_
    replace hS := hS.below hb
    clear H71 hb
    refine w_reg [] [7, 39, 40] (fS [7, 39, 40] [vS (v64 ++ (sub y72 1 (ln y72))), vG (cC c_), vI (w64 (v65 + 1))]) [] H76 (by kernel_rfl) trivial fun _ _ H78 hb => ?_
    replace hS := hS.below hb
    clear H76 hb
    exact ⟨_, Nat.lt_succ_self _, v64 ++ (sub y72 1 (ln y72)), w64 (v65 + 1), hm, FrG.keep (ks := [39, 7, 40]) H78 (by kernel_rfl), hS⟩
  ·rintro _ _ ⟨H, hS⟩
   replace hS : SH M X w [Ent.tab 0 (Lib.pow10Tab.map fun z => Value.int .u64 z), gE5] _ := hS.sel [1, 2] rfl
   refine s_reg [] [2] [(2, [], vS z61)] [] H (by kernel_rfl) trivial fun _ _ H82 hb => ?_
   replace hS := hS.below hb
   clear H hb
   apply w_ret
   obtain rfl := someE hm
   exact retR1 H82 rfl rfl ⟨_, rfl, rfl, (hS.sel [] rfl)⟩
theorem parseval_Shown_ok  (m : Nat) (c_ : TColor) (r : Str) (hm : parseval_Shown m c_ = some r) (w : World) (hL : S0 F0 [Ent.tab 0 (Lib.pow10Tab.map fun z => Value.int .u64 z), gE5] w ∧ fpl [Ent.tab 0 (Lib.pow10Tab.map fun z => Value.int .u64 z), gE5] = []) : RetB Tryz.prog 13 ⟨[vG (cC c_)]⟩ (vS r) w := retB_of hL (Tryz.call13 _) (fun w' h => parseval_Shown_w F0 m   c_ r hm w' h)

theorem law26_alive_w  (M : Av) (m : Nat)  (r : Bool) (hm : law26_alive m = some r) (w : World) (hS : S0 M [gE1, Ent.tab 0 (Lib.pow10Tab.map fun z => Value.int .u64 z), gE5] w) : Calls Tryz.prog 8 ⟨[]⟩ w (fun e w' => ∃ v, e = .returned v ∧ v = vB r ∧ SH M (fpl [gE1, Ent.tab 0 (Lib.pow10Tab.map fun z => Value.int .u64 z), gE5]) w [] w') := by
 rw [law26_alive] at hm
 have hS0 : SH M (fpl [gE1, Ent.tab 0 (Lib.pow10Tab.map fun z => Value.int .u64 z), gE5]) w [gE1, Ent.tab 0 (Lib.pow10Tab.map fun z => Value.int .u64 z), gE5] w := hS
 generalize hX : fpl [gE1, Ent.tab 0 (Lib.pow10Tab.map fun z => Value.int .u64 z), gE5] = X at hS0 ⊢
 clear hS hX
 have hS := hS0
 clear hS0
 refine calls_entryP Tryz.func8 rfl Tryz.ntmps8 rfl fun _ H => ?_
 refine s_reg [] [] [] [] H (by kernel_rfl) trivial fun _ _ H2 hb => ?_
 replace hS := hS.below hb
 clear H hb
 obtain ⟨y3, hy3, hm⟩ := bindE hm
 obtain ⟨y4, hy4, hm⟩ := bindE hm
 obtain ⟨y5, hy5, hm⟩ := bindE hm
 refine s_reg [(vB y3), (vB y4), (vB y5)] [1] [(1, [], vB (cond (cond y3 y4 false) y5 false))] [rB 16 [vS [82, 69, 68], vG [vU 255, vU 0, vU 0, vU 255]] (vB y3), fun wz => (y3 = true ∧ True → RetB Tryz.prog 16 ⟨[vS [35, 48, 102, 48, 56], vG [vU 0, vU 255, vU 0, vU 136]]⟩ (vB y4) wz), fun wz => ((cond y3 y4 false) = true ∧ True → RetB Tryz.prog 16 ⟨[vS [114, 103, 98, 40, 49, 46, 57, 32, 45, 50, 32, 51, 48, 48, 32, 47, 32, 48, 46, 53, 41], vG [vU 1, vU 0, vU 255, vU 127]]⟩ (vB y5) wz)] H2 (by kernel_rfl) ⟨(law26_color_ok m _ _ _ hy3 _ (s0im s0nil (hS.im 0 rfl))), fun hg => law26_color_ok m _ _ _ (bT (hg.1) hy4) _ (s0im s0nil (hS.im 0 rfl)), fun hg => law26_color_ok m _ _ _ (bT (hg.1) hy5) _ (s0im s0nil (hS.im 0 rfl)), trivial⟩ fun _ _ H7 hb => ?_
 replace hS := hS.below hb
 clear H2 hb
 obtain ⟨y8, hy8, hm⟩ := bindE hm
 obtain ⟨y9, hy9, hm⟩ := bindE hm
 obtain ⟨y10, hy10, hm⟩ := bindE hm
 obtain ⟨y11, hy11, hm⟩ := bindE hm
 obtain ⟨x12, hx12, hm⟩ := letE hm
 obtain ⟨y13, hy13, hm⟩ := bindE hm
 obtain ⟨y14, hy14, hm⟩ := bindE hm
 refine s_reg [(vB y8), (vB y9), (vB y10), (vB y11), (vB y13), (vB y14)] [1, 2] (fS [1, 2] [vB (cond (cond y3 y4 false) y5 false), vB (cond (cond x12 y13 false) y14 false)]) [rB 18 [vI 6, vS [48], vG [vU 2, vN, vI 0, vU 0, vU 0, vU 0, vU 0]] (vB y8), fun wz => (y8 = true ∧ True → RetB Tryz.prog 18 ⟨[vI 6, vS [49, 46, 53, 101, 109], vG [vU 3, vN, vI 1500, vU 0, vU 0, vU 0, vU 0]]⟩ (vB y9) wz), fun wz => ((cond y8 y9 false) = true ∧ True → RetB Tryz.prog 18 ⟨[vI 6, vS [97, 117, 116, 111], vG [vU 1, vS [97, 117, 116, 111], vI 0, vU 0, vU 0, vU 0, vU 0]]⟩ (vB y10) wz), fun wz => ((cond (cond y8 y9 false) y10 false) = true ∧ True → RetB Tryz.prog 18 ⟨[vI 13, vS [48], vG [vU 5, vN, vI 0, vU 0, vU 0, vU 0, vU 0]]⟩ (vB y11) wz), fun wz => (x12 = true ∧ True → RetB Tryz.prog 18 ⟨[vI 16, vS [50], vG [vU 6, vN, vI 2, vU 0, vU 0, vU 0, vU 0]]⟩ (vB y13) wz), fun wz => ((cond x12 y13 false) = true ∧ True → RetB Tryz.prog 20 ⟨[vI 16, vS [50, 46, 48]]⟩ (vB y14) wz)] H7 (by subst hx12; kernel_rfl) ⟨(law26_reads_ok 300 _ _ _ _ hy8 _ (s0im s0nil (hS.im 0 rfl))), fun hg => law26_reads_ok 300 _ _ _ _ (bT (hg.1) hy9) _ (s0im s0nil (hS.im 0 rfl)), fun hg => law26_reads_ok 300 _ _ _ _ (bT (hg.1) hy10) _ (s0im s0nil (hS.im 0 rfl)), fun hg => law26_reads_ok 300 _ _ _ _ (bT (hg.1) hy11) _ (s0im s0nil (hS.im 0 rfl)), fun hg => law26_reads_ok 300 _ _ _ _ (bT (hg.1) hy13) _ (s0im s0nil (hS.im 0 rfl)), fun hg => law26_none_ok m _ _ _ (bT (hg.1) hy14) _ (s0im s0nil (hS.im 0 rfl)), trivial⟩ fun _ _ H16 hb => ?_
 replace hS := hS.below hb
 clear H7 hb
 obtain ⟨x17, hx17, hm⟩ := letE hm
 obtain ⟨y18, hy18, hm⟩ := bindE hm
 obtain ⟨x19, hx19, hm⟩ := letE hm
 obtain ⟨y20, hy20, hm⟩ := bindE hm
 obtain ⟨x21, hx21, hm⟩ := letE hm
 refine s_reg [(vS y18), (vS y20)] [0] [(0, [], vB x21)] [fun wz => (x17 = true ∧ True → RetB Tryz.prog 13 ⟨[vG [vU 0, vU 0, vU 255, vU 255]]⟩ (vS y18) wz), fun wz => (x19 = true ∧ True → RetB Tryz.prog 13 ⟨[vG [vU 0, vU 255, vU 0, vU 136]]⟩ (vS y20) wz)] H16 (by subst hx17 hx19 hx21; kernel_rfl) ⟨fun hg => parseval_Shown_ok 300 _ _ (bT (hg.1) hy18) _ (s0tab (s0im s0nil (hS.im 2 rfl)) (hS.at 1 rfl)), fun hg => parseval_Shown_ok 300 _ _ (bT (hg.1) hy20) _ (s0tab (s0im s0nil (hS.im 2 rfl)) (hS.at 1 rfl)), trivial⟩ fun _ _ H23 hb => ?_
 replace hS := hS.below hb
 clear H16 hb
 apply w_ret
 obtain rfl := someE hm
 exact retR1 H23 rfl rfl ⟨_, rfl, rfl, (hS.sel [] rfl)⟩
theorem law26_alive_ok  (m : Nat)  (r : Bool) (hm : law26_alive m = some r) (w : World) (hL : S0 F0 [gE1, Ent.tab 0 (Lib.pow10Tab.map fun z => Value.int .u64 z), gE5] w ∧ fpl [gE1, Ent.tab 0 (Lib.pow10Tab.map fun z => Value.int .u64 z), gE5] = []) : RetB Tryz.prog 8 ⟨[]⟩ (vB r) w := retB_of hL (Tryz.call8 _) (fun w' h => law26_alive_w F0 m    r hm w' h)

def r04_Size_S (rec_ : (List TValue) → Int → Option (Int)) : Prop := ∀ (g_v_ : Gh) (M : Av) (v_ : List TValue) (most : Int) (r : Int), rec_ v_ most = some r → ∀ w, S0 M [eI tyValue v_ g_v_] w → Calls Tryz.prog 25 ⟨[vL g_v_ v_, vI most]⟩ w (fun e w' => ∃ v, e = .returned v ∧ v = vI r ∧ SH M (fpl [eI tyValue v_ g_v_]) w [] w')
theorem r04_Size_w (m : Nat) : ∀ (k : Nat), r04_Size_S (r04_Size_r m  k) := by
 intro k
 induction k with
 | zero => intro g_v_ M v_ most r hm; exact noneE hm
 | succ k ih =>
  intro g_v_ M v_ most r hm w hS
  rw [r04_Size_r] at hm
  have hS0 : SH M (fpl [eI tyValue v_ g_v_]) w [eI tyValue v_ g_v_] w := hS
  generalize hX : fpl [eI tyValue v_ g_v_] = X at hS0 ⊢
  clear hS hX
  have hS := hS0
  clear hS0
  refine calls_entryP Tryz.func25 rfl Tryz.ntmps25 rfl fun _ H => ?_
  refine s_reg [] [0, 1] (fS [0, 1] [vL g_v_ v_, vI most]) [] H (by kernel_rfl) trivial fun _ _ H2 hb => ?_
  replace hS := hS.below hb
  clear H hb
  refine s_reg [] [0, 1, 5] (fS [0, 1, 5] [vL g_v_ v_, vI most, vI 0]) [] H2 (by kernel_rfl) trivial fun _ _ H4 hb => ?_
  replace hS := hS.below hb
  clear H2 hb
  obtain ⟨z5, hz, hm⟩ := bindE hm
  refine w_cut (fun a' w' => Fr 47 [(5, [], vI z5)] a' ∧ SH M X w [eI tyValue v_ g_v_] w') ?_ ?_
  ·replace hm := hz
   refine s_reg [] [0, 1, 5, 6] (fS [0, 1, 5, 6] [vL g_v_ v_, vI most, vI 0, vI 0]) [] H4 (by kernel_rfl) trivial fun _ _ H7 hb => ?_
   replace hS := hS.below hb
   clear H4 hb
   apply w_block
   refine w_loop (fun kk a' w' => ∃ (v8 : Int) (v9 : Int), r04_Size_L1 m v_ most (r04_Size_r m k) kk v8 v9 = some _ ∧ Fr 47 (fS [0, 1, 5, 6] [vL g_v_ v_, vI most, vI v8, vI v9]) a' ∧ SH M X w [eI tyValue v_ g_v_] w') ⟨_, 0, 0, hm, FrG.keep (ks := [0, 1, 5, 6]) H7 (by kernel_rfl), hS⟩ ?_
   clear hm H7 hS
   rintro kk _ _ ⟨v8, v9, hm, H, hS⟩
   cases kk with
   | zero => exact noneE hm
   | succ kk =>
    rw [r04_Size_L1] at hm
    apply w_seq
    obtain ⟨x10, hx10, hm⟩ := letE hm
    refine s_reg [] [0, 1, 5, 6, 15] (fS [0, 1, 5, 6, 15] [vL g_v_ v_, vI most, vI v8, vI v9, vB x10]) [] H (by subst hx10; kernel_rfl) trivial fun _ _ H12 hb => ?_
    replace hS := hS.below hb
    clear H hb
    refine w_if H12 rfl (fun hc => ?_) (fun hc => ?c20)
    case c20 =>
     replace hm := bF hc hm
     apply w_exit rfl
     obtain rfl := someE hm
     exact ⟨FrG.keep (ks := [5]) H12 (by kernel_rfl), hS⟩
    replace hm := bT hc hm
    apply w_skip
    apply w_seq
    apply w_block
    obtain ⟨ho13, hm⟩ := chkE hm
    obtain ⟨x14, hx14, hm⟩ := letE hm
    obtain ⟨y15, hy15, hm⟩ := bindE hm
    refine w_draw [(vS (gi v_ v9).Token.Text), (vS (gi v_ v9).Token.Unit), (.slice (g_v_.s (v9).toNat 0).a (((gi v_ v9).List_).length) (g_v_.s (v9).toNat 0).c), (vI y15)] [0, 1, 5, 6] (fS [0, 1, 5, 6] [vL g_v_ v_, vI most, vI (w64 (v8 + (w64 (x14 + y15)))), vI v9]) [fun _ => oka g_v_.a ∧ 0 ≤ v9 ∧ v9 < ln v_, fun wz => V.at1 ⟨ab g_v_.a, ao g_v_.a + (v9).toNat * 6 + 1, none⟩ (vS (gi v_ v9).Token.Text) wz, fun _ => oka g_v_.a ∧ 0 ≤ v9 ∧ v9 < ln v_, fun wz => V.at1 ⟨ab g_v_.a, ao g_v_.a + (v9).toNat * 6 + 3, none⟩ (vS (gi v_ v9).Token.Unit) wz, fun _ => oka g_v_.a ∧ 0 ≤ v9 ∧ v9 < ln v_, fun wz => V.at1 ⟨ab g_v_.a, ao g_v_.a + (v9).toNat * 6 + 5, none⟩ (.slice (g_v_.s (v9).toNat 0).a (((gi v_ v9).List_).length) (g_v_.s (v9).toNat 0).c) wz, rB 25 [.slice (g_v_.s (v9).toNat 0).a (((gi v_ v9).List_).length) (g_v_.s (v9).toNat 0).c, vI (w64 (most - v8))] (vI y15)] H12 (by kernel_rfl) (by kernel_rfl) (by subst hx14; kernel_rfl) ⟨((hS.im 0 rfl).oki ho13), ((hS.im 0 rfl).at1 ho13 1 rfl), ((hS.im 0 rfl).oki ho13), ((hS.im 0 rfl).at1 ho13 3 rfl), ((hS.im 0 rfl).oki ho13), ((hS.im 0 rfl).at1 ho13 5 rfl), (retB_of (s0im s0nil (tyValue_i0 ((hS.im 0 rfl).el ho13))) (Tryz.call25 _) (fun w' h' => ih ((g_v_.s (v9).toNat 0)) F0 _ _ _ hy15 w' h')), trivial⟩ fun _ _ H17 hb => ?_
    replace hS := hS.below hb
    clear H12 hb
    refine w_reg [] [0, 1, 5, 6] (fS [0, 1, 5, 6] [vL g_v_ v_, vI most, vI (w64 (v8 + (w64 (x14 + y15)))), vI (w64 (v9 + 1))]) [] H17 (by kernel_rfl) trivial fun _ _ H19 hb => ?_
    replace hS := hS.below hb
    clear H17 hb
    exact ⟨_, Nat.lt_succ_self _, w64 (v8 + (w64 (x14 + y15))), w64 (v9 + 1), hm, FrG.keep (ks := [0, 1, 5, 6]) H19 (by kernel_rfl), hS⟩
  ·rintro _ _ ⟨H, hS⟩
   replace hS : SH M X w [] _ := hS.sel [] rfl
   refine s_reg [] [4] [(4, [], vI z5)] [] H (by kernel_rfl) trivial fun _ _ H23 hb => ?_
   replace hS := hS.below hb
   clear H hb
   apply w_ret
   obtain rfl := someE hm
   exact retR1 H23 rfl rfl ⟨_, rfl, rfl, (hS.sel [] rfl)⟩
theorem r04_Size_ok {g_v_ : Gh} (m : Nat) (v_ : List TValue) (most : Int) (r : Int) (hm : r04_Size m v_ most = some r) (w : World) (hL : S0 F0 [eI tyValue v_ g_v_] w ∧ fpl [eI tyValue v_ g_v_] = []) : RetB Tryz.prog 25 ⟨[vL g_v_ v_, vI most]⟩ (vI r) w := retB_of hL (Tryz.call25 _) (fun w' h => r04_Size_w m   m g_v_ F0 v_ most r hm w' h)

def r04_Deep_S (rec_ : (List TValue) → Option (Int)) : Prop := ∀ (g_v_ : Gh) (M : Av) (v_ : List TValue) (r : Int), rec_ v_ = some r → ∀ w, S0 M [eI tyValue v_ g_v_] w → Calls Tryz.prog 26 ⟨[vL g_v_ v_]⟩ w (fun e w' => ∃ v, e = .returned v ∧ v = vI r ∧ SH M (fpl [eI tyValue v_ g_v_]) w [] w')
theorem r04_Deep_w (m : Nat) : ∀ (k : Nat), r04_Deep_S (r04_Deep_r m  k) := by
 intro k
 induction k with
 | zero => intro g_v_ M v_ r hm; exact noneE hm
 | succ k ih =>
  intro g_v_ M v_ r hm w hS
  rw [r04_Deep_r] at hm
  have hS0 : SH M (fpl [eI tyValue v_ g_v_]) w [eI tyValue v_ g_v_] w := hS
  generalize hX : fpl [eI tyValue v_ g_v_] = X at hS0 ⊢
  clear hS hX
  have hS := hS0
  clear hS0
  refine calls_entryP Tryz.func26 rfl Tryz.ntmps26 rfl fun _ H => ?_
  refine s_reg [] [0] [(0, [], vL g_v_ v_)] [] H (by kernel_rfl) trivial fun _ _ H2 hb => ?_
  replace hS := hS.below hb
  clear H hb
  refine s_reg [] [0, 3] (fS [0, 3] [vL g_v_ v_, vI 0]) [] H2 (by kernel_rfl) trivial fun _ _ H4 hb => ?_
  replace hS := hS.below hb
  clear H2 hb
  obtain ⟨z5, hz, hm⟩ := bindE hm
  refine w_cut (fun a' w' => Fr 29 [(3, [], vI z5)] a' ∧ SH M X w [eI tyValue v_ g_v_] w') ?_ ?_
  ·replace hm := hz
   refine s_reg [] [0, 3, 4] (fS [0, 3, 4] [vL g_v_ v_, vI 0, vI 0]) [] H4 (by kernel_rfl) trivial fun _ _ H7 hb => ?_
   replace hS := hS.below hb
   clear H4 hb
   apply w_block
   refine w_loop (fun kk a' w' => ∃ (v8 : Int) (v9 : Int), r04_Deep_L1 m v_ (r04_Deep_r m k) kk v8 v9 = some _ ∧ Fr 29 (fS [0, 3, 4] [vL g_v_ v_, vI v8, vI v9]) a' ∧ SH M X w [eI tyValue v_ g_v_] w') ⟨_, 0, 0, hm, FrG.keep (ks := [0, 3, 4]) H7 (by kernel_rfl), hS⟩ ?_
   clear hm H7 hS
   rintro kk _ _ ⟨v8, v9, hm, H, hS⟩
   cases kk with
   | zero => exact noneE hm
   | succ kk =>
    rw [r04_Deep_L1] at hm
    apply w_seq
    refine s_reg [] [0, 3, 4, 8] (fS [0, 3, 4, 8] [vL g_v_ v_, vI v8, vI v9, vB (decide (v9 < (ln v_)))]) [] H (by kernel_rfl) trivial fun _ _ H11 hb => ?_
    replace hS := hS.below hb
    clear H hb
    refine w_if H11 rfl (fun hc => ?_) (fun hc => ?c25)
    case c25 =>
     replace hm := bF hc hm
     apply w_exit rfl
     obtain rfl := someE hm
     exact ⟨FrG.keep (ks := [3]) H11 (by kernel_rfl), hS⟩
    replace hm := bT hc hm
    apply w_skip
    obtain ⟨z12, hz, hm⟩ := bindE hm
    refine w_cut (fun a' w' => Fr 29 (fS [0, 4, 3] [vL g_v_ v_, vI v9, vI z12]) a' ∧ SH M X w [eI tyValue v_ g_v_] w') ?_ ?_
    ·replace hm := hz
     apply w_block
     obtain ⟨ho13, hm⟩ := chkE hm
     obtain ⟨x14, hx14, hm⟩ := letE hm
     refine s_reg [(vU ((gi v_ v9).Token.Kind)), (vU (r04_Closer ((gi v_ v9).Token.Kind)))] [0, 3, 4, 18] (fS [0, 3, 4, 18] [vL g_v_ v_, vI v8, vI v9, vB x14]) [fun _ => oka g_v_.a ∧ 0 ≤ v9 ∧ v9 < ln v_, fun wz => V.at1 ⟨ab g_v_.a, ao g_v_.a + (v9).toNat * 6, none⟩ (vU ((gi v_ v9).Token.Kind)) wz, rB 43 [vU ((gi v_ v9).Token.Kind)] (vU (r04_Closer ((gi v_ v9).Token.Kind)))] H11 (by subst hx14; kernel_rfl) ⟨((hS.im 0 rfl).oki ho13), ((hS.im 0 rfl).at1 ho13 0 rfl), ((r04_Closer_ok _).b), trivial⟩ fun _ _ H16 hb => ?_
     replace hS := hS.below hb
     clear H11 hb
     refine w_if H16 rfl (fun hc => ?_) (fun hc => ?c21)
     case c21 =>
      replace hm := bF hc hm
      apply w_skip
      obtain rfl := someE hm
      exact ⟨FrG.keep (ks := [0, 4, 3]) H16 (by kernel_rfl), hS⟩
     replace hm := bT hc hm
     obtain ⟨y17, hy17, hm⟩ := bindE hm
     obtain ⟨x18, hx18, hm⟩ := letE hm
     refine w_reg [(.slice (g_v_.s (v9).toNat 0).a (((gi v_ v9).List_).length) (g_v_.s (v9).toNat 0).c), (vI y17)] [0, 3, 4] (fS [0, 3, 4] [vL g_v_ v_, vI x18, vI v9]) [fun _ => oka g_v_.a ∧ 0 ≤ v9 ∧ v9 < ln v_, fun wz => V.at1 ⟨ab g_v_.a, ao g_v_.a + (v9).toNat * 6 + 5, none⟩ (.slice (g_v_.s (v9).toNat 0).a (((gi v_ v9).List_).length) (g_v_.s (v9).toNat 0).c) wz, rB 26 [.slice (g_v_.s (v9).toNat 0).a (((gi v_ v9).List_).length) (g_v_.s (v9).toNat 0).c] (vI y17)] H16 (by subst hx18; kernel_rfl) ⟨((hS.im 0 rfl).oki ho13), ((hS.im 0 rfl).at1 ho13 5 rfl), (retB_of (s0im s0nil (tyValue_i0 ((hS.im 0 rfl).el ho13))) (Tryz.call26 _) (fun w' h' => ih ((g_v_.s (v9).toNat 0)) F0 _ _ hy17 w' h')), trivial⟩ fun _ _ H20 hb => ?_
     replace hS := hS.below hb
     clear H16 hb
     obtain rfl := someE hm
     exact ⟨FrG.keep (ks := [0, 4, 3]) H20 (by kernel_rfl), hS⟩
    ·rintro _ _ ⟨H, hS⟩
     refine w_reg [] [0, 3, 4] (fS [0, 3, 4] [vL g_v_ v_, vI z12, vI (w64 (v9 + 1))]) [] H (by kernel_rfl) trivial fun _ _ H23 hb => ?_
     replace hS := hS.below hb
     clear H hb
     exact ⟨_, Nat.lt_succ_self _, z12, w64 (v9 + 1), hm, FrG.keep (ks := [0, 3, 4]) H23 (by kernel_rfl), hS⟩
  ·rintro _ _ ⟨H, hS⟩
   replace hS : SH M X w [] _ := hS.sel [] rfl
   refine s_reg [] [2] [(2, [], vI z5)] [] H (by kernel_rfl) trivial fun _ _ H28 hb => ?_
   replace hS := hS.below hb
   clear H hb
   apply w_ret
   obtain rfl := someE hm
   exact retR1 H28 rfl rfl ⟨_, rfl, rfl, (hS.sel [] rfl)⟩
theorem r04_Deep_ok {g_v_ : Gh} (m : Nat) (v_ : List TValue) (r : Int) (hm : r04_Deep m v_ = some r) (w : World) (hL : S0 F0 [eI tyValue v_ g_v_] w ∧ fpl [eI tyValue v_ g_v_] = []) : RetB Tryz.prog 26 ⟨[vL g_v_ v_]⟩ (vI r) w := retB_of hL (Tryz.call26 _) (fun w' h => r04_Deep_w m   m g_v_ F0 v_ r hm w' h)

theorem r04_Great_w {g_v_ : Gh} (M : Av) (m : Nat) (v_ : List TValue) (r : Bool) (hm : r04_Great m v_ = some r) (w : World) (hS : S0 M [eI tyValue v_ g_v_] w) : Calls Tryz.prog 9 ⟨[vL g_v_ v_]⟩ w (fun e w' => ∃ v, e = .returned v ∧ v = vB r ∧ SH M (fpl [eI tyValue v_ g_v_]) w [] w') := by
 rw [r04_Great] at hm
 have hS0 : SH M (fpl [eI tyValue v_ g_v_]) w [eI tyValue v_ g_v_] w := hS
 generalize hX : fpl [eI tyValue v_ g_v_] = X at hS0 ⊢
 clear hS hX
 have hS := hS0
 clear hS0
 refine calls_entryP Tryz.func9 rfl Tryz.ntmps9 rfl fun _ H => ?_
 refine s_reg [] [0] [(0, [], vL g_v_ v_)] [] H (by kernel_rfl) trivial fun _ _ H2 hb => ?_
 replace hS := hS.below hb
 clear H hb
 obtain ⟨y3, hy3, hm⟩ := bindE hm
 obtain ⟨y4, hy4, hm⟩ := bindE hm
 obtain ⟨x5, hx5, hm⟩ := letE hm
 refine s_reg [(vI y3), (vI y4)] [2] [(2, [], vB x5)] [rB 25 [vL g_v_ v_, vI 300] (vI y3), fun wz => ((decide (300 < y3)) = false ∧ True → RetB Tryz.prog 26 ⟨[vL g_v_ v_]⟩ (vI y4) wz)] H2 (by subst hx5; kernel_rfl) ⟨(r04_Size_ok (g_v_ := g_v_) m _ _ _ hy3 _ (s0im s0nil (hS.im 0 rfl))), fun hg => r04_Deep_ok (g_v_ := g_v_) m _ _ (bF (hg.1) hy4) _ (s0im s0nil (hS.im 0 rfl)), trivial⟩ fun _ _ H7 hb => ?_
 replace hS := hS.below hb
 clear H2 hb
 replace hS : SH M X w [] _ := hS.sel [] rfl
 apply w_ret
 obtain rfl := someE hm
 exact retR1 H7 rfl rfl ⟨_, rfl, rfl, (hS.sel [] rfl)⟩
theorem r04_Great_ok {g_v_ : Gh} (m : Nat) (v_ : List TValue) (r : Bool) (hm : r04_Great m v_ = some r) (w : World) (hL : S0 F0 [eI tyValue v_ g_v_] w ∧ fpl [eI tyValue v_ g_v_] = []) : RetB Tryz.prog 9 ⟨[vL g_v_ v_]⟩ (vB r) w := retB_of hL (Tryz.call9 _) (fun w' h => r04_Great_w F0 m   v_ r hm w' h)

def r26_Twin_S (rec_ : (List TValue) → Option (List TValue)) : Prop := ∀ (g_l_ : Gh) (M : Av) (l_ : List TValue) (r : List TValue), rec_ l_ = some r → ∀ w, S0 M [eI tyValue l_ g_l_] w → Calls Tryz.prog 11 ⟨[vL g_l_ l_]⟩ w (fun e w' => ∃ v, e = .returned v ∧ ∃ (g901 : Gh), v = vL g901 r ∧ SH M (fpl [eI tyValue l_ g_l_]) w [eO 37 tyValue r g901] w')
theorem r26_Twin_w (m : Nat) : ∀ (k : Nat), r26_Twin_S (r26_Twin_r m  k) := by
 intro k
 induction k with
 | zero => intro g_l_ M l_ r hm; exact noneE hm
 | succ k ih =>
  intro g_l_ M l_ r hm w hS
  rw [r26_Twin_r] at hm
  have hS0 : SH M (fpl [eI tyValue l_ g_l_]) w [eI tyValue l_ g_l_] w := hS
  generalize hX : fpl [eI tyValue l_ g_l_] = X at hS0 ⊢
  clear hS hX
  have hS := hS0
  clear hS0
  refine calls_entryP Tryz.func11 rfl Tryz.ntmps11 rfl fun _ H => ?_
  refine s_reg [] [0] [(0, [], vL g_l_ l_)] [] H (by kernel_rfl) trivial fun _ _ H2 hb => ?_
  replace hS := hS.below hb
  clear H hb
  refine s_reg [] [0, 3] (fS [0, 3] [vL g_l_ l_, vO]) [] H2 (by kernel_rfl) trivial fun _ _ H4 hb => ?_
  replace hS := hS.below hb
  clear H2 hb
  obtain ⟨z5, hz, hm⟩ := bindE hm
  refine w_cut (fun a' w' => ∃ (g35 : Gh), Fr 27 [(3, [], vL g35 z5)] a' ∧ SH M X w [eO 37 tyValue z5 g35, eI tyValue l_ g_l_] w') ?_ ?_
  ·replace hm := hz
   refine s_reg [] [0, 3, 4] (fS [0, 3, 4] [vL g_l_ l_, vO, vI 0]) [] H4 (by kernel_rfl) trivial fun _ _ H7 hb => ?_
   replace hS := hS.below hb
   clear H4 hb
   apply w_block
   replace hS : SH M X w [eO 37 tyValue ([] : List TValue) (.nil), eI tyValue l_ g_l_] _ := hS.addNil 37 tyValue
   refine w_loop (fun kk a' w' => ∃ (v9 : List TValue) (v11 : Int) (g10 : Gh), r26_Twin_L1 m l_ (r26_Twin_r m k) kk v9 v11 = some _ ∧ Fr 27 (fS [0, 3, 4] [vL g_l_ l_, vL g10 v9, vI v11]) a' ∧ SH M X w [eO 37 tyValue v9 g10, eI tyValue l_ g_l_] w') ⟨_, ([] : List TValue), 0, Gh.nil, hm, FrG.keep (ks := [0, 3, 4]) H7 (by kernel_rfl), hS⟩ ?_
   clear hm H7 hS
   rintro kk _ _ ⟨v9, v11, g10, hm, H, hS⟩
   cases kk with
   | zero => exact noneE hm
   | succ kk =>
    rw [r26_Twin_L1] at hm
    apply w_seq
    refine s_reg [] [0, 3, 4, 8] (fS [0, 3, 4, 8] [vL g_l_ l_, vL g10 v9, vI v11, vB (decide (v11 < (ln l_)))]) [] H (by kernel_rfl) trivial fun _ _ H13 hb => ?_
    replace hS := hS.below hb
    clear H hb
    refine w_if H13 rfl (fun hc => ?_) (fun hc => ?c33)
    case c33 =>
     replace hm := bF hc hm
     apply w_exit rfl
     obtain rfl := someE hm
     exact ⟨g10, FrG.keep (ks := [3]) H13 (by kernel_rfl), hS⟩
    replace hm := bT hc hm
    apply w_skip
    apply w_seq
    apply w_block
    obtain ⟨ho15, hm⟩ := chkE hm
    obtain ⟨y17, hy17, hm⟩ := bindE hm
    obtain ⟨ho22, hm⟩ := chkE hm
    obtain ⟨q23, hq23, hm⟩ := letE hm
    refine w_drawS (base := (fS [0, 4] [vL g_l_ l_, vI v11])) (L := [eO 37 tyValue v9 g10, eI tyValue l_ g_l_]) 16 2 (fun yg14 => [vL g10 v9, vL g_l_ l_, vI v11, .pointer (some ⟨ab g_l_.a, ao g_l_.a + (v11).toNat * 6, none⟩), .pointer (some ⟨ab g_l_.a, ao g_l_.a + (v11).toNat * 6, none⟩), vG [vU ((gi l_ v11).Token.Kind), vS (gi l_ v11).Token.Text, vI ((gi l_ v11).Token.Num), vS (gi l_ v11).Token.Unit, vB ((gi l_ v11).Token.Flag)], vL g_l_ l_, vI v11, .pointer (some ⟨ab g_l_.a, ao g_l_.a + (v11).toNat * 6, none⟩), .pointer (some ⟨ab g_l_.a, ao g_l_.a + (v11).toNat * 6 + 5, none⟩), .slice (g_l_.s (v11).toNat 0).a (((gi l_ v11).List_).length) (g_l_.s (v11).toNat 0).c, .slice (yg14 11 0).a y17.length (yg14 11 0).c, vG [vU ((gi l_ v11).Token.Kind), vS (gi l_ v11).Token.Text, vI ((gi l_ v11).Token.Num), vS (gi l_ v11).Token.Unit, vB ((gi l_ v11).Token.Flag), .slice (yg14 11 0).a y17.length (yg14 11 0).c], vK (yg14 13 0) 1, .slice (yg14 14 0).a q23.length (yg14 14 0).c, .slice (yg14 14 0).a q23.length (yg14 14 0).c]) (fun yg14 => [[], [], [], [], [], [], [], [], [], [], [], [eO 37 tyValue y17 (yg14 11 0), eI tyValue ((gi l_ v11).List_) (g_l_.s (v11).toNat 0)], [], [eO 37 tyValue ([(TValue.mk ((gi l_ v11).Token) y17)] : List TValue) (yg14 13 0), eI tyValue y17 (yg14 11 0), eI tyValue ((gi l_ v11).List_) (g_l_.s (v11).toNat 0)], [eO 37 tyValue q23 (yg14 14 0)], []]) [[], [], [], [17], [17], [17], [], [], [17], [17], [17], [17], [11], [11], [13, 16], [14]] [[], [], [], [], [], [], [], [], [], [], [], [], [], [11], [16], []] [[0], [1], [2], [1, 2, 3], [1, 2, 3, 4], [1, 2, 3, 4, 5], [6], [7], [6, 7, 8], [6, 7, 8, 9], [6, 7, 8, 9, 10], [6, 7, 8, 9, 10, 11], [1, 2, 3, 4, 5, 6, 7, 8, 9, 10, 11, 12], [1, 2, 3, 4, 5, 6, 7, 8, 9, 10, 11, 12, 13], [0, 1, 2, 3, 4, 5, 6, 7, 8, 9, 10, 11, 12, 13, 14], [0, 1, 2, 3, 4, 5, 6, 7, 8, 9, 10, 11, 12, 13, 14, 15]] [(3, 15, vL g10 v9)] (FrG.keep (ks := [0, 4]) H13 (by kernel_rfl)) (fun k e h => by rcases k with _ | k <;> first | (obtain rfl := Option.some.inj h; exact FrG.slot H13 (by kernel_rfl)) | cases h) (by kernel_rfl) hS (by kernel_rfl) rfl rfl (by kernel_rfl) (by kernel_rfl) (by kernel_rfl) (gd_none (by kernel_rfl) _ _) ?hloc_yg14 ?hstep_yg14 fun _ _ yg14 H26 hv hS => ?hK_yg14
    case hloc_yg14 => exact ⟨(fun _ _ _ _ => ⟨rfl, rfl⟩), (fun _ _ _ _ => ⟨rfl, rfl⟩), (fun _ _ _ _ => ⟨rfl, rfl⟩), (fun _ _ _ _ => ⟨rfl, rfl⟩), (fun _ _ _ _ => ⟨rfl, rfl⟩), (fun _ _ _ _ => ⟨rfl, rfl⟩), (fun _ _ _ _ => ⟨rfl, rfl⟩), (fun _ _ _ _ => ⟨rfl, rfl⟩), (fun _ _ _ _ => ⟨rfl, rfl⟩), (fun _ _ _ _ => ⟨rfl, rfl⟩), (fun _ _ _ _ => ⟨rfl, rfl⟩), (fun _ i g hi => lcG [11] (fun yg14 => (.slice (yg14 11 0).a y17.length (yg14 11 0).c, [eO 37 tyValue y17 (yg14 11 0), eI tyValue ((gi l_ v11).List_) (g_l_.s (v11).toNat 0)])) hi rfl), (fun _ i g hi => lcG [11] (fun yg14 => (vG [vU ((gi l_ v11).Token.Kind), vS (gi l_ v11).Token.Text, vI ((gi l_ v11).Token.Num), vS (gi l_ v11).Token.Unit, vB ((gi l_ v11).Token.Flag), .slice (yg14 11 0).a y17.length (yg14 11 0).c], [])) hi rfl), (fun _ i g hi => lcG [11, 13] (fun yg14 => (vK (yg14 13 0) 1, [eO 37 tyValue ([(TValue.mk ((gi l_ v11).Token) y17)] : List TValue) (yg14 13 0), eI tyValue y17 (yg14 11 0), eI tyValue ((gi l_ v11).List_) (g_l_.s (v11).toNat 0)])) hi rfl), (fun _ i g hi => lcG [14] (fun yg14 => (.slice (yg14 14 0).a q23.length (yg14 14 0).c, [eO 37 tyValue q23 (yg14 14 0)])) hi rfl), (fun _ i g hi => lcG [14] (fun yg14 => (.slice (yg14 14 0).a q23.length (yg14 14 0).c, [])) hi rfl), trivial⟩
    case hstep_yg14 =>
     refine ⟨?_, ?_, ?_, ?_, ?_, ?_, ?_, ?_, ?_, ?_, ?_, ?_, ?_, ?_, ?_, ?_, trivial⟩
     ·intro o ho a w yg14 M Hb hv hO hS
      obtain rfl := someE ho
      exact Stp.mono (o_evs [] (vL g10 v9) none [] ((Hb).add (hO 0 _ rfl (by kernel_rfl))) rfl (by kernel_rfl) (fun q e => by cases e)) fun _ _ hq => ⟨gL [], fun _ _ => hq.1, (hS.below hq.2.below).sel [] rfl⟩
     ·intro o ho a w yg14 M Hb hv hO hS
      obtain rfl := someE ho
      exact Stp.mono (o_evs [] (vL g_l_ l_) none [] Hb rfl (by kernel_rfl) (fun q e => by cases e)) fun _ _ hq => ⟨gL [], fun _ _ => hq.1, (hS.below hq.2.below).sel [] rfl⟩
     ·intro o ho a w yg14 M Hb hv hO hS
      obtain rfl := someE ho
      exact Stp.mono (o_evs [] (vI v11) none [] Hb rfl (by kernel_rfl) (fun q e => by cases e)) fun _ _ hq => ⟨gL [], fun _ _ => hq.1, (hS.below hq.2.below).sel [] rfl⟩
     ·intro o ho a w yg14 M Hb hv hO hS
      obtain rfl := someE ho
      exact Stp.mono (o_evs [] (.pointer (some ⟨ab g_l_.a, ao g_l_.a + (v11).toNat * 6, none⟩)) (some (fun _ => oka g_l_.a ∧ 0 ≤ v11 ∧ v11 < ln l_)) [] (((Hb).add (hv 1 (by decide) (by decide) 12 rfl)).add (hv 2 (by decide) (by decide) 13 rfl)) rfl (by kernel_rfl) (fun q e => by cases e; exact ((hS.im 0 rfl).oki ho15))) fun _ _ hq => ⟨gL [], fun _ _ => hq.1, (hS.below hq.2.below).sel [0] rfl⟩
     ·intro o ho a w yg14 M Hb hv hO hS
      obtain rfl := someE ho
      exact Stp.mono (o_evs [] (.pointer (some ⟨ab g_l_.a, ao g_l_.a + (v11).toNat * 6, none⟩)) none [] ((Hb).add (hv 3 (by decide) (by decide) 14 rfl)) rfl (by kernel_rfl) (fun q e => by cases e)) fun _ _ hq => ⟨gL [], fun _ _ => hq.1, (hS.below hq.2.below).sel [0] rfl⟩
     ·intro o ho a w yg14 M Hb hv hO hS
      obtain rfl := someE ho
      exact Stp.mono (o_evs [(vG [vU ((gi l_ v11).Token.Kind), vS (gi l_ v11).Token.Text, vI ((gi l_ v11).Token.Num), vS (gi l_ v11).Token.Unit, vB ((gi l_ v11).Token.Flag)])] (vG [vU ((gi l_ v11).Token.Kind), vS (gi l_ v11).Token.Text, vI ((gi l_ v11).Token.Num), vS (gi l_ v11).Token.Unit, vB ((gi l_ v11).Token.Flag)]) (some (fun wz => V.atN (ab g_l_.a) (ao g_l_.a + (v11).toNat * 6) [vU ((gi l_ v11).Token.Kind), vS (gi l_ v11).Token.Text, vI ((gi l_ v11).Token.Num), vS (gi l_ v11).Token.Unit, vB ((gi l_ v11).Token.Flag)] 0 wz)) [] ((Hb).add (hv 4 (by decide) (by decide) 15 rfl)) rfl (by kernel_rfl) (fun q e => by cases e; exact ((hS.im 0 rfl).atA ho15 0 rfl))) fun _ _ hq => ⟨gL [], fun _ _ => hq.1, (hS.below hq.2.below).sel [0] rfl⟩
     ·intro o ho a w yg14 M Hb hv hO hS
      obtain rfl := someE ho
      exact Stp.mono (o_evs [] (vL g_l_ l_) none [] Hb rfl (by kernel_rfl) (fun q e => by cases e)) fun _ _ hq => ⟨gL [], fun _ _ => hq.1, (hS.below hq.2.below).sel [] rfl⟩
     ·intro o ho a w yg14 M Hb hv hO hS
      obtain rfl := someE ho
      exact Stp.mono (o_evs [] (vI v11) none [] Hb rfl (by kernel_rfl) (fun q e => by cases e)) fun _ _ hq => ⟨gL [], fun _ _ => hq.1, (hS.below hq.2.below).sel [] rfl⟩
     ·intro o ho a w yg14 M Hb hv hO hS
      obtain rfl := someE ho
      exact Stp.mono (o_evs [] (.pointer (some ⟨ab g_l_.a, ao g_l_.a + (v11).toNat * 6, none⟩)) (some (fun _ => oka g_l_.a ∧ 0 ≤ v11 ∧ v11 < ln l_)) [] (((Hb).add (hv 6 (by decide) (by decide) 17 rfl)).add (hv 7 (by decide) (by decide) 18 rfl)) rfl (by kernel_rfl) (fun q e => by cases e; exact ((hS.im 0 rfl).oki ho15))) fun _ _ hq => ⟨gL [], fun _ _ => hq.1, (hS.below hq.2.below).sel [0] rfl⟩
     ·intro o ho a w yg14 M Hb hv hO hS
      obtain rfl := someE ho
      exact Stp.mono (o_evs [] (.pointer (some ⟨ab g_l_.a, ao g_l_.a + (v11).toNat * 6 + 5, none⟩)) none [] ((Hb).add (hv 8 (by decide) (by decide) 19 rfl)) rfl (by kernel_rfl) (fun q e => by cases e)) fun _ _ hq => ⟨gL [], fun _ _ => hq.1, (hS.below hq.2.below).sel [0] rfl⟩
     ·intro o ho a w yg14 M Hb hv hO hS
      obtain rfl := someE ho
      exact Stp.mono (o_evs [(.slice (g_l_.s (v11).toNat 0).a (((gi l_ v11).List_).length) (g_l_.s (v11).toNat 0).c)] (.slice (g_l_.s (v11).toNat 0).a (((gi l_ v11).List_).length) (g_l_.s (v11).toNat 0).c) (some (fun wz => V.at1 ⟨ab g_l_.a, ao g_l_.a + (v11).toNat * 6 + 5, none⟩ (.slice (g_l_.s (v11).toNat 0).a (((gi l_ v11).List_).length) (g_l_.s (v11).toNat 0).c) wz)) [] ((Hb).add (hv 9 (by decide) (by decide) 20 rfl)) rfl (by kernel_rfl) (fun q e => by cases e; exact ((hS.im 0 rfl).at1 ho15 5 rfl))) fun _ _ hq => ⟨gL [], fun _ _ => hq.1, (hS.below hq.2.below).sel [0] rfl⟩
     ·intro o ho a w yg14 M Hb hv hO hS0
      obtain rfl := someE ho
      have H : Fr 27 ([(21, [], .slice (g_l_.s (v11).toNat 0).a (((gi l_ v11).List_).length) (g_l_.s (v11).toNat 0).c)] ++ (fS [0, 4] [vL g_l_ l_, vI v11])) _ := (Hb).add (hv 10 (by decide) (by decide) 21 rfl)
      obtain ⟨X, hX⟩ : ∃ X, X = fpl [eI tyValue l_ g_l_] := ⟨_, rfl⟩
      have hS : SH M X w [eI tyValue l_ g_l_] w := by rw [hX]; exact hS0
      replace hS : SH M X w [eI tyValue ((gi l_ v11).List_) (g_l_.s (v11).toNat 0), eI tyValue l_ g_l_] _ := hS.addIm (tyValue_i0 ((hS.im 0 rfl).el ho15))
      have hd := hS.hand [0] [0, 1] rfl rfl
      refine Stp.mono (o_callx H rfl rfl (⟨Tryz.call11 _, ih ((g_l_.s (v11).toNat 0)) _ _ _ hy17 _ hd⟩ : DoesX _ _ _ _ _)) ?_
      rintro v w2 hq
      obtain ⟨g18, rfl, hq⟩ := hq
      replace hS : SH M X w [eO 37 tyValue y17 g18, eI tyValue ((gi l_ v11).List_) (g_l_.s (v11).toNat 0), eI tyValue l_ g_l_] _ := hS.join [0] [0, 1] rfl rfl hq
      clear hq
      rw [hX] at hS
      exact ⟨gL [g18], fun _ _ => rfl, hS.sel [0, 1, 2] rfl⟩
     ·intro o ho a w yg14 M Hb hv hO hS
      obtain rfl := someE ho
      exact Stp.mono (o_evs [] (vG [vU ((gi l_ v11).Token.Kind), vS (gi l_ v11).Token.Text, vI ((gi l_ v11).Token.Num), vS (gi l_ v11).Token.Unit, vB ((gi l_ v11).Token.Flag), .slice (yg14 11 0).a y17.length (yg14 11 0).c]) none [] (((Hb).add (hv 5 (by decide) (by decide) 16 rfl)).add (hv 11 (by decide) (by decide) 22 rfl)) rfl (by kernel_rfl) (fun q e => by cases e)) fun _ _ hq => ⟨gL [], fun _ _ => hq.1, (hS.below hq.2.below).sel [0, 1] rfl⟩
     ·intro o ho a w yg14 M Hb hv hO hS0
      obtain rfl := someE ho
      have H : Fr 27 ([(23, [], vG [vU ((gi l_ v11).Token.Kind), vS (gi l_ v11).Token.Text, vI ((gi l_ v11).Token.Num), vS (gi l_ v11).Token.Unit, vB ((gi l_ v11).Token.Flag), .slice (yg14 11 0).a y17.length (yg14 11 0).c])] ++ (fS [0, 4] [vL g_l_ l_, vI v11])) _ := (Hb).add (hv 12 (by decide) (by decide) 23 rfl)
      obtain ⟨X, hX⟩ : ∃ X, X = fpl [eO 37 tyValue y17 (yg14 11 0), eI tyValue ((gi l_ v11).List_) (g_l_.s (v11).toNat 0)] := ⟨_, rfl⟩
      have hS : SH M X w [eO 37 tyValue y17 (yg14 11 0), eI tyValue ((gi l_ v11).List_) (g_l_.s (v11).toNat 0)] w := by rw [hX]; exact hS0
      replace hS : SH M X w [eI tyValue y17 (yg14 11 0), eI tyValue ((gi l_ v11).List_) (g_l_.s (v11).toNat 0)] _ := SH.frz1 (hS.sel [0, 1] rfl)
      have hd := hS.hand [0] [0, 1] rfl rfl
      refine Stp.mono (o_lit (T := tyValue) (E := 37) (zv := vG [vU 0, vN, vI 0, vN, vF, vO]) [vU ((gi l_ v11).Token.Kind), vS (gi l_ v11).Token.Text, vI ((gi l_ v11).Token.Num), vS (gi l_ v11).Token.Unit, vB ((gi l_ v11).Token.Flag), .slice (yg14 11 0).a y17.length (yg14 11 0).c] ([(TValue.mk ((gi l_ v11).Token) y17)] : List TValue) [gL [(yg14 11 0)]] _ H hd rfl (by kernel_rfl) (by kernel_rfl) (by kernel_rfl) (by kernel_rfl) (by kernel_rfl) (by kernel_rfl) (by kernel_rfl) rfl (InnL.cons (tyValue_mk (hd.im 0 rfl)) InnL.nil)) ?_
      rintro v w2 hq
      obtain ⟨g20, rfl, hq⟩ := hq
      replace hS : SH M X w [eO 37 tyValue ([(TValue.mk ((gi l_ v11).Token) y17)] : List TValue) g20, eI tyValue y17 (yg14 11 0), eI tyValue ((gi l_ v11).List_) (g_l_.s (v11).toNat 0)] _ := hS.join [0] [0, 1] rfl rfl hq
      clear hq
      rw [hX] at hS
      exact ⟨gL [g20], fun _ _ => rfl, hS.sel [0, 1, 2] rfl⟩
     ·intro o ho a w yg14 M Hb hv hO hS0
      obtain rfl := someE ho
      have H : Fr 27 ((fS [24, 11] [vK (yg14 13 0) 1, vL g10 v9]) ++ (fS [0, 4] [vL g_l_ l_, vI v11])) _ := ((Hb).add (hv 0 (by decide) (by decide) 11 rfl)).add (hv 13 (by decide) (by decide) 24 rfl)
      obtain ⟨X, hX⟩ : ∃ X, X = fpl [eO 37 tyValue ([(TValue.mk ((gi l_ v11).Token) y17)] : List TValue) (yg14 13 0), eI tyValue y17 (yg14 11 0), eI tyValue ((gi l_ v11).List_) (g_l_.s (v11).toNat 0), eO 37 tyValue v9 g10] := ⟨_, rfl⟩
      have hS : SH M X w [eO 37 tyValue ([(TValue.mk ((gi l_ v11).Token) y17)] : List TValue) (yg14 13 0), eI tyValue y17 (yg14 11 0), eI tyValue ((gi l_ v11).List_) (g_l_.s (v11).toNat 0), eO 37 tyValue v9 g10] w := by rw [hX]; exact hS0
      have hd := hS.hand [3, 0] [1, 2] rfl rfl
      refine Stp.mono (o_app2 (T := tyValue) (zv := vG [vU 0, vN, vI 0, vN, vF, vO]) (g1 := g10) (g2 := (yg14 13 0)) (l1 := v9) (l2 := ([(TValue.mk ((gi l_ v11).Token) y17)] : List TValue)) q23 hq23.symm H hd rfl rfl rfl rfl rfl rfl rfl (by kernel_rfl) (by kernel_rfl) rfl rfl ho22) ?_
      rintro v w2 hq
      obtain ⟨g24, rfl, hq⟩ := hq
      replace hS : SH M X w [eO 37 tyValue q23 g24, eO 37 tyValue ([(TValue.mk ((gi l_ v11).Token) y17)] : List TValue) (yg14 13 0), eI tyValue y17 (yg14 11 0), eI tyValue ((gi l_ v11).List_) (g_l_.s (v11).toNat 0)] _ := hS.join [3, 0] [1, 2] rfl rfl hq
      clear hq
      rw [hX] at hS
      exact ⟨gL [g24], fun _ _ => rfl, hS.sel [0, 1, 2, 3] rfl⟩
     ·intro o ho a w yg14 M Hb hv hO hS
      obtain rfl := someE ho
      exact Stp.mono (o_evs [] (.slice (yg14 14 0).a q23.length (yg14 14 0).c) none [] ((Hb).add (hv 14 (by decide) (by decide) 25 rfl)) rfl (by kernel_rfl) (fun q e => by cases e)) fun _ _ hq => ⟨gL [], fun _ _ => hq.1, (hS.below hq.2.below).sel [0] rfl⟩
    have H27 : Fr 27 (fS [3, 0, 4] [.slice (yg14 14 0).a q23.length (yg14 14 0).c, vL g_l_ l_, vI v11]) _ := (FrG.add (FrG.keep (ks := [0, 4]) H26 (by kernel_rfl)) (hv 15 3 rfl))
    replace hS : SH M X w [eO 37 tyValue ([(TValue.mk ((gi l_ v11).Token) y17)] : List TValue) (yg14 13 0), eI tyValue y17 (yg14 11 0), eI tyValue ((gi l_ v11).List_) (g_l_.s (v11).toNat 0), eO 37 tyValue q23 (yg14 14 0), eI tyValue l_ g_l_] _ := hS
    clear hv H26
    generalize yg14 14 0 = g28 at H27 hS
    generalize yg14 13 0 = g29 at H27 hS
    generalize yg14 11 0 = g30 at H27 hS
    replace hS : SH M X w [eO 37 tyValue q23 g28, eI tyValue l_ g_l_] _ := hS.sel [3, 4] rfl
    refine w_reg [] [0, 3, 4] (fS [0, 3, 4] [vL g_l_ l_, vL g28 q23, vI (w64 (v11 + 1))]) [] H27 (by kernel_rfl) trivial fun _ _ H32 hb => ?_
    replace hS := hS.below hb
    clear H27 hb
    exact ⟨_, Nat.lt_succ_self _, q23, w64 (v11 + 1), g28, hm, FrG.keep (ks := [0, 3, 4]) H32 (by kernel_rfl), hS⟩
  ·rintro _ _ ⟨g35, H, hS⟩
   replace hS : SH M X w [eO 37 tyValue z5 g35] _ := hS.sel [0] rfl
   refine s_reg [] [2] [(2, [], vL g35 z5)] [] H (by kernel_rfl) trivial fun _ _ H38 hb => ?_
   replace hS := hS.below hb
   clear H hb
   apply w_ret
   obtain rfl := someE hm
   exact retR1 H38 rfl rfl ⟨_, rfl, g35, rfl, (hS.sel [0] rfl)⟩
theorem r26_Twin_ok {g_l_ : Gh} (m : Nat) (l_ : List TValue) (r : List TValue) (hm : r26_Twin m l_ = some r) (M : Av) (w : World) (hS : S0 M [eI tyValue l_ g_l_] w) : DoesX Tryz.prog 11 ⟨[vL g_l_ l_]⟩ w (fun v w' => ∃ (g901 : Gh), v = vL g901 r ∧ SH M (fpl [eI tyValue l_ g_l_]) w [eO 37 tyValue r g901] w') := ⟨Tryz.call11 _, r26_Twin_w m   m g_l_ M l_ r hm w hS⟩

theorem r26_Great_w  (M : Av) (m : Nat) (s : Str) (r : Str) (hm : r26_Great m s = some r) (w : World) (hS : S0 M [] w) : Calls Tryz.prog 12 ⟨[vS s]⟩ w (fun e w' => ∃ v, e = .returned v ∧ v = vS r ∧ SH M (fpl []) w [] w') := by
 rw [r26_Great] at hm
 have hS0 : SH M (fpl []) w [] w := hS
 generalize hX : fpl [] = X at hS0 ⊢
 clear hS hX
 have hS := hS0
 clear hS0
 refine calls_entryP Tryz.func12 rfl Tryz.ntmps12 rfl fun _ H => ?_
 refine s_reg [] [0] [(0, [], vS s)] [] H (by kernel_rfl) trivial fun _ _ H2 hb => ?_
 replace hS := hS.below hb
 clear H hb
 apply w_seq
 apply wl_start
 refine wl_batch 0 1 [] [5] [(5, [], vS s)] [] H2 (by decide) (by kernel_rfl) trivial fun _ _ H4 hb => ?_
 replace hS := hS.below hb
 clear H2 hb
 have hd := hS.hand [] [] rfl rfl
 refine m_stp [6] [] H4 rfl rfl rfl rfl (o_bytes (E := 5) H4 hd rfl (by kernel_rfl) (by kernel_rfl) (by kernel_rfl)) (fun _ => rfl) fun _ _ v H8 hq => ?_
 clear H4 hd
 obtain ⟨b5, c6, rfl, hc_b5, hq⟩ := hq
 replace hS : SH M X w [Ent.row .u8 b5 (ofB s) (ln (ofB s))] _ := hS.join [] [] rfl rfl hq
 clear hq
 refine wl_batch 2 3 [] [3] [(3, [], .slice (some ⟨b5, 0, none⟩) ((ofB s).length) c6)] [] H8 (by decide) (by kernel_rfl) trivial fun _ _ H10 hb => ?_
 replace hS := hS.below hb
 clear H8 hb
 apply wl_end rfl
 obtain ⟨z11, hz, hm⟩ := bindE hm
 refine w_cut (fun a' w' => Fr 33 [(3, [], .slice (some ⟨b5, 0, none⟩) ((ofB s).length) c6)] a' ∧ SH M X w [Ent.row .u8 b5 z11 (ln (ofB s))] w') ?_ ?_
 ·replace hm := hz
  refine s_reg [] [3, 4] (fS [3, 4] [.slice (some ⟨b5, 0, none⟩) ((ofB s).length) c6, vI 0]) [] H10 (by kernel_rfl) trivial fun _ _ H13 hb => ?_
  replace hS := hS.below hb
  clear H10 hb
  apply w_block
  refine w_loop (fun kk a' w' => ∃ (v14 : Int) (v15 : List Int), r26_Great_L1 m s kk v14 v15 = some _ ∧ Fr 33 (fS [3, 4] [.slice (some ⟨b5, 0, none⟩) ((ofB s).length) c6, vI v14]) a' ∧ SH M X w [Ent.row .u8 b5 v15 (ln (ofB s))] w') ⟨_, 0, ofB s, hm, FrG.keep (ks := [3, 4]) H13 (by kernel_rfl), hS⟩ ?_
  clear hm H13 hS
  rintro kk _ _ ⟨v14, v15, hm, H, hS⟩
  cases kk with
  | zero => exact noneE hm
  | succ kk =>
   rw [r26_Great_L1] at hm
   apply w_seq
   refine s_reg [] [3, 4, 10] (fS [3, 4, 10] [.slice (some ⟨b5, 0, none⟩) ((ofB s).length) c6, vI v14, vB (decide (v14 < (ln (ofB s))))]) [] H (by kernel_rfl) trivial fun _ _ H17 hb => ?_
   replace hS := hS.below hb
   clear H hb
   refine w_if H17 rfl (fun hc => ?_) (fun hc => ?c32)
   case c32 =>
    replace hm := bF hc hm
    apply w_exit rfl
    obtain rfl := someE hm
    exact ⟨FrG.keep (ks := [3]) H17 (by kernel_rfl), hS⟩
   replace hm := bT hc hm
   apply w_skip
   obtain ⟨z18, hz, hm⟩ := bindE hm
   refine w_cut (fun a' w' => Fr 33 (fS [3, 4] [.slice (some ⟨b5, 0, none⟩) ((ofB s).length) c6, vI v14]) a' ∧ SH M X w [Ent.row .u8 b5 z18 (ln (ofB s))] w') ?_ ?_
   ·replace hm := hz
    apply w_block
    obtain ⟨ho19, hm⟩ := chkE hm
    obtain ⟨x20, hx20, hm⟩ := letE hm
    refine s_reg [(vU (gi v15 v14)), (vU (gi v15 v14))] [3, 4, 24] (fS [3, 4, 24] [.slice (some ⟨b5, 0, none⟩) ((ofB s).length) c6, vI v14, vB x20]) [fun _ => oka (some ⟨b5, 0, none⟩) ∧ 0 ≤ v14 ∧ v14 < ln (ofB s), fun wz => V.at1 ⟨b5, 0 + (v14).toNat * 1, none⟩ (vU (gi v15 v14)) wz, fun _ => ((decide (97 ≤ (gi v15 v14))) = true ∧ True → oka (some ⟨b5, 0, none⟩) ∧ 0 ≤ v14 ∧ v14 < ln (ofB s)), fun wz => ((decide (97 ≤ (gi v15 v14))) = true ∧ True → V.at1 ⟨b5, 0 + (v14).toNat * 1, none⟩ (vU (gi v15 v14)) wz)] H17 (by subst hx20; kernel_rfl) ⟨(⟨rfl, ho19⟩), (Rw.ixn (hS.rw 0 rfl) ho19), fun hg => ⟨rfl, ho19⟩, fun hg => (Rw.ixn (hS.rw 0 rfl) ho19), trivial⟩ fun _ _ H22 hb => ?_
    replace hS := hS.below hb
    clear H17 hb
    refine w_if H22 rfl (fun hc => ?_) (fun hc => ?c28)
    case c28 =>
     replace hm := bF hc hm
     apply w_skip
     obtain rfl := someE hm
     exact ⟨FrG.keep (ks := [3, 4]) H22 (by kernel_rfl), hS⟩
    replace hm := bT hc hm
    apply wl_start
    refine wl_batch 0 6 [(vU (gi v15 v14))] [3, 4, 29, 30] (fS [3, 4, 29, 30] [.slice (some ⟨b5, 0, none⟩) ((ofB s).length) c6, vI v14, vU (wu8 ((gi v15 v14) - 32)), .pointer (some ⟨b5, 0 + (v14).toNat * 1, none⟩)]) [fun _ => oka (some ⟨b5, 0, none⟩) ∧ 0 ≤ v14 ∧ v14 < ln (ofB s), fun wz => V.at1 ⟨b5, 0 + (v14).toNat * 1, none⟩ (vU (gi v15 v14)) wz, fun _ => oka (some ⟨b5, 0, none⟩) ∧ 0 ≤ v14 ∧ v14 < ln (ofB s)] H22 (by decide) (by kernel_rfl) ⟨(⟨rfl, ho19⟩), (Rw.ixn (hS.rw 0 rfl) ho19), (⟨rfl, ho19⟩), trivial⟩ fun _ _ H24 hb => ?_
    replace hS := hS.below hb
    clear H22 hb
    have hd := hS.hand [0] [] rfl rfl
    refine m_stp0 [3, 4] (fS [3, 4] [.slice (some ⟨b5, 0, none⟩) ((ofB s).length) c6, vI v14]) H24 rfl rfl rfl (o_rstore H24 hd rfl rfl (by kernel_rfl) ho19) rfl fun _ _ H26 hq => ?_
    clear H24 hd
    obtain ⟨_, hq⟩ := hq
    obtain ⟨q27, hq27, hm⟩ := letE hm
    rw [← hq27] at hq
    replace hS : SH M X w [Ent.row .u8 b5 q27 (ln (ofB s))] _ := hS.join [0] [] rfl rfl hq
    clear hq
    apply wl_end rfl
    obtain rfl := someE hm
    exact ⟨FrG.keep (ks := [3, 4]) H26 (by kernel_rfl), hS⟩
   ·rintro _ _ ⟨H, hS⟩
    refine w_reg [] [3, 4] (fS [3, 4] [.slice (some ⟨b5, 0, none⟩) ((ofB s).length) c6, vI (w64 (v14 + 1))]) [] H (by kernel_rfl) trivial fun _ _ H30 hb => ?_
    replace hS := hS.below hb
    clear H hb
    exact ⟨_, Nat.lt_succ_self _, w64 (v14 + 1), z18, hm, FrG.keep (ks := [3, 4]) H30 (by kernel_rfl), hS⟩
 ·rintro _ _ ⟨H, hS⟩
  refine s_reg [(vS (toB z11))] [2] [(2, [], vS (toB z11))] [fun wz => ∀ w', Below wz.heap.size wz w' → (convert 63 9 (.slice (some ⟨b5, 0, none⟩) ((ofB s).length) c6)).run Tryz.prog w' = .ok (vS (toB z11)) w'] H (by kernel_rfl) ⟨(conv_row (E := 5) (by kernel_rfl) (by kernel_rfl) (by kernel_rfl) (hS.rw 0 rfl).1 (hS.rw 0 rfl).2), trivial⟩ fun _ _ H35 hb => ?_
  replace hS := hS.below hb
  clear H hb
  replace hS : SH M X w [] _ := hS.sel [] rfl
  apply w_ret
  obtain rfl := someE hm
  exact retR1 H35 rfl rfl ⟨_, rfl, rfl, (hS.sel [] rfl)⟩
theorem r26_Great_ok  (m : Nat) (s : Str) (r : Str) (hm : r26_Great m s = some r) : Ret Tryz.prog 12 ⟨[vS s]⟩ (vS r) := retP_of (Tryz.call12 _) (fun w h => r26_Great_w F0 m   s r hm w h)

theorem law26_ParsevalCase_w {g_l_ : Gh} (M : Av) (m : Nat) (prop : Int) (l_ : List TValue) (at_ : Int) (r : Bool) (hm : law26_ParsevalCase m prop l_ at_ = some r) (w : World) (hS : S0 M [eI tyValue l_ g_l_, gE1, Ent.tab 0 (Lib.pow10Tab.map fun z => Value.int .u64 z), gE5] w) : Calls Tryz.prog 3 ⟨[vI prop, .slice g_l_.a l_.length g_l_.c, vI at_]⟩ w (fun e w' => ∃ v, e = .returned v ∧ v = vB r ∧ SH M (fpl [eI tyValue l_ g_l_, gE1, Ent.tab 0 (Lib.pow10Tab.map fun z => Value.int .u64 z), gE5]) w [] w') := by
 rw [law26_ParsevalCase] at hm
 have hS0 : SH M (fpl [eI tyValue l_ g_l_, gE1, Ent.tab 0 (Lib.pow10Tab.map fun z => Value.int .u64 z), gE5]) w [eI tyValue l_ g_l_, gE1, Ent.tab 0 (Lib.pow10Tab.map fun z => Value.int .u64 z), gE5] w := hS
 generalize hX : fpl [eI tyValue l_ g_l_, gE1, Ent.tab 0 (Lib.pow10Tab.map fun z => Value.int .u64 z), gE5] = X at hS0 ⊢
 clear hS hX
 have hS := hS0
 clear hS0
 refine calls_entryP Tryz.func3 rfl Tryz.ntmps3 rfl fun _ H => ?_
 refine s_reg [] [0, 1, 2] (fS [0, 1, 2] [vI prop, .slice g_l_.a l_.length g_l_.c, vI at_]) [] H (by kernel_rfl) trivial fun _ _ H2 hb => ?_
 replace hS := hS.below hb
 clear H hb
 obtain ⟨y3, hy3, hm⟩ := bindE hm
 refine s_reg [(vB y3)] [0, 1, 2, 7] (fS [0, 1, 2, 7] [vI prop, .slice g_l_.a l_.length g_l_.c, vI at_, vB y3]) [rB 8 [] (vB y3)] H2 (by kernel_rfl) ⟨(law26_alive_ok 300 _ hy3 _ (s0im (s0tab (s0im s0nil (hS.im 3 rfl)) (hS.at 2 rfl)) (hS.im 1 rfl))), trivial⟩ fun _ _ H5 hb => ?_
 replace hS := hS.below hb
 clear H2 hb
 apply w_seq
 obtain ⟨y6, hy6, hm⟩ := bindE hm
 obtain ⟨x7, hx7, hm⟩ := letE hm
 refine s_reg [(vB y6)] [0, 1, 2, 7, 25] (fS [0, 1, 2, 7, 25] [vI prop, .slice g_l_.a l_.length g_l_.c, vI at_, vB y3, vB x7]) [rB 9 [.slice g_l_.a l_.length g_l_.c] (vB y6)] H5 (by subst hx7; kernel_rfl) ⟨(r04_Great_ok (g_v_ := g_l_) m _ _ hy6 _ (s0im s0nil (hS.im 0 rfl))), trivial⟩ fun _ _ H9 hb => ?_
 replace hS := hS.below hb
 clear H5 hb
 refine w_if H9 rfl (fun hc => ?c141) (fun hc => ?_)
 case c141 =>
  replace hm := bT hc hm
  refine s_reg [] [6] [(6, [], vB y3)] [] H9 (by kernel_rfl) trivial fun _ _ H11 hb => ?_
  replace hS := hS.below hb
  clear H9 hb
  replace hS : SH M X w [gE1, Ent.tab 0 (Lib.pow10Tab.map fun z => Value.int .u64 z), gE5] _ := hS.sel [1, 2, 3] rfl
  apply w_ret
  obtain rfl := someE hm
  exact retR1 H11 rfl rfl ⟨_, rfl, rfl, (hS.sel [] rfl)⟩
 replace hm := bF hc hm
 apply w_skip
 apply w_seq
 apply wl_start
 obtain ⟨y12, hy12, hm⟩ := bindE hm
 refine wl_batch 0 6 [(vW [vG (cV y12.1), vI y12.2])] [0, 1, 2, 7, 31, 32] (fS [0, 1, 2, 7, 31, 32] [vI prop, .slice g_l_.a l_.length g_l_.c, vI at_, vB y3, vG (cV y12.1), vI y12.2]) [rB 10 [vI prop, .slice g_l_.a l_.length g_l_.c] (vW [vG (cV y12.1), vI y12.2])] H9 (by decide) (by kernel_rfl) ⟨(parseval_Parse_ok (g_l_ := g_l_) m _ _ _ hy12 _ (s0im (s0im s0nil (hS.im 1 rfl)) (hS.im 0 rfl))), trivial⟩ fun _ _ H14 hb => ?_
 replace hS := hS.below hb
 clear H9 hb
 have hd := hS.hand [] [0, 1, 2, 3] rfl rfl
 refine m_stp [8, 0, 1, 2, 7, 31, 32] (fS [0, 1, 2, 7, 31, 32] [vI prop, .slice g_l_.a l_.length g_l_.c, vI at_, vB y3, vG (cV y12.1), vI y12.2]) H14 rfl rfl rfl rfl (o_alloc [vU 0, vN, vI 0, vU 0, vU 0, vU 0, vU 0] (z := vG [vU 0, vN, vI 0, vU 0, vU 0, vU 0, vU 0]) hd (by kernel_rfl) rfl) (fun _ => rfl) fun _ _ v H17 hq => ?_
 clear H14 hd
 obtain ⟨b15, rfl, hq⟩ := hq
 replace hS : SH M X w [eB b15 [vU 0, vN, vI 0, vU 0, vU 0, vU 0, vU 0], eI tyValue l_ g_l_, gE1, Ent.tab 0 (Lib.pow10Tab.map fun z => Value.int .u64 z), gE5] _ := hS.join [] [0, 1, 2, 3] rfl rfl hq
 clear hq
 have hd := hS.hand [0] [1, 2, 3, 4] rfl rfl
 refine m_stp0 [0, 1, 2, 7, 8, 32] (fS [0, 1, 2, 7, 8, 32] [vI prop, .slice g_l_.a l_.length g_l_.c, vI at_, vB y3, vP b15, vI y12.2]) H17 rfl rfl rfl (o_store (cV y12.1) H17 hd rfl rfl (by kernel_rfl) rfl rfl rfl) rfl fun _ _ H19 hq => ?_
 clear H17 hd
 obtain ⟨_, hq⟩ := hq
 replace hS : SH M X w [eB b15 (cV y12.1), eI tyValue l_ g_l_, gE1, Ent.tab 0 (Lib.pow10Tab.map fun z => Value.int .u64 z), gE5] _ := hS.join [0] [1, 2, 3, 4] rfl rfl hq
 clear hq
 refine wl_batch 8 9 [] [0, 1, 2, 7, 8, 9] (fS [0, 1, 2, 7, 8, 9] [vI prop, .slice g_l_.a l_.length g_l_.c, vI at_, vB y3, vP b15, vI y12.2]) [] H19 (by decide) (by kernel_rfl) trivial fun _ _ H21 hb => ?_
 replace hS := hS.below hb
 clear H19 hb
 apply wl_end rfl
 apply w_seq
 apply wl_start
 refine wl_batch 0 1 [] [0, 1, 2, 7, 8, 9, 33] (fS [0, 1, 2, 7, 8, 9, 33] [vI prop, .slice g_l_.a l_.length g_l_.c, vI at_, vB y3, vP b15, vI y12.2, .slice g_l_.a l_.length g_l_.c]) [] H21 (by decide) (by kernel_rfl) trivial fun _ _ H23 hb => ?_
 replace hS := hS.below hb
 clear H21 hb
 obtain ⟨y24, hy24, hm⟩ := bindE hm
 have hd := hS.hand [1] [0, 1, 2, 3, 4] rfl rfl
 refine m_stp [34, 0, 1, 2, 7, 8, 9] (fS [0, 1, 2, 7, 8, 9] [vI prop, .slice g_l_.a l_.length g_l_.c, vI at_, vB y3, vP b15, vI y12.2]) H23 rfl rfl rfl rfl (o_callx H23 rfl rfl (r26_Twin_ok (g_l_ := g_l_) m _ _ hy24 _ _ hd)) (fun _ => rfl) fun _ _ v H28 hq => ?_
 clear H23 hd
 obtain ⟨g25, rfl, hq⟩ := hq
 replace hS : SH M X w [eO 37 tyValue y24 g25, eB b15 (cV y12.1), eI tyValue l_ g_l_, gE1, Ent.tab 0 (Lib.pow10Tab.map fun z => Value.int .u64 z), gE5] _ := hS.join [1] [0, 1, 2, 3, 4] rfl rfl hq
 clear hq
 refine wl_batch 2 3 [] [0, 1, 2, 7, 8, 9, 10] (fS [0, 1, 2, 7, 8, 9, 10] [vI prop, .slice g_l_.a l_.length g_l_.c, vI at_, vB y3, vP b15, vI y12.2, .slice g25.a y24.length g25.c]) [] H28 (by decide) (by kernel_rfl) trivial fun _ _ H30 hb => ?_
 replace hS := hS.below hb
 clear H28 hb
 apply wl_end rfl
 obtain ⟨ho32, hm⟩ := chkE hm
 obtain ⟨y33, hy33, hm⟩ := bindE hm
 obtain ⟨y34, hy34, hm⟩ := bindE hm
 obtain ⟨q36, hq36, hm⟩ := letE hm
 obtain ⟨ho37, hm⟩ := chkE hm
 obtain ⟨q39, hq39, hm⟩ := letE hm
 refine s_drawS (base := (fS [0, 1, 2, 7, 8, 9, 10] [vI prop, .slice g_l_.a l_.length g_l_.c, vI at_, vB y3, vP b15, vI y12.2, .slice g25.a y24.length g25.c])) (L := [eO 37 tyValue y24 g25, eB b15 (cV y12.1), eI tyValue l_ g_l_, gE1, Ent.tab 0 (Lib.pow10Tab.map fun z => Value.int .u64 z), gE5]) 22 6 (fun yg31 => [.slice g25.a y24.length g25.c, .slice g25.a y24.length g25.c, .slice g25.a y24.length g25.c, .pointer (some ⟨ab g25.a, ao g25.a + ((0 : Int)).toNat * 6, none⟩), .pointer (some ⟨ab g25.a, ao g25.a + ((0 : Int)).toNat * 6, none⟩), .pointer (some ⟨ab g25.a, ao g25.a + ((0 : Int)).toNat * 6 + 1, none⟩), vS (gi y24 (0 : Int)).Token.Text, vS y33, .slice g25.a y24.length g25.c, .pointer (some ⟨ab g25.a, ao g25.a + ((0 : Int)).toNat * 6, none⟩), .pointer (some ⟨ab g25.a, ao g25.a + ((0 : Int)).toNat * 6, none⟩), .pointer (some ⟨ab g25.a, ao g25.a + ((0 : Int)).toNat * 6 + 3, none⟩), vS (gi y24 (0 : Int)).Token.Unit, vS y34, .pointer (some ⟨ab g25.a, ao g25.a + ((0 : Int)).toNat * 6, none⟩), .pointer (some ⟨ab g25.a, ao g25.a + ((0 : Int)).toNat * 6, none⟩), .pointer (some ⟨ab g25.a, ao g25.a + ((0 : Int)).toNat * 6 + 1, none⟩), undef, .pointer (some ⟨ab (Gh.mk g25.a g25.c (yg31 17 0).s).a, ao (Gh.mk g25.a g25.c (yg31 17 0).s).a + ((0 : Int)).toNat * 6, none⟩), .pointer (some ⟨ab (Gh.mk g25.a g25.c (yg31 17 0).s).a, ao (Gh.mk g25.a g25.c (yg31 17 0).s).a + ((0 : Int)).toNat * 6, none⟩), .pointer (some ⟨ab (Gh.mk g25.a g25.c (yg31 17 0).s).a, ao (Gh.mk g25.a g25.c (yg31 17 0).s).a + ((0 : Int)).toNat * 6 + 3, none⟩), undef]) (fun yg31 => [[], [], [], [], [], [], [], [], [], [], [], [], [], [], [], [], [], [eO 37 tyValue q36 (Gh.mk g25.a g25.c (yg31 17 0).s)], [], [], [], [eO 37 tyValue q39 (Gh.mk (Gh.mk g25.a g25.c (yg31 17 0).s).a (Gh.mk g25.a g25.c (yg31 17 0).s).c (yg31 21 0).s)]]) [[], [], [], [22], [22], [22], [22], [], [], [22], [22], [22], [22], [], [22], [22], [22], [22], [17], [17], [17], [17]] [[], [], [], [], [], [], [], [], [], [], [], [], [], [], [], [], [], [22], [], [], [], [17]] [[0], [1], [2], [2, 3], [2, 3, 4], [2, 3, 4, 5], [2, 3, 4, 5, 6], [2, 3, 4, 5, 6, 7], [8], [8, 9], [8, 9, 10], [8, 9, 10, 11], [8, 9, 10, 11, 12], [8, 9, 10, 11, 12, 13], [0, 14], [0, 14, 15], [0, 14, 15, 16], [0, 2, 3, 4, 5, 6, 7, 14, 15, 16, 17], [0, 1, 2, 3, 4, 5, 6, 7, 14, 15, 16, 17, 18], [0, 1, 2, 3, 4, 5, 6, 7, 14, 15, 16, 17, 18, 19], [0, 1, 2, 3, 4, 5, 6, 7, 14, 15, 16, 17, 18, 19, 20], [0, 1, 2, 3, 4, 5, 6, 7, 8, 9, 10, 11, 12, 13, 14, 15, 16, 17, 18, 19, 20, 21]] [] (FrG.keep (ks := [0, 1, 2, 7, 8, 9, 10]) H30 (by kernel_rfl)) (fun _ _ h => by cases h) (by kernel_rfl) hS (by kernel_rfl) rfl rfl (by kernel_rfl) (by kernel_rfl) (by kernel_rfl) (gd_none (by kernel_rfl) _ _) ?hloc_yg31 ?hstep_yg31 fun _ _ yg31 H41 hv hS => ?hK_yg31
 case hloc_yg31 => exact ⟨(fun _ _ _ _ => ⟨rfl, rfl⟩), (fun _ _ _ _ => ⟨rfl, rfl⟩), (fun _ _ _ _ => ⟨rfl, rfl⟩), (fun _ _ _ _ => ⟨rfl, rfl⟩), (fun _ _ _ _ => ⟨rfl, rfl⟩), (fun _ _ _ _ => ⟨rfl, rfl⟩), (fun _ _ _ _ => ⟨rfl, rfl⟩), (fun _ _ _ _ => ⟨rfl, rfl⟩), (fun _ _ _ _ => ⟨rfl, rfl⟩), (fun _ _ _ _ => ⟨rfl, rfl⟩), (fun _ _ _ _ => ⟨rfl, rfl⟩), (fun _ _ _ _ => ⟨rfl, rfl⟩), (fun _ _ _ _ => ⟨rfl, rfl⟩), (fun _ _ _ _ => ⟨rfl, rfl⟩), (fun _ _ _ _ => ⟨rfl, rfl⟩), (fun _ _ _ _ => ⟨rfl, rfl⟩), (fun _ _ _ _ => ⟨rfl, rfl⟩), (fun _ i g hi => lcG [17] (fun yg31 => (undef, [eO 37 tyValue q36 (Gh.mk g25.a g25.c (yg31 17 0).s)])) hi rfl), (fun _ i g hi => lcG [17] (fun yg31 => (.pointer (some ⟨ab (Gh.mk g25.a g25.c (yg31 17 0).s).a, ao (Gh.mk g25.a g25.c (yg31 17 0).s).a + ((0 : Int)).toNat * 6, none⟩), [])) hi rfl), (fun _ i g hi => lcG [17] (fun yg31 => (.pointer (some ⟨ab (Gh.mk g25.a g25.c (yg31 17 0).s).a, ao (Gh.mk g25.a g25.c (yg31 17 0).s).a + ((0 : Int)).toNat * 6, none⟩), [])) hi rfl), (fun _ i g hi => lcG [17] (fun yg31 => (.pointer (some ⟨ab (Gh.mk g25.a g25.c (yg31 17 0).s).a, ao (Gh.mk g25.a g25.c (yg31 17 0).s).a + ((0 : Int)).toNat * 6 + 3, none⟩), [])) hi rfl), (fun _ i g hi => lcG [17, 21] (fun yg31 => (undef, [eO 37 tyValue q39 (Gh.mk (Gh.mk g25.a g25.c (yg31 17 0).s).a (Gh.mk g25.a g25.c (yg31 17 0).s).c (yg31 21 0).s)])) hi rfl), trivial⟩
 case hstep_yg31 =>
  refine ⟨?_, ?_, ?_, ?_, ?_, ?_, ?_, ?_, ?_, ?_, ?_, ?_, ?_, ?_, ?_, ?_, ?_, ?_, ?_, ?_, ?_, ?_, trivial⟩
  ·intro o ho a w yg31 M Hb hv hO hS
   obtain rfl := someE ho
   exact Stp.mono (o_evs [] (.slice g25.a y24.length g25.c) none [] Hb rfl (by kernel_rfl) (fun q e => by cases e)) fun _ _ hq => ⟨gL [], fun _ _ => hq.1, (hS.below hq.2.below).sel [] rfl⟩
  ·intro o ho a w yg31 M Hb hv hO hS
   obtain rfl := someE ho
   exact Stp.mono (o_evs [] (.slice g25.a y24.length g25.c) none [] Hb rfl (by kernel_rfl) (fun q e => by cases e)) fun _ _ hq => ⟨gL [], fun _ _ => hq.1, (hS.below hq.2.below).sel [] rfl⟩
  ·intro o ho a w yg31 M Hb hv hO hS
   obtain rfl := someE ho
   exact Stp.mono (o_evs [] (.slice g25.a y24.length g25.c) none [] Hb rfl (by kernel_rfl) (fun q e => by cases e)) fun _ _ hq => ⟨gL [], fun _ _ => hq.1, (hS.below hq.2.below).sel [] rfl⟩
  ·intro o ho a w yg31 M Hb hv hO hS
   obtain rfl := someE ho
   exact Stp.mono (o_evs [] (.pointer (some ⟨ab g25.a, ao g25.a + ((0 : Int)).toNat * 6, none⟩)) (some (fun _ => oka g25.a ∧ 0 ≤ (0 : Int) ∧ (0 : Int) < ln y24)) [] ((Hb).add (hv 2 (by decide) (by decide) 37 rfl)) rfl (by kernel_rfl) (fun q e => by cases e; exact ((hS.osl 0 rfl).oki ho32))) fun _ _ hq => ⟨gL [], fun _ _ => hq.1, (hS.below hq.2.below).sel [0] rfl⟩
  ·intro o ho a w yg31 M Hb hv hO hS
   obtain rfl := someE ho
   exact Stp.mono (o_evs [] (.pointer (some ⟨ab g25.a, ao g25.a + ((0 : Int)).toNat * 6, none⟩)) none [] ((Hb).add (hv 3 (by decide) (by decide) 38 rfl)) rfl (by kernel_rfl) (fun q e => by cases e)) fun _ _ hq => ⟨gL [], fun _ _ => hq.1, (hS.below hq.2.below).sel [0] rfl⟩
  ·intro o ho a w yg31 M Hb hv hO hS
   obtain rfl := someE ho
   exact Stp.mono (o_evs [] (.pointer (some ⟨ab g25.a, ao g25.a + ((0 : Int)).toNat * 6 + 1, none⟩)) none [] ((Hb).add (hv 4 (by decide) (by decide) 39 rfl)) rfl (by kernel_rfl) (fun q e => by cases e)) fun _ _ hq => ⟨gL [], fun _ _ => hq.1, (hS.below hq.2.below).sel [0] rfl⟩
  ·intro o ho a w yg31 M Hb hv hO hS
   obtain rfl := someE ho
   exact Stp.mono (o_evs [(vS (gi y24 (0 : Int)).Token.Text)] (vS (gi y24 (0 : Int)).Token.Text) (some (fun wz => V.at1 ⟨ab g25.a, ao g25.a + ((0 : Int)).toNat * 6 + 1, none⟩ (vS (gi y24 (0 : Int)).Token.Text) wz)) [] ((Hb).add (hv 5 (by decide) (by decide) 40 rfl)) rfl (by kernel_rfl) (fun q e => by cases e; exact ((hS.osl 0 rfl).at1 ho32 1 rfl))) fun _ _ hq => ⟨gL [], fun _ _ => hq.1, (hS.below hq.2.below).sel [0] rfl⟩
  ·intro o ho a w yg31 M Hb hv hO hS
   obtain rfl := someE ho
   exact Stp.mono (o_evs [(vS y33)] (vS y33) (some (rB 12 [vS (gi y24 (0 : Int)).Token.Text] (vS y33))) [] ((Hb).add (hv 6 (by decide) (by decide) 41 rfl)) rfl (by kernel_rfl) (fun q e => by cases e; exact ((r26_Great_ok m _ _ hy33).b))) fun _ _ hq => ⟨gL [], fun _ _ => hq.1, (hS.below hq.2.below).sel [] rfl⟩
  ·intro o ho a w yg31 M Hb hv hO hS
   obtain rfl := someE ho
   exact Stp.mono (o_evs [] (.slice g25.a y24.length g25.c) none [] Hb rfl (by kernel_rfl) (fun q e => by cases e)) fun _ _ hq => ⟨gL [], fun _ _ => hq.1, (hS.below hq.2.below).sel [] rfl⟩
  ·intro o ho a w yg31 M Hb hv hO hS
   obtain rfl := someE ho
   exact Stp.mono (o_evs [] (.pointer (some ⟨ab g25.a, ao g25.a + ((0 : Int)).toNat * 6, none⟩)) (some (fun _ => oka g25.a ∧ 0 ≤ (0 : Int) ∧ (0 : Int) < ln y24)) [] ((Hb).add (hv 8 (by decide) (by decide) 43 rfl)) rfl (by kernel_rfl) (fun q e => by cases e; exact ((hS.osl 0 rfl).oki ho32))) fun _ _ hq => ⟨gL [], fun _ _ => hq.1, (hS.below hq.2.below).sel [0] rfl⟩
  ·intro o ho a w yg31 M Hb hv hO hS
   obtain rfl := someE ho
   exact Stp.mono (o_evs [] (.pointer (some ⟨ab g25.a, ao g25.a + ((0 : Int)).toNat * 6, none⟩)) none [] ((Hb).add (hv 9 (by decide) (by decide) 44 rfl)) rfl (by kernel_rfl) (fun q e => by cases e)) fun _ _ hq => ⟨gL [], fun _ _ => hq.1, (hS.below hq.2.below).sel [0] rfl⟩
  ·intro o ho a w yg31 M Hb hv hO hS
   obtain rfl := someE ho
   exact Stp.mono (o_evs [] (.pointer (some ⟨ab g25.a, ao g25.a + ((0 : Int)).toNat * 6 + 3, none⟩)) none [] ((Hb).add (hv 10 (by decide) (by decide) 45 rfl)) rfl (by kernel_rfl) (fun q e => by cases e)) fun _ _ hq => ⟨gL [], fun _ _ => hq.1, (hS.below hq.2.below).sel [0] rfl⟩
  ·intro o ho a w yg31 M Hb hv hO hS
   obtain rfl := someE ho
   exact Stp.mono (o_evs [(vS (gi y24 (0 : Int)).Token.Unit)] (vS (gi y24 (0 : Int)).Token.Unit) (some (fun wz => V.at1 ⟨ab g25.a, ao g25.a + ((0 : Int)).toNat * 6 + 3, none⟩ (vS (gi y24 (0 : Int)).Token.Unit) wz)) [] ((Hb).add (hv 11 (by decide) (by decide) 46 rfl)) rfl (by kernel_rfl) (fun q e => by cases e; exact ((hS.osl 0 rfl).at1 ho32 3 rfl))) fun _ _ hq => ⟨gL [], fun _ _ => hq.1, (hS.below hq.2.below).sel [0] rfl⟩
  ·intro o ho a w yg31 M Hb hv hO hS
   obtain rfl := someE ho
   exact Stp.mono (o_evs [(vS y34)] (vS y34) (some (rB 12 [vS (gi y24 (0 : Int)).Token.Unit] (vS y34))) [] ((Hb).add (hv 12 (by decide) (by decide) 47 rfl)) rfl (by kernel_rfl) (fun q e => by cases e; exact ((r26_Great_ok m _ _ hy34).b))) fun _ _ hq => ⟨gL [], fun _ _ => hq.1, (hS.below hq.2.below).sel [] rfl⟩
  ·intro o ho a w yg31 M Hb hv hO hS
   obtain rfl := someE ho
   exact Stp.mono (o_evs [] (.pointer (some ⟨ab g25.a, ao g25.a + ((0 : Int)).toNat * 6, none⟩)) (some (fun _ => oka g25.a ∧ 0 ≤ (0 : Int) ∧ (0 : Int) < ln y24)) [] ((Hb).add (hv 0 (by decide) (by decide) 35 rfl)) rfl (by kernel_rfl) (fun q e => by cases e; exact ((hS.osl 0 rfl).oki ho32))) fun _ _ hq => ⟨gL [], fun _ _ => hq.1, (hS.below hq.2.below).sel [0] rfl⟩
  ·intro o ho a w yg31 M Hb hv hO hS
   obtain rfl := someE ho
   exact Stp.mono (o_evs [] (.pointer (some ⟨ab g25.a, ao g25.a + ((0 : Int)).toNat * 6, none⟩)) none [] ((Hb).add (hv 14 (by decide) (by decide) 49 rfl)) rfl (by kernel_rfl) (fun q e => by cases e)) fun _ _ hq => ⟨gL [], fun _ _ => hq.1, (hS.below hq.2.below).sel [0] rfl⟩
  ·intro o ho a w yg31 M Hb hv hO hS
   obtain rfl := someE ho
   exact Stp.mono (o_evs [] (.pointer (some ⟨ab g25.a, ao g25.a + ((0 : Int)).toNat * 6 + 1, none⟩)) none [] ((Hb).add (hv 15 (by decide) (by decide) 50 rfl)) rfl (by kernel_rfl) (fun q e => by cases e)) fun _ _ hq => ⟨gL [], fun _ _ => hq.1, (hS.below hq.2.below).sel [0] rfl⟩
  ·intro o ho a w yg31 M Hb hv hO hS0
   obtain rfl := someE ho
   have H : Fr 132 ((fS [51, 42] [.pointer (some ⟨ab g25.a, ao g25.a + ((0 : Int)).toNat * 6 + 1, none⟩), vS y33]) ++ (fS [0, 1, 2, 7, 8, 9, 10] [vI prop, .slice g_l_.a l_.length g_l_.c, vI at_, vB y3, vP b15, vI y12.2, .slice g25.a y24.length g25.c])) _ := ((Hb).add (hv 7 (by decide) (by decide) 42 rfl)).add (hv 16 (by decide) (by decide) 51 rfl)
   obtain ⟨X, hX⟩ : ∃ X, X = fpl [eO 37 tyValue y24 g25] := ⟨_, rfl⟩
   have hS : SH M X w [eO 37 tyValue y24 g25] w := by rw [hX]; exact hS0
   have hd := hS.hand [0] [] rfl rfl
   refine Stp.mono (o_estore (T := tyValue) (g := g25) (q := y24) (ix := (0 : Int)) (off := 1) (TValue.mk (TToken.mk ((gi y24 (0 : Int)).Token.Kind) y33 ((gi y24 (0 : Int)).Token.Num) ((gi y24 (0 : Int)).Token.Unit) ((gi y24 (0 : Int)).Token.Flag)) ((gi y24 (0 : Int)).List_)) (gL [(g25.s ((0 : Int)).toNat 0)]) H hd rfl rfl rfl rfl (by kernel_rfl) rfl rfl ho32 rfl (tyValue_mk (tyValue_i0 (x := (gi y24 (0 : Int))) (g := g25.s ((0 : Int)).toNat) ((hd.ow 0 rfl).el ho32))) rfl) ?_
   rintro v w2 hq
   obtain ⟨s35, hq⟩ := hq
   rw [← hq36] at hq
   have hn : y24.length = q36.length := by rw [hq36, setl_len]
   clear hn
   replace hS : SH M X w [eO 37 tyValue q36 (Gh.mk g25.a g25.c s35)] _ := hS.join [0] [] rfl rfl hq
   clear hq
   rw [hX] at hS
   exact ⟨gL [Gh.mk none 0 s35], (fun _ h => by cases h), hS.sel [0] rfl⟩
  ·intro o ho a w yg31 M Hb hv hO hS0
   obtain rfl := someE ho
   have H : Fr 132 ([(36, [], .slice g25.a y24.length g25.c)] ++ (fS [0, 1, 2, 7, 8, 9, 10] [vI prop, .slice g_l_.a l_.length g_l_.c, vI at_, vB y3, vP b15, vI y12.2, .slice g25.a y24.length g25.c])) _ := (Hb).add (hv 1 (by decide) (by decide) 36 rfl)
   have hn : y24.length = q36.length := by rw [hq36, setl_len]
   first | rw [hn] at H | skip
   clear hn
   obtain ⟨X, hX⟩ : ∃ X, X = fpl [eO 37 tyValue q36 (Gh.mk g25.a g25.c (yg31 17 0).s)] := ⟨_, rfl⟩
   have hS : SH M X w [eO 37 tyValue q36 (Gh.mk g25.a g25.c (yg31 17 0).s)] w := by rw [hX]; exact hS0
   refine Stp.mono (o_evs [] (.pointer (some ⟨ab (Gh.mk g25.a g25.c (yg31 17 0).s).a, ao (Gh.mk g25.a g25.c (yg31 17 0).s).a + ((0 : Int)).toNat * 6, none⟩)) (some (fun _ => oka (Gh.mk g25.a g25.c (yg31 17 0).s).a ∧ 0 ≤ (0 : Int) ∧ (0 : Int) < ln q36)) [] H rfl (by kernel_rfl) (fun q e => by cases e; exact ((hS.osl 0 rfl).oki ho37))) ?_
   rintro v w2 ⟨rfl, hq⟩
   replace hS : SH M X w [eO 37 tyValue q36 (Gh.mk g25.a g25.c (yg31 17 0).s)] _ := hS.below hq.below
   rw [hX] at hS
   exact ⟨gL [], fun _ _ => rfl, hS.sel [0] rfl⟩
  ·intro o ho a w yg31 M Hb hv hO hS0
   obtain rfl := someE ho
   have H : Fr 132 ([(52, [], .pointer (some ⟨ab (Gh.mk g25.a g25.c (yg31 17 0).s).a, ao (Gh.mk g25.a g25.c (yg31 17 0).s).a + ((0 : Int)).toNat * 6, none⟩))] ++ (fS [0, 1, 2, 7, 8, 9, 10] [vI prop, .slice g_l_.a l_.length g_l_.c, vI at_, vB y3, vP b15, vI y12.2, .slice g25.a y24.length g25.c])) _ := (Hb).add (hv 18 (by decide) (by decide) 52 rfl)
   have hn : y24.length = q36.length := by rw [hq36, setl_len]
   first | rw [hn] at H | skip
   clear hn
   obtain ⟨X, hX⟩ : ∃ X, X = fpl [eO 37 tyValue q36 (Gh.mk g25.a g25.c (yg31 17 0).s)] := ⟨_, rfl⟩
   have hS : SH M X w [eO 37 tyValue q36 (Gh.mk g25.a g25.c (yg31 17 0).s)] w := by rw [hX]; exact hS0
   refine Stp.mono (o_evs [] (.pointer (some ⟨ab (Gh.mk g25.a g25.c (yg31 17 0).s).a, ao (Gh.mk g25.a g25.c (yg31 17 0).s).a + ((0 : Int)).toNat * 6, none⟩)) none [] H rfl (by kernel_rfl) (fun q e => by cases e)) ?_
   rintro v w2 ⟨rfl, hq⟩
   replace hS : SH M X w [eO 37 tyValue q36 (Gh.mk g25.a g25.c (yg31 17 0).s)] _ := hS.below hq.below
   rw [hX] at hS
   exact ⟨gL [], fun _ _ => rfl, hS.sel [0] rfl⟩
  ·intro o ho a w yg31 M Hb hv hO hS0
   obtain rfl := someE ho
   have H : Fr 132 ([(53, [], .pointer (some ⟨ab (Gh.mk g25.a g25.c (yg31 17 0).s).a, ao (Gh.mk g25.a g25.c (yg31 17 0).s).a + ((0 : Int)).toNat * 6, none⟩))] ++ (fS [0, 1, 2, 7, 8, 9, 10] [vI prop, .slice g_l_.a l_.length g_l_.c, vI at_, vB y3, vP b15, vI y12.2, .slice g25.a y24.length g25.c])) _ := (Hb).add (hv 19 (by decide) (by decide) 53 rfl)
   have hn : y24.length = q36.length := by rw [hq36, setl_len]
   first | rw [hn] at H | skip
   clear hn
   obtain ⟨X, hX⟩ : ∃ X, X = fpl [eO 37 tyValue q36 (Gh.mk g25.a g25.c (yg31 17 0).s)] := ⟨_, rfl⟩
   have hS : SH M X w [eO 37 tyValue q36 (Gh.mk g25.a g25.c (yg31 17 0).s)] w := by rw [hX]; exact hS0
   refine Stp.mono (o_evs [] (.pointer (some ⟨ab (Gh.mk g25.a g25.c (yg31 17 0).s).a, ao (Gh.mk g25.a g25.c (yg31 17 0).s).a + ((0 : Int)).toNat * 6 + 3, none⟩)) none [] H rfl (by kernel_rfl) (fun q e => by cases e)) ?_
   rintro v w2 ⟨rfl, hq⟩
   replace hS : SH M X w [eO 37 tyValue q36 (Gh.mk g25.a g25.c (yg31 17 0).s)] _ := hS.below hq.below
   rw [hX] at hS
   exact ⟨gL [], fun _ _ => rfl, hS.sel [0] rfl⟩
  ·intro o ho a w yg31 M Hb hv hO hS0
   obtain rfl := someE ho
   have H : Fr 132 ((fS [54, 48] [.pointer (some ⟨ab (Gh.mk g25.a g25.c (yg31 17 0).s).a, ao (Gh.mk g25.a g25.c (yg31 17 0).s).a + ((0 : Int)).toNat * 6 + 3, none⟩), vS y34]) ++ (fS [0, 1, 2, 7, 8, 9, 10] [vI prop, .slice g_l_.a l_.length g_l_.c, vI at_, vB y3, vP b15, vI y12.2, .slice g25.a y24.length g25.c])) _ := ((Hb).add (hv 13 (by decide) (by decide) 48 rfl)).add (hv 20 (by decide) (by decide) 54 rfl)
   have hn : y24.length = q36.length := by rw [hq36, setl_len]
   first | rw [hn] at H | skip
   clear hn
   obtain ⟨X, hX⟩ : ∃ X, X = fpl [eO 37 tyValue q36 (Gh.mk g25.a g25.c (yg31 17 0).s)] := ⟨_, rfl⟩
   have hS : SH M X w [eO 37 tyValue q36 (Gh.mk g25.a g25.c (yg31 17 0).s)] w := by rw [hX]; exact hS0
   have hd := hS.hand [0] [] rfl rfl
   refine Stp.mono (o_estore (T := tyValue) (g := (Gh.mk g25.a g25.c (yg31 17 0).s)) (q := q36) (ix := (0 : Int)) (off := 3) (TValue.mk (TToken.mk ((gi q36 (0 : Int)).Token.Kind) ((gi q36 (0 : Int)).Token.Text) ((gi q36 (0 : Int)).Token.Num) y34 ((gi q36 (0 : Int)).Token.Flag)) ((gi q36 (0 : Int)).List_)) (gL [((Gh.mk g25.a g25.c (yg31 17 0).s).s ((0 : Int)).toNat 0)]) H hd rfl rfl rfl rfl (by kernel_rfl) rfl rfl ho37 rfl (tyValue_mk (tyValue_i0 (x := (gi q36 (0 : Int))) (g := (Gh.mk g25.a g25.c (yg31 17 0).s).s ((0 : Int)).toNat) ((hd.ow 0 rfl).el ho37))) rfl) ?_
   rintro v w2 hq
   obtain ⟨s38, hq⟩ := hq
   rw [← hq39] at hq
   have hn : q36.length = q39.length := by rw [hq39, setl_len]
   clear hn
   replace hS : SH M X w [eO 37 tyValue q39 (Gh.mk (Gh.mk g25.a g25.c (yg31 17 0).s).a (Gh.mk g25.a g25.c (yg31 17 0).s).c s38)] _ := hS.join [0] [] rfl rfl hq
   clear hq
   rw [hX] at hS
   exact ⟨gL [Gh.mk none 0 s38], (fun _ h => by cases h), hS.sel [0] rfl⟩
 have H42 : Fr 132 (fS [0, 1, 2, 7, 8, 9, 10] [vI prop, .slice g_l_.a l_.length g_l_.c, vI at_, vB y3, vP b15, vI y12.2, .slice g25.a y24.length g25.c]) _ := (FrG.keep (ks := [0, 1, 2, 7, 8, 9, 10]) H41 (by kernel_rfl))
 replace hS : SH M X w [eO 37 tyValue q39 (Gh.mk (Gh.mk g25.a g25.c (yg31 17 0).s).a (Gh.mk g25.a g25.c (yg31 17 0).s).c (yg31 21 0).s), eB b15 (cV y12.1), eI tyValue l_ g_l_, gE1, Ent.tab 0 (Lib.pow10Tab.map fun z => Value.int .u64 z), gE5] _ := hS
 clear hv H41
 have hn : y24.length = q36.length := by rw [hq36, setl_len]
 first | rw [hn] at hS | skip
 first | rw [hn] at H42 | skip
 clear hn
 have hn : q36.length = q39.length := by rw [hq39, setl_len]
 first | rw [hn] at hS | skip
 first | rw [hn] at H42 | skip
 clear hn
 replace hS : SH M X w [eO 37 tyValue q39 (Gh.mk (Gh.mk g25.a g25.c (yg31 17 0).s).a (Gh.mk g25.a g25.c (yg31 17 0).s).c (yg31 21 0).s), eB b15 (cV y12.1), eI tyValue l_ g_l_, gE1, Ent.tab 0 (Lib.pow10Tab.map fun z => Value.int .u64 z), gE5] _ := hS
 generalize yg31 17 0 = g43 at H42 hS
 generalize yg31 21 0 = g44 at H42 hS
 apply w_seq
 apply wl_start
 obtain ⟨y45, hy45, hm⟩ := bindE hm
 refine wl_batch 0 6 [(vW [vG (cV y45.1), vI y45.2])] [0, 1, 2, 7, 8, 9, 59, 60] (fS [0, 1, 2, 7, 8, 9, 59, 60] [vI prop, .slice g_l_.a l_.length g_l_.c, vI at_, vB y3, vP b15, vI y12.2, vG (cV y45.1), vI y45.2]) [rB 10 [vI prop, .slice (Gh.mk (Gh.mk g25.a g25.c g43.s).a (Gh.mk g25.a g25.c g43.s).c g44.s).a q39.length (Gh.mk (Gh.mk g25.a g25.c g43.s).a (Gh.mk g25.a g25.c g43.s).c g44.s).c] (vW [vG (cV y45.1), vI y45.2])] H42 (by decide) (by kernel_rfl) ⟨(parseval_Parse_ok (g_l_ := (Gh.mk (Gh.mk g25.a g25.c g43.s).a (Gh.mk g25.a g25.c g43.s).c g44.s)) m _ _ _ hy45 _ (s0im (s0im s0nil (hS.im 3 rfl)) (hS.osl 0 rfl))), trivial⟩ fun _ _ H47 hb => ?_
 replace hS := hS.below hb
 clear H42 hb
 have hd := hS.hand [] [0, 1, 2, 3, 4, 5] rfl rfl
 refine m_stp [11, 0, 1, 2, 7, 8, 9, 59, 60] (fS [0, 1, 2, 7, 8, 9, 59, 60] [vI prop, .slice g_l_.a l_.length g_l_.c, vI at_, vB y3, vP b15, vI y12.2, vG (cV y45.1), vI y45.2]) H47 rfl rfl rfl rfl (o_alloc [vU 0, vN, vI 0, vU 0, vU 0, vU 0, vU 0] (z := vG [vU 0, vN, vI 0, vU 0, vU 0, vU 0, vU 0]) hd (by kernel_rfl) rfl) (fun _ => rfl) fun _ _ v H50 hq => ?_
 clear H47 hd
 obtain ⟨b48, rfl, hq⟩ := hq
 replace hS : SH M X w [eB b48 [vU 0, vN, vI 0, vU 0, vU 0, vU 0, vU 0], eO 37 tyValue q39 (Gh.mk (Gh.mk g25.a g25.c g43.s).a (Gh.mk g25.a g25.c g43.s).c g44.s), eB b15 (cV y12.1), eI tyValue l_ g_l_, gE1, Ent.tab 0 (Lib.pow10Tab.map fun z => Value.int .u64 z), gE5] _ := hS.join [] [0, 1, 2, 3, 4, 5] rfl rfl hq
 clear hq
 have hd := hS.hand [0] [1, 2, 3, 4, 5, 6] rfl rfl
 refine m_stp0 [0, 1, 2, 7, 8, 9, 11, 60] (fS [0, 1, 2, 7, 8, 9, 11, 60] [vI prop, .slice g_l_.a l_.length g_l_.c, vI at_, vB y3, vP b15, vI y12.2, vP b48, vI y45.2]) H50 rfl rfl rfl (o_store (cV y45.1) H50 hd rfl rfl (by kernel_rfl) rfl rfl rfl) rfl fun _ _ H52 hq => ?_
 clear H50 hd
 obtain ⟨_, hq⟩ := hq
 replace hS : SH M X w [eB b48 (cV y45.1), eO 37 tyValue q39 (Gh.mk (Gh.mk g25.a g25.c g43.s).a (Gh.mk g25.a g25.c g43.s).c g44.s), eB b15 (cV y12.1), eI tyValue l_ g_l_, gE1, Ent.tab 0 (Lib.pow10Tab.map fun z => Value.int .u64 z), gE5] _ := hS.join [0] [1, 2, 3, 4, 5, 6] rfl rfl hq
 clear hq
 refine wl_batch 8 9 [] [0, 1, 2, 7, 8, 9, 11, 12] (fS [0, 1, 2, 7, 8, 9, 11, 12] [vI prop, .slice g_l_.a l_.length g_l_.c, vI at_, vB y3, vP b15, vI y12.2, vP b48, vI y45.2]) [] H52 (by decide) (by kernel_rfl) trivial fun _ _ H54 hb => ?_
 replace hS := hS.below hb
 clear H52 hb
 apply wl_end rfl
 replace hS : SH M X w [eB b48 (cV y45.1), eB b15 (cV y12.1), eI tyValue l_ g_l_, gE1, Ent.tab 0 (Lib.pow10Tab.map fun z => Value.int .u64 z), gE5] _ := hS.sel [0, 2, 3, 4, 5, 6] rfl
 apply w_seq
 obtain ⟨x55, hx55, hm⟩ := letE hm
 refine s_reg [(vG (cV y12.1)), (vG (cV y45.1))] [0, 1, 2, 7, 8, 9, 11, 68] (fS [0, 1, 2, 7, 8, 9, 11, 68] [vI prop, .slice g_l_.a l_.length g_l_.c, vI at_, vB y3, vP b15, vI y12.2, vP b48, vB (cond x55 true (y12.2 != y45.2))]) [rN b15 0 (cV y12.1), rN b48 0 (cV y45.1)] H54 (by subst hx55; kernel_rfl) ⟨((hS.bk 1 rfl).atD rfl), ((hS.bk 0 rfl).atD rfl), trivial⟩ fun _ _ H57 hb => ?_
 replace hS := hS.below hb
 clear H54 hb
 refine w_if H57 rfl (fun hc => ?c140) (fun hc => ?_)
 case c140 =>
  replace hm := bT hc hm
  refine s_reg [] [6] [(6, [], vF)] [] H57 (by kernel_rfl) trivial fun _ _ H59 hb => ?_
  replace hS := hS.below hb
  clear H57 hb
  replace hS : SH M X w [gE1, Ent.tab 0 (Lib.pow10Tab.map fun z => Value.int .u64 z), gE5] _ := hS.sel [3, 4, 5] rfl
  apply w_ret
  obtain rfl := someE hm
  exact retR1 H59 rfl rfl ⟨_, rfl, rfl, (hS.sel [] rfl)⟩
 replace hm := bF hc hm
 apply w_skip
 apply w_seq
 obtain ⟨ho60, hm⟩ := chkE hm
 obtain ⟨x61, hx61, hm⟩ := letE hm
 obtain ⟨x62, hx62, hm⟩ := letE hm
 refine s_reg [(vU ((gi l_ (0 : Int)).Token.Kind)), (.slice (g_l_.s ((0 : Int)).toNat 0).a (((gi l_ (0 : Int)).List_).length) (g_l_.s ((0 : Int)).toNat 0).c)] [0, 1, 2, 7, 8, 9, 11, 87] (fS [0, 1, 2, 7, 8, 9, 11, 87] [vI prop, .slice g_l_.a l_.length g_l_.c, vI at_, vB y3, vP b15, vI y12.2, vP b48, vB x62]) [fun _ => oka g_l_.a ∧ 0 ≤ (0 : Int) ∧ (0 : Int) < ln l_, fun wz => V.at1 ⟨ab g_l_.a, ao g_l_.a + ((0 : Int)).toNat * 6, none⟩ (vU ((gi l_ (0 : Int)).Token.Kind)) wz, fun _ => (x61 = false ∧ True → oka g_l_.a ∧ 0 ≤ (0 : Int) ∧ (0 : Int) < ln l_), fun wz => (x61 = false ∧ True → V.at1 ⟨ab g_l_.a, ao g_l_.a + ((0 : Int)).toNat * 6 + 5, none⟩ (.slice (g_l_.s ((0 : Int)).toNat 0).a (((gi l_ (0 : Int)).List_).length) (g_l_.s ((0 : Int)).toNat 0).c) wz)] H57 (by subst hx61 hx62; kernel_rfl) ⟨((hS.im 2 rfl).oki ho60), ((hS.im 2 rfl).at1 ho60 0 rfl), fun hg => (hS.im 2 rfl).oki ho60, fun hg => (hS.im 2 rfl).at1 ho60 5 rfl, trivial⟩ fun _ _ H64 hb => ?_
 replace hS := hS.below hb
 clear H57 hb
 refine w_if H64 rfl (fun hc => ?c139) (fun hc => ?_)
 case c139 =>
  replace hm := bT hc hm
  refine s_reg [] [6] [(6, [], vB y3)] [] H64 (by kernel_rfl) trivial fun _ _ H66 hb => ?_
  replace hS := hS.below hb
  clear H64 hb
  replace hS : SH M X w [gE1, Ent.tab 0 (Lib.pow10Tab.map fun z => Value.int .u64 z), gE5] _ := hS.sel [3, 4, 5] rfl
  apply w_ret
  obtain rfl := someE hm
  exact retR1 H66 rfl rfl ⟨_, rfl, rfl, (hS.sel [] rfl)⟩
 replace hm := bF hc hm
 apply w_skip
 apply w_seq
 apply wl_start
 refine wl_batch 0 1 [] [0, 2, 7, 8, 9, 11, 89] (fS [0, 2, 7, 8, 9, 11, 89] [vI prop, vI at_, vB y3, vP b15, vI y12.2, vP b48, .slice g_l_.a l_.length g_l_.c]) [] H64 (by decide) (by kernel_rfl) trivial fun _ _ H68 hb => ?_
 replace hS := hS.below hb
 clear H64 hb
 obtain ⟨y69, hy69, hm⟩ := bindE hm
 have hd := hS.hand [2] [0, 1, 2, 3, 4, 5] rfl rfl
 refine m_stp [90, 0, 2, 7, 8, 9, 11] (fS [0, 2, 7, 8, 9, 11] [vI prop, vI at_, vB y3, vP b15, vI y12.2, vP b48]) H68 rfl rfl rfl rfl (o_callx H68 rfl rfl (r26_Twin_ok (g_l_ := g_l_) m _ _ hy69 _ _ hd)) (fun _ => rfl) fun _ _ v H73 hq => ?_
 clear H68 hd
 obtain ⟨g70, rfl, hq⟩ := hq
 replace hS : SH M X w [eO 37 tyValue y69 g70, eB b48 (cV y45.1), eB b15 (cV y12.1), eI tyValue l_ g_l_, gE1, Ent.tab 0 (Lib.pow10Tab.map fun z => Value.int .u64 z), gE5] _ := hS.join [2] [0, 1, 2, 3, 4, 5] rfl rfl hq
 clear hq
 refine wl_batch 2 3 [] [0, 2, 7, 8, 9, 10, 11] (fS [0, 2, 7, 8, 9, 10, 11] [vI prop, vI at_, vB y3, vP b15, vI y12.2, .slice g70.a y69.length g70.c, vP b48]) [] H73 (by decide) (by kernel_rfl) trivial fun _ _ H75 hb => ?_
 replace hS := hS.below hb
 clear H73 hb
 apply wl_end rfl
 replace hS : SH M X w [eO 37 tyValue y69 g70, eB b48 (cV y45.1), eB b15 (cV y12.1), gE1, Ent.tab 0 (Lib.pow10Tab.map fun z => Value.int .u64 z), gE5] _ := hS.sel [0, 1, 2, 4, 5, 6] rfl
 refine s_reg [] [0, 2, 7, 8, 9, 10, 11, 13] (fS [0, 2, 7, 8, 9, 10, 11, 13] [vI prop, vI at_, vB y3, vP b15, vI y12.2, .slice g70.a y69.length g70.c, vP b48, vO]) [] H75 (by kernel_rfl) trivial fun _ _ H77 hb => ?_
 replace hS := hS.below hb
 clear H75 hb
 apply w_seq
 apply wl_start
 obtain ⟨ho78, hm⟩ := chkE hm
 refine wl_batch 0 6 [(.slice (g70.s ((0 : Int)).toNat 0).a (((gi y69 (0 : Int)).List_).length) (g70.s ((0 : Int)).toNat 0).c)] [0, 2, 7, 8, 9, 10, 11, 91, 95, 96] (fS [0, 2, 7, 8, 9, 10, 11, 91, 95, 96] [vI prop, vI at_, vB y3, vP b15, vI y12.2, .slice g70.a y69.length g70.c, vP b48, vO, .slice (g70.s ((0 : Int)).toNat 0).a (((gi y69 (0 : Int)).List_).length) (g70.s ((0 : Int)).toNat 0).c, vI at_]) [fun _ => oka g70.a ∧ 0 ≤ (0 : Int) ∧ (0 : Int) < ln y69, fun wz => V.at1 ⟨ab g70.a, ao g70.a + ((0 : Int)).toNat * 6 + 5, none⟩ (.slice (g70.s ((0 : Int)).toNat 0).a (((gi y69 (0 : Int)).List_).length) (g70.s ((0 : Int)).toNat 0).c) wz] H77 (by decide) (by kernel_rfl) ⟨((hS.osl 0 rfl).oki ho78), ((hS.osl 0 rfl).at1 ho78 5 rfl), trivial⟩ fun _ _ H80 hb => ?_
 replace hS := hS.below hb
 clear H77 hb
 replace hS : SH M X w [eI tyValue ((gi y69 (0 : Int)).List_) (g70.s ((0 : Int)).toNat 0), eO 37 tyValue y69 g70, eB b48 (cV y45.1), eB b15 (cV y12.1), gE1, Ent.tab 0 (Lib.pow10Tab.map fun z => Value.int .u64 z), gE5] _ := hS.addIm (tyValue_i0 ((hS.ow 0 rfl).el ho78))
 obtain ⟨ho82, hm⟩ := chkE hm
 obtain ⟨q83, hq83, hm⟩ := letE hm
 have hd := hS.hand [0] [0, 1, 2, 3, 4, 5, 6] rfl rfl
 refine m_stp [97, 0, 2, 7, 8, 9, 10, 11, 91] (fS [0, 2, 7, 8, 9, 10, 11, 91] [vI prop, vI at_, vB y3, vP b15, vI y12.2, .slice g70.a y69.length g70.c, vP b48, vO]) H80 rfl rfl rfl rfl (o_sub (T := tyValue) (E := 37) (g := (g70.s ((0 : Int)).toNat 0)) (q := ((gi y69 (0 : Int)).List_)) (0 : Int) at_ .none (.some (vI at_)) H80 hd (hd.im 0 rfl) rfl rfl rfl rfl rfl rfl (.inl ⟨rfl, rfl⟩) (.inr ⟨_, rfl⟩) (by kernel_rfl) (by kernel_rfl) ho82) (fun _ => rfl) fun _ _ v H85 hq => ?_
 clear H80 hd
 obtain ⟨g86, rfl, hq⟩ := hq
 rw [← hq83] at hq
 rw [← hq83] at H85
 replace hS : SH M X w [eI tyValue q83 g86, eI tyValue ((gi y69 (0 : Int)).List_) (g70.s ((0 : Int)).toNat 0), eI tyValue ((gi y69 (0 : Int)).List_) (g70.s ((0 : Int)).toNat 0), eO 37 tyValue y69 g70, eB b48 (cV y45.1), eB b15 (cV y12.1), gE1, Ent.tab 0 (Lib.pow10Tab.map fun z => Value.int .u64 z), gE5] _ := hS.join [0] [0, 1, 2, 3, 4, 5, 6] rfl rfl hq
 clear hq
 replace hS : SH M X w [eO 37 tyValue ([] : List TValue) (.nil), eI tyValue q83 g86, eI tyValue ((gi y69 (0 : Int)).List_) (g70.s ((0 : Int)).toNat 0), eI tyValue ((gi y69 (0 : Int)).List_) (g70.s ((0 : Int)).toNat 0), eO 37 tyValue y69 g70, eB b48 (cV y45.1), eB b15 (cV y12.1), gE1, Ent.tab 0 (Lib.pow10Tab.map fun z => Value.int .u64 z), gE5] _ := hS.addNil 37 tyValue
 obtain ⟨ho89, hm⟩ := chkE hm
 obtain ⟨q90, hq90, hm⟩ := letE hm
 have hd := hS.hand [0, 1] [1, 2, 3, 4, 5, 6, 7, 8, 9] rfl rfl
 refine m_stp [98, 0, 2, 7, 8, 9, 10, 11] (fS [0, 2, 7, 8, 9, 10, 11] [vI prop, vI at_, vB y3, vP b15, vI y12.2, .slice g70.a y69.length g70.c, vP b48]) H85 rfl rfl rfl rfl (o_app (T := tyValue) (zv := vG [vU 0, vN, vI 0, vN, vF, vO]) (g1 := Gh.nil) (g2 := g86) (l1 := ([] : List TValue)) (l2 := q83) q90 hq90.symm H85 hd rfl rfl rfl rfl rfl rfl rfl (by kernel_rfl) (by kernel_rfl) rfl rfl ho89) (fun _ => rfl) fun _ _ v H92 hq => ?_
 clear H85 hd
 obtain ⟨g93, rfl, hq⟩ := hq
 replace hS : SH M X w [eO 37 tyValue q90 g93, eI tyValue q83 g86, eI tyValue ((gi y69 (0 : Int)).List_) (g70.s ((0 : Int)).toNat 0), eI tyValue ((gi y69 (0 : Int)).List_) (g70.s ((0 : Int)).toNat 0), eO 37 tyValue y69 g70, eB b48 (cV y45.1), eB b15 (cV y12.1), gE1, Ent.tab 0 (Lib.pow10Tab.map fun z => Value.int .u64 z), gE5] _ := hS.join [0, 1] [1, 2, 3, 4, 5, 6, 7, 8, 9] rfl rfl hq
 clear hq
 refine wl_batch 8 9 [] [0, 2, 7, 8, 9, 10, 11, 13] (fS [0, 2, 7, 8, 9, 10, 11, 13] [vI prop, vI at_, vB y3, vP b15, vI y12.2, .slice g70.a y69.length g70.c, vP b48, .slice g93.a q90.length g93.c]) [] H92 (by decide) (by kernel_rfl) trivial fun _ _ H95 hb => ?_
 replace hS := hS.below hb
 clear H92 hb
 apply wl_end rfl
 replace hS : SH M X w [eO 37 tyValue q90 g93, eO 37 tyValue y69 g70, eB b48 (cV y45.1), eB b15 (cV y12.1), gE1, Ent.tab 0 (Lib.pow10Tab.map fun z => Value.int .u64 z), gE5] _ := hS.sel [0, 4, 5, 6, 7, 8, 9] rfl
 apply w_seq
 apply wl_start
 refine wl_batch 0 3 [] [0, 2, 7, 8, 9, 10, 11, 99, 101] (fS [0, 2, 7, 8, 9, 10, 11, 99, 101] [vI prop, vI at_, vB y3, vP b15, vI y12.2, .slice g70.a y69.length g70.c, vP b48, .slice g93.a q90.length g93.c, vG [vU 13, vN, vI 0, vN, vF, vO]]) [] H95 (by decide) (by kernel_rfl) trivial fun _ _ H97 hb => ?_
 replace hS := hS.below hb
 clear H95 hb
 have hd := hS.hand [] [0, 1, 2, 3, 4, 5, 6] rfl rfl
 refine m_stp [102, 0, 2, 7, 8, 9, 10, 11, 99] (fS [0, 2, 7, 8, 9, 10, 11, 99] [vI prop, vI at_, vB y3, vP b15, vI y12.2, .slice g70.a y69.length g70.c, vP b48, .slice g93.a q90.length g93.c]) H97 rfl rfl rfl rfl (o_lit (T := tyValue) (E := 37) (zv := vG [vU 0, vN, vI 0, vN, vF, vO]) [vU 13, vN, vI 0, vN, vF, vO] ([(TValue.mk (TToken.mk 13 [] 0 [] false) [])] : List TValue) [gL [Gh.nil]] _ H97 hd rfl (by kernel_rfl) (by kernel_rfl) (by kernel_rfl) (by kernel_rfl) (by kernel_rfl) (by kernel_rfl) (by kernel_rfl) rfl (InnL.cons (tyValue_mk SlG.nil) InnL.nil)) (fun _ => rfl) fun _ _ v H101 hq => ?_
 clear H97 hd
 obtain ⟨g98, rfl, hq⟩ := hq
 replace hS : SH M X w [eO 37 tyValue ([(TValue.mk (TToken.mk 13 [] 0 [] false) [])] : List TValue) g98, eO 37 tyValue q90 g93, eO 37 tyValue y69 g70, eB b48 (cV y45.1), eB b15 (cV y12.1), gE1, Ent.tab 0 (Lib.pow10Tab.map fun z => Value.int .u64 z), gE5] _ := hS.join [] [0, 1, 2, 3, 4, 5, 6] rfl rfl hq
 clear hq
 obtain ⟨ho102, hm⟩ := chkE hm
 obtain ⟨q103, hq103, hm⟩ := letE hm
 have hd := hS.hand [1, 0] [2, 3, 4, 5, 6, 7] rfl rfl
 refine m_stp [103, 0, 2, 7, 8, 9, 10, 11] (fS [0, 2, 7, 8, 9, 10, 11] [vI prop, vI at_, vB y3, vP b15, vI y12.2, .slice g70.a y69.length g70.c, vP b48]) H101 rfl rfl rfl rfl (o_app2 (T := tyValue) (zv := vG [vU 0, vN, vI 0, vN, vF, vO]) (g1 := g93) (g2 := g98) (l1 := q90) (l2 := ([(TValue.mk (TToken.mk 13 [] 0 [] false) [])] : List TValue)) q103 hq103.symm H101 hd rfl rfl rfl rfl rfl rfl rfl (by kernel_rfl) (by kernel_rfl) rfl rfl ho102) (fun _ => rfl) fun _ _ v H105 hq => ?_
 clear H101 hd
 obtain ⟨g106, rfl, hq⟩ := hq
 replace hS : SH M X w [eO 37 tyValue q103 g106, eO 37 tyValue ([(TValue.mk (TToken.mk 13 [] 0 [] false) [])] : List TValue) g98, eO 37 tyValue y69 g70, eB b48 (cV y45.1), eB b15 (cV y12.1), gE1, Ent.tab 0 (Lib.pow10Tab.map fun z => Value.int .u64 z), gE5] _ := hS.join [1, 0] [2, 3, 4, 5, 6, 7] rfl rfl hq
 clear hq
 refine wl_batch 5 6 [] [0, 2, 7, 8, 9, 10, 11, 13] (fS [0, 2, 7, 8, 9, 10, 11, 13] [vI prop, vI at_, vB y3, vP b15, vI y12.2, .slice g70.a y69.length g70.c, vP b48, .slice g106.a q103.length g106.c]) [] H105 (by decide) (by kernel_rfl) trivial fun _ _ H108 hb => ?_
 replace hS := hS.below hb
 clear H105 hb
 apply wl_end rfl
 replace hS : SH M X w [eO 37 tyValue q103 g106, eO 37 tyValue y69 g70, eB b48 (cV y45.1), eB b15 (cV y12.1), gE1, Ent.tab 0 (Lib.pow10Tab.map fun z => Value.int .u64 z), gE5] _ := hS.sel [0, 2, 3, 4, 5, 6, 7] rfl
 apply w_seq
 apply wl_start
 refine wl_batch 0 7 [(.slice (g70.s ((0 : Int)).toNat 0).a (((gi y69 (0 : Int)).List_).length) (g70.s ((0 : Int)).toNat 0).c)] [0, 7, 8, 9, 10, 11, 104, 105, 109, 110] (fS [0, 7, 8, 9, 10, 11, 104, 105, 109, 110] [vI prop, vB y3, vP b15, vI y12.2, .slice g70.a y69.length g70.c, vP b48, .slice g70.a y69.length g70.c, .slice g106.a q103.length g106.c, .slice (g70.s ((0 : Int)).toNat 0).a (((gi y69 (0 : Int)).List_).length) (g70.s ((0 : Int)).toNat 0).c, vI at_]) [fun _ => oka g70.a ∧ 0 ≤ (0 : Int) ∧ (0 : Int) < ln y69, fun wz => V.at1 ⟨ab g70.a, ao g70.a + ((0 : Int)).toNat * 6 + 5, none⟩ (.slice (g70.s ((0 : Int)).toNat 0).a (((gi y69 (0 : Int)).List_).length) (g70.s ((0 : Int)).toNat 0).c) wz] H108 (by decide) (by kernel_rfl) ⟨((hS.osl 1 rfl).oki ho78), ((hS.osl 1 rfl).at1 ho78 5 rfl), trivial⟩ fun _ _ H110 hb => ?_
 replace hS := hS.below hb
 clear H108 hb
 replace hS : SH M X w [eI tyValue ((gi y69 (0 : Int)).List_) (g70.s ((0 : Int)).toNat 0), eO 37 tyValue q103 g106, eO 37 tyValue y69 g70, eB b48 (cV y45.1), eB b15 (cV y12.1), gE1, Ent.tab 0 (Lib.pow10Tab.map fun z => Value.int .u64 z), gE5] _ := hS.addIm (tyValue_i0 ((hS.ow 1 rfl).el ho78))
 obtain ⟨ho112, hm⟩ := chkE hm
 obtain ⟨q113, hq113, hm⟩ := letE hm
 have hd := hS.hand [0] [0, 1, 2, 3, 4, 5, 6, 7] rfl rfl
 refine m_stp [111, 0, 7, 8, 9, 10, 11, 104, 105] (fS [0, 7, 8, 9, 10, 11, 104, 105] [vI prop, vB y3, vP b15, vI y12.2, .slice g70.a y69.length g70.c, vP b48, .slice g70.a y69.length g70.c, .slice g106.a q103.length g106.c]) H110 rfl rfl rfl rfl (o_sub (T := tyValue) (E := 37) (g := (g70.s ((0 : Int)).toNat 0)) (q := ((gi y69 (0 : Int)).List_)) at_ (ln ((gi y69 (0 : Int)).List_)) (.some (vI at_)) .none H110 hd (hd.im 0 rfl) rfl rfl rfl rfl rfl rfl (.inr ⟨_, rfl⟩) (.inl ⟨rfl, rfl⟩) (by kernel_rfl) (by kernel_rfl) ho112) (fun _ => rfl) fun _ _ v H115 hq => ?_
 clear H110 hd
 obtain ⟨g116, rfl, hq⟩ := hq
 rw [← hq113] at hq
 rw [← hq113] at H115
 replace hS : SH M X w [eI tyValue q113 g116, eI tyValue ((gi y69 (0 : Int)).List_) (g70.s ((0 : Int)).toNat 0), eI tyValue ((gi y69 (0 : Int)).List_) (g70.s ((0 : Int)).toNat 0), eO 37 tyValue q103 g106, eO 37 tyValue y69 g70, eB b48 (cV y45.1), eB b15 (cV y12.1), gE1, Ent.tab 0 (Lib.pow10Tab.map fun z => Value.int .u64 z), gE5] _ := hS.join [0] [0, 1, 2, 3, 4, 5, 6, 7] rfl rfl hq
 clear hq
 obtain ⟨ho118, hm⟩ := chkE hm
 obtain ⟨q119, hq119, hm⟩ := letE hm
 have hd := hS.hand [3, 0] [0, 1, 2, 4, 5, 6, 7, 8, 9] rfl rfl
 refine m_stp [112, 0, 7, 8, 9, 10, 11, 104] (fS [0, 7, 8, 9, 10, 11, 104] [vI prop, vB y3, vP b15, vI y12.2, .slice g70.a y69.length g70.c, vP b48, .slice g70.a y69.length g70.c]) H115 rfl rfl rfl rfl (o_app (T := tyValue) (zv := vG [vU 0, vN, vI 0, vN, vF, vO]) (g1 := g106) (g2 := g116) (l1 := q103) (l2 := q113) q119 hq119.symm H115 hd rfl rfl rfl rfl rfl rfl rfl (by kernel_rfl) (by kernel_rfl) rfl rfl ho118) (fun _ => rfl) fun _ _ v H121 hq => ?_
 clear H115 hd
 obtain ⟨g122, rfl, hq⟩ := hq
 replace hS : SH M X w [eO 37 tyValue q119 g122, eI tyValue q113 g116, eI tyValue ((gi y69 (0 : Int)).List_) (g70.s ((0 : Int)).toNat 0), eI tyValue ((gi y69 (0 : Int)).List_) (g70.s ((0 : Int)).toNat 0), eO 37 tyValue y69 g70, eB b48 (cV y45.1), eB b15 (cV y12.1), gE1, Ent.tab 0 (Lib.pow10Tab.map fun z => Value.int .u64 z), gE5] _ := hS.join [3, 0] [0, 1, 2, 4, 5, 6, 7, 8, 9] rfl rfl hq
 clear hq
 refine wl_batch 9 11 [] [0, 7, 8, 9, 10, 11, 112, 114] (fS [0, 7, 8, 9, 10, 11, 112, 114] [vI prop, vB y3, vP b15, vI y12.2, .slice g70.a y69.length g70.c, vP b48, .slice g122.a q119.length g122.c, .pointer (some ⟨ab g70.a, ao g70.a + ((0 : Int)).toNat * 6 + 5, none⟩)]) [fun _ => oka g70.a ∧ 0 ≤ (0 : Int) ∧ (0 : Int) < ln y69] H121 (by decide) (by kernel_rfl) ⟨((hS.osl 4 rfl).oki ho78), trivial⟩ fun _ _ H124 hb => ?_
 replace hS := hS.below hb
 clear H121 hb
 replace hS : SH M X w [eI tyValue q119 g122, eI tyValue q113 g116, eI tyValue ((gi y69 (0 : Int)).List_) (g70.s ((0 : Int)).toNat 0), eI tyValue ((gi y69 (0 : Int)).List_) (g70.s ((0 : Int)).toNat 0), eO 37 tyValue y69 g70, eB b48 (cV y45.1), eB b15 (cV y12.1), gE1, Ent.tab 0 (Lib.pow10Tab.map fun z => Value.int .u64 z), gE5] _ := SH.frz1 (hS.sel [0, 1, 2, 3, 4, 5, 6, 7, 8, 9] rfl)
 have hd := hS.hand [4, 0] [0, 1, 2, 3, 5, 6, 7, 8, 9] rfl rfl
 refine m_stp0 [0, 7, 8, 9, 10, 11] (fS [0, 7, 8, 9, 10, 11] [vI prop, vB y3, vP b15, vI y12.2, .slice g70.a y69.length g70.c, vP b48]) H124 rfl rfl rfl (o_estore (T := tyValue) (g := g70) (q := y69) (ix := (0 : Int)) (off := 5) (TValue.mk ((gi y69 (0 : Int)).Token) q119) (gL [g122]) H124 hd rfl rfl rfl rfl (by kernel_rfl) rfl rfl ho78 rfl (tyValue_mk (hd.im 1 rfl)) rfl) rfl fun _ _ H126 hq => ?_
 clear H124 hd
 obtain ⟨_, hq⟩ := hq
 obtain ⟨s127, hq⟩ := hq
 obtain ⟨q128, hq128, hm⟩ := letE hm
 rw [← hq128] at hq
 have hn : y69.length = q128.length := by rw [hq128, setl_len]
 first | rw [hn] at H126 | skip
 first | rw [hn] at hS | skip
 clear hn
 replace hS : SH M X w [eO 37 tyValue q128 (Gh.mk g70.a g70.c s127), eI tyValue q119 g122, eI tyValue q113 g116, eI tyValue ((gi y69 (0 : Int)).List_) (g70.s ((0 : Int)).toNat 0), eI tyValue ((gi y69 (0 : Int)).List_) (g70.s ((0 : Int)).toNat 0), eB b48 (cV y45.1), eB b15 (cV y12.1), gE1, Ent.tab 0 (Lib.pow10Tab.map fun z => Value.int .u64 z), gE5] _ := hS.join [4, 0] [0, 1, 2, 3, 5, 6, 7, 8, 9] rfl rfl hq
 clear hq
 apply wl_end rfl
 replace hS : SH M X w [eO 37 tyValue q128 (Gh.mk g70.a g70.c s127), eB b48 (cV y45.1), eB b15 (cV y12.1), gE1, Ent.tab 0 (Lib.pow10Tab.map fun z => Value.int .u64 z), gE5] _ := hS.sel [0, 5, 6, 7, 8, 9] rfl
 apply w_seq
 apply wl_start
 obtain ⟨y129, hy129, hm⟩ := bindE hm
 refine wl_batch 0 6 [(vW [vG (cV y129.1), vI y129.2])] [7, 8, 9, 11, 119, 120] (fS [7, 8, 9, 11, 119, 120] [vB y3, vP b15, vI y12.2, vP b48, vG (cV y129.1), vI y129.2]) [rB 10 [vI prop, .slice (Gh.mk g70.a g70.c s127).a q128.length (Gh.mk g70.a g70.c s127).c] (vW [vG (cV y129.1), vI y129.2])] H126 (by decide) (by kernel_rfl) ⟨(parseval_Parse_ok (g_l_ := (Gh.mk g70.a g70.c s127)) m _ _ _ hy129 _ (s0im (s0im s0nil (hS.im 3 rfl)) (hS.osl 0 rfl))), trivial⟩ fun _ _ H131 hb => ?_
 replace hS := hS.below hb
 clear H126 hb
 have hd := hS.hand [1] [0, 2, 3, 4, 5] rfl rfl
 refine m_stp0 [7, 8, 9, 11, 120] (fS [7, 8, 9, 11, 120] [vB y3, vP b15, vI y12.2, vP b48, vI y129.2]) H131 rfl rfl rfl (o_store (cV y129.1) H131 hd rfl rfl (by kernel_rfl) rfl rfl rfl) rfl fun _ _ H133 hq => ?_
 clear H131 hd
 obtain ⟨_, hq⟩ := hq
 replace hS : SH M X w [eB b48 (cV y129.1), eO 37 tyValue q128 (Gh.mk g70.a g70.c s127), eB b15 (cV y12.1), gE1, Ent.tab 0 (Lib.pow10Tab.map fun z => Value.int .u64 z), gE5] _ := hS.join [1] [0, 2, 3, 4, 5] rfl rfl hq
 clear hq
 refine wl_batch 7 8 [] [7, 8, 9, 11, 12] (fS [7, 8, 9, 11, 12] [vB y3, vP b15, vI y12.2, vP b48, vI y129.2]) [] H133 (by decide) (by kernel_rfl) trivial fun _ _ H135 hb => ?_
 replace hS := hS.below hb
 clear H133 hb
 apply wl_end rfl
 replace hS : SH M X w [eB b48 (cV y129.1), eB b15 (cV y12.1), gE1, Ent.tab 0 (Lib.pow10Tab.map fun z => Value.int .u64 z), gE5] _ := hS.sel [0, 2, 3, 4, 5] rfl
 obtain ⟨x136, hx136, hm⟩ := letE hm
 refine s_reg [(vG (cV y12.1)), (vG (cV y129.1))] [6] [(6, [], vB (cond x136 (y12.2 == y129.2) false))] [fun wz => (y3 = true ∧ True → V.atN b15 0 (cV y12.1) 0 wz), fun wz => (y3 = true ∧ True → V.atN b48 0 (cV y129.1) 0 wz)] H135 (by subst hx136; kernel_rfl) ⟨fun hg => (hS.bk 1 rfl).atD rfl, fun hg => (hS.bk 0 rfl).atD rfl, trivial⟩ fun _ _ H138 hb => ?_
 replace hS := hS.below hb
 clear H135 hb
 replace hS : SH M X w [gE1, Ent.tab 0 (Lib.pow10Tab.map fun z => Value.int .u64 z), gE5] _ := hS.sel [2, 3, 4] rfl
 apply w_ret
 obtain rfl := someE hm
 exact retR1 H138 rfl rfl ⟨_, rfl, rfl, (hS.sel [] rfl)⟩
theorem law26_ParsevalCase_ok {g_l_ : Gh} (m : Nat) (prop : Int) (l_ : List TValue) (at_ : Int) (r : Bool) (hm : law26_ParsevalCase m prop l_ at_ = some r) (w : World) (hL : S0 F0 [eI tyValue l_ g_l_, gE1, Ent.tab 0 (Lib.pow10Tab.map fun z => Value.int .u64 z), gE5] w ∧ fpl [eI tyValue l_ g_l_, gE1, Ent.tab 0 (Lib.pow10Tab.map fun z => Value.int .u64 z), gE5] = []) : RetB Tryz.prog 3 ⟨[vI prop, vL g_l_ l_, vI at_]⟩ (vB r) w := retB_of hL (Tryz.call3 _) (fun w' h => law26_ParsevalCase_w F0 m   prop l_ at_ r hm w' h)

end Go.Proofs.YtemchjneoalnoaaGreatDoor
