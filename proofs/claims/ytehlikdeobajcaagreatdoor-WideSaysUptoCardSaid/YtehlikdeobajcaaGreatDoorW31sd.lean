/-
  What the Go functions compute, as Lean functions, and that a call returns just that. Printed by a program.
-/
import Derived.Test.YtehlikdeobajcaaGreatDoorRows
import Derived.Test.YtehlikdeobajcaaGreatDoorRF
import Derived.Test.YtehlikdeobajcaaGreatDoorM
import Derived.Test.YtehlikdeobajcaaGreatDoorW31sc
set_option linter.unusedVariables false
set_option maxRecDepth 20000
set_option maxHeartbeats 4000000
namespace Go.Proofs.YtehlikdeobajcaaGreatDoor
open Go.V Go.RowKit

theorem r29_InOrder_w {g_l_ : Gh} (M : Av) (m : Nat) (l_ : List TDeclared) (r : Bool) (hm : r29_InOrder m l_ = some r) (w : World) (hS : S0 M [eI tyDeclared l_ g_l_] w) : Calls Tryz.prog 24 ⟨[vL g_l_ l_]⟩ w (fun e w' => ∃ v, e = .returned v ∧ v = vB r ∧ SH M (fpl [eI tyDeclared l_ g_l_]) w [] w') := by
 rw [r29_InOrder] at hm
 have hS0 : SH M (fpl [eI tyDeclared l_ g_l_]) w [eI tyDeclared l_ g_l_] w := hS
 generalize hX : fpl [eI tyDeclared l_ g_l_] = X at hS0 ⊢
 clear hS hX
 have hS := hS0
 clear hS0
 refine calls_entryP Tryz.func24 rfl Tryz.ntmps24 rfl fun _ H => ?_
 refine s_reg [] [0] [(0, [], vL g_l_ l_)] [] H (by kernel_rfl) trivial fun _ _ H2 hb => ?_
 replace hS := hS.below hb
 clear H hb
 obtain ⟨z3, hz, hm_z3⟩ := bindE hm
 refine w_cut (fun a' w' => ∃ s_z3 : Unit, z3 = Sum.inr s_z3 ∧ Fr 20 [] a' ∧ SH M X w [eI tyDeclared l_ g_l_] w') ?_ ?_
 ·replace hm := hz
  refine s_reg [] [0, 3] [(0, [], vL g_l_ l_), (3, [], vI 1)] [] H2 (by kernel_rfl) trivial fun _ _ H5 hb => ?_
  replace hS := hS.below hb
  clear H2 hb
  refine w_block ?_
  refine w_loop (fun kk a' w' => ∃ (v6 : Int), r29_InOrder_L1 m l_ kk v6 = some _ ∧ Fr 20 [(0, [], vL g_l_ l_), (3, [], vI v6)] a' ∧ SH M X w [eI tyDeclared l_ g_l_] w') ⟨_, 1, hm, FrG.keep (ks := [0, 3]) H5 (by kernel_rfl), hS⟩ ?_
  clear hm H5 hS
  rintro kk _ _ ⟨v6, hm, H, hS⟩
  cases kk with
  | zero => exact noneE hm
  | succ kk =>
   rw [r29_InOrder_L1] at hm
   refine w_seq ?_
   refine s_reg [] [0, 3, 7] [(0, [], vL g_l_ l_), (3, [], vI v6), (7, [], vB (decide (v6 < (ln l_))))] [] H (by kernel_rfl) trivial fun _ _ H8 hb => ?_
   replace hS := hS.below hb
   clear H hb
   refine w_if H8 rfl (fun hc => ?_) (fun hc => ?c19)
   case c19 =>
    replace hm := bF hc hm
    refine w_exit rfl ?_
    obtain rfl := someE hm
    exact ⟨_, rfl, FrG.keep (ks := []) H8 (by kernel_rfl), hS⟩
   replace hm := bT hc hm
   refine w_skip ?_
   refine w_seq ?_
   refine w_block ?_
   obtain ⟨ho9, hm⟩ := chkE hm
   obtain ⟨ho10, hm⟩ := chkE hm
   obtain ⟨y11, hy11, hm⟩ := bindE hm
   refine s_draw [(vG [vS (gi l_ v6).Long.Name, .slice (g_l_.s (v6).toNat 0).a (((gi l_ v6).Long.Value).length) (g_l_.s (v6).toNat 0).c, vS (gi l_ v6).Long.Whole, vB ((gi l_ v6).Important), vU ((gi l_ v6).Origin), vB ((gi l_ v6).Attached), vI ((gi l_ v6).Layer), vI ((gi l_ v6).Weight.e0), vI ((gi l_ v6).Weight.e1), vI ((gi l_ v6).Weight.e2), vI ((gi l_ v6).Order)]), (vG [vS (gi l_ (w64 (v6 - 1))).Long.Name, .slice (g_l_.s ((w64 (v6 - 1))).toNat 0).a (((gi l_ (w64 (v6 - 1))).Long.Value).length) (g_l_.s ((w64 (v6 - 1))).toNat 0).c, vS (gi l_ (w64 (v6 - 1))).Long.Whole, vB ((gi l_ (w64 (v6 - 1))).Important), vU ((gi l_ (w64 (v6 - 1))).Origin), vB ((gi l_ (w64 (v6 - 1))).Attached), vI ((gi l_ (w64 (v6 - 1))).Layer), vI ((gi l_ (w64 (v6 - 1))).Weight.e0), vI ((gi l_ (w64 (v6 - 1))).Weight.e1), vI ((gi l_ (w64 (v6 - 1))).Weight.e2), vI ((gi l_ (w64 (v6 - 1))).Order)]), (vB y11)] [0, 3, 19] [(0, [], vL g_l_ l_), (3, [], vI v6), (19, [], vB y11)] [fun _ => oka g_l_.a ∧ 0 ≤ v6 ∧ v6 < ln l_, fun wz => V.atN (ab g_l_.a) (ao g_l_.a + (v6).toNat * 11) [vS (gi l_ v6).Long.Name, .slice (g_l_.s (v6).toNat 0).a (((gi l_ v6).Long.Value).length) (g_l_.s (v6).toNat 0).c, vS (gi l_ v6).Long.Whole, vB ((gi l_ v6).Important), vU ((gi l_ v6).Origin), vB ((gi l_ v6).Attached), vI ((gi l_ v6).Layer), vI ((gi l_ v6).Weight.e0), vI ((gi l_ v6).Weight.e1), vI ((gi l_ v6).Weight.e2), vI ((gi l_ v6).Order)] 0 wz, fun _ => oka g_l_.a ∧ 0 ≤ (w64 (v6 - 1)) ∧ (w64 (v6 - 1)) < ln l_, fun wz => V.atN (ab g_l_.a) (ao g_l_.a + ((w64 (v6 - 1))).toNat * 11) [vS (gi l_ (w64 (v6 - 1))).Long.Name, .slice (g_l_.s ((w64 (v6 - 1))).toNat 0).a (((gi l_ (w64 (v6 - 1))).Long.Value).length) (g_l_.s ((w64 (v6 - 1))).toNat 0).c, vS (gi l_ (w64 (v6 - 1))).Long.Whole, vB ((gi l_ (w64 (v6 - 1))).Important), vU ((gi l_ (w64 (v6 - 1))).Origin), vB ((gi l_ (w64 (v6 - 1))).Attached), vI ((gi l_ (w64 (v6 - 1))).Layer), vI ((gi l_ (w64 (v6 - 1))).Weight.e0), vI ((gi l_ (w64 (v6 - 1))).Weight.e1), vI ((gi l_ (w64 (v6 - 1))).Weight.e2), vI ((gi l_ (w64 (v6 - 1))).Order)] 0 wz, rB 44 [vG [vS (gi l_ v6).Long.Name, .slice (g_l_.s (v6).toNat 0).a (((gi l_ v6).Long.Value).length) (g_l_.s (v6).toNat 0).c, vS (gi l_ v6).Long.Whole, vB ((gi l_ v6).Important), vU ((gi l_ v6).Origin), vB ((gi l_ v6).Attached), vI ((gi l_ v6).Layer), vI ((gi l_ v6).Weight.e0), vI ((gi l_ v6).Weight.e1), vI ((gi l_ v6).Weight.e2), vI ((gi l_ v6).Order)], vG [vS (gi l_ (w64 (v6 - 1))).Long.Name, .slice (g_l_.s ((w64 (v6 - 1))).toNat 0).a (((gi l_ (w64 (v6 - 1))).Long.Value).length) (g_l_.s ((w64 (v6 - 1))).toNat 0).c, vS (gi l_ (w64 (v6 - 1))).Long.Whole, vB ((gi l_ (w64 (v6 - 1))).Important), vU ((gi l_ (w64 (v6 - 1))).Origin), vB ((gi l_ (w64 (v6 - 1))).Attached), vI ((gi l_ (w64 (v6 - 1))).Layer), vI ((gi l_ (w64 (v6 - 1))).Weight.e0), vI ((gi l_ (w64 (v6 - 1))).Weight.e1), vI ((gi l_ (w64 (v6 - 1))).Weight.e2), vI ((gi l_ (w64 (v6 - 1))).Order)]] (vB y11)] H8 (by kernel_rfl) (by kernel_rfl) (by kernel_rfl) ⟨((hS.im 0 rfl).oki ho9), ((hS.im 0 rfl).atA ho9 0 rfl), ((hS.im 0 rfl).oki ho10), ((hS.im 0 rfl).atA ho10 0 rfl), (r29_Less_ok (g_a__0 := (g_l_.s (v6).toNat 0)) (g_b__0 := (g_l_.s ((w64 (v6 - 1))).toNat 0)) 64 _ _ _ hy11 _ (s0im (s0im s0nil (tyDeclared_i0 ((hS.im 0 rfl).el ho10))) (tyDeclared_i0 ((hS.im 0 rfl).el ho9)))), trivial⟩ fun _ _ H13 hb => ?_
   replace hS := hS.below hb
   clear H8 hb
   refine w_if H13 rfl (fun hc => ?_) (fun hc => ?c18)
   case c18 =>
    replace hm := bF hc hm
    refine w_skip ?_
    refine w_reg [] [0, 3] [(0, [], vL g_l_ l_), (3, [], vI (w64 (v6 + 1)))] [] H13 (by kernel_rfl) trivial fun _ _ H17 hb => ?_
    replace hS := hS.below hb
    clear H13 hb
    exact ⟨_, Nat.lt_succ_self _, w64 (v6 + 1), hm, FrG.keep (ks := [0, 3]) H17 (by kernel_rfl), hS⟩
   replace hm := bT hc hm
   refine s_reg [] [2] [(2, [], vF)] [] H13 (by kernel_rfl) trivial fun _ _ H15 hb => ?_
   replace hS := hS.below hb
   clear H13 hb
   refine w_ret ?_
   obtain rfl := someE hm
   have hm := hm_z3
   obtain rfl := someE hm
   exact retR1 H15 rfl rfl ⟨_, rfl, rfl, (hS.sel [] rfl)⟩
 ·rintro _ _ ⟨s_z3, hz, H, hS⟩
  subst hz
  replace hm := sumR hm_z3
  replace hS : SH M X w [] _ := hS.sel [] rfl
  refine s_reg [] [2] [(2, [], vT)] [] H (by kernel_rfl) trivial fun _ _ H22 hb => ?_
  replace hS := hS.below hb
  clear H hb
  refine w_ret ?_
  obtain rfl := someE hm
  exact retR1 H22 rfl rfl ⟨_, rfl, rfl, (hS.sel [] rfl)⟩
theorem r29_InOrder_ok {g_l_ : Gh} (m : Nat) (l_ : List TDeclared) (r : Bool) (hm : r29_InOrder m l_ = some r) (w : World) (hL : S0 F0 [eI tyDeclared l_ g_l_] w ∧ fpl [eI tyDeclared l_ g_l_] = []) : RetB Tryz.prog 24 ⟨[vL g_l_ l_]⟩ (vB r) w := retB_of hL (Tryz.call24 _) (fun w' h => r29_InOrder_w F0 m   l_ r hm w' h)

theorem r31_Asked_w {g_l_ : Gh} (M : Av) (m : Nat) (l_ : List TDeclared) (r : Int) (hm : r31_Asked m l_ = some r) (w : World) (hS : S0 M [eI tyDeclared l_ g_l_] w) : Calls Tryz.prog 8 ⟨[vL g_l_ l_]⟩ w (fun e w' => ∃ v, e = .returned v ∧ v = vI r ∧ SH M (fpl [eI tyDeclared l_ g_l_]) w [] w') := by
 rw [r31_Asked] at hm
 have hS0 : SH M (fpl [eI tyDeclared l_ g_l_]) w [eI tyDeclared l_ g_l_] w := hS
 generalize hX : fpl [eI tyDeclared l_ g_l_] = X at hS0 ⊢
 clear hS hX
 have hS := hS0
 clear hS0
 refine calls_entryP Tryz.func8 rfl Tryz.ntmps8 rfl fun _ H => ?_
 refine s_reg [] [0] [(0, [], vL g_l_ l_)] [] H (by kernel_rfl) trivial fun _ _ H2 hb => ?_
 replace hS := hS.below hb
 clear H hb
 refine w_seq ?_
 obtain ⟨y3, hy3, hm⟩ := bindE hm
 refine s_reg [(vI y3)] [0, 3] [(0, [], vL g_l_ l_), (3, [], vI y3)] [rB 23 [vL g_l_ l_] (vI y3)] H2 (by kernel_rfl) ⟨(r29_All_ok (g_l_ := g_l_) m _ _ hy3 _ (s0im s0nil (hS.im 0 rfl))), trivial⟩ fun _ _ H5 hb => ?_
 replace hS := hS.below hb
 clear H2 hb
 refine s_reg [] [0, 3, 7] [(0, [], vL g_l_ l_), (3, [], vI y3), (7, [], vB (y3 != 0))] [] H5 (by kernel_rfl) trivial fun _ _ H7 hb => ?_
 replace hS := hS.below hb
 clear H5 hb
 refine w_if H7 rfl (fun hc => ?c18) (fun hc => ?_)
 case c18 =>
  replace hm := bT hc hm
  refine s_reg [] [2] [(2, [], vI y3)] [] H7 (by kernel_rfl) trivial fun _ _ H9 hb => ?_
  replace hS := hS.below hb
  clear H7 hb
  replace hS : SH M X w [] _ := hS.sel [] rfl
  refine w_ret ?_
  obtain rfl := someE hm
  exact retR1 H9 rfl rfl ⟨_, rfl, rfl, (hS.sel [] rfl)⟩
 replace hm := bF hc hm
 refine w_skip ?_
 refine w_seq ?_
 obtain ⟨y10, hy10, hm⟩ := bindE hm
 refine s_reg [(vB y10)] [11] [(11, [], vB (!y10))] [rB 24 [vL g_l_ l_] (vB y10)] H7 (by kernel_rfl) ⟨(r29_InOrder_ok (g_l_ := g_l_) m _ _ hy10 _ (s0im s0nil (hS.im 0 rfl))), trivial⟩ fun _ _ H12 hb => ?_
 replace hS := hS.below hb
 clear H7 hb
 replace hS : SH M X w [] _ := hS.sel [] rfl
 refine w_if H12 rfl (fun hc => ?c17) (fun hc => ?_)
 case c17 =>
  replace hm := bT hc hm
  refine s_reg [] [2] [(2, [], vI 2)] [] H12 (by kernel_rfl) trivial fun _ _ H14 hb => ?_
  replace hS := hS.below hb
  clear H12 hb
  refine w_ret ?_
  obtain rfl := someE hm
  exact retR1 H14 rfl rfl ⟨_, rfl, rfl, (hS.sel [] rfl)⟩
 replace hm := bF hc hm
 refine w_skip ?_
 refine s_reg [] [2] [(2, [], vI 0)] [] H12 (by kernel_rfl) trivial fun _ _ H16 hb => ?_
 replace hS := hS.below hb
 clear H12 hb
 refine w_ret ?_
 obtain rfl := someE hm
 exact retR1 H16 rfl rfl ⟨_, rfl, rfl, (hS.sel [] rfl)⟩
theorem r31_Asked_ok {g_l_ : Gh} (m : Nat) (l_ : List TDeclared) (r : Int) (hm : r31_Asked m l_ = some r) (w : World) (hL : S0 F0 [eI tyDeclared l_ g_l_] w ∧ fpl [eI tyDeclared l_ g_l_] = []) : RetB Tryz.prog 8 ⟨[vL g_l_ l_]⟩ (vI r) w := retB_of hL (Tryz.call8 _) (fun w' h => r31_Asked_w F0 m   l_ r hm w' h)

theorem law31_word_w  (M : Av) (m : Nat) (name_ : Str) (r : Str) (hm : law31_word m name_ = some r) (w : World) (hS : S0 M [] w) : Calls Tryz.prog 11 ⟨[vS name_]⟩ w (fun e w' => ∃ v, e = .returned v ∧ v = vS r ∧ SH M (fpl []) w [] w') := by
 rw [law31_word] at hm
 have hS0 : SH M (fpl []) w [] w := hS
 generalize hX : fpl [] = X at hS0 ⊢
 clear hS hX
 have hS := hS0
 clear hS0
 refine calls_entryP Tryz.func11 rfl Tryz.ntmps11 rfl fun _ H => ?_
 refine s_reg [] [0] [(0, [], vS name_)] [] H (by kernel_rfl) trivial fun _ _ H2 hb => ?_
 replace hS := hS.below hb
 clear H hb
 obtain ⟨y3, hy3, hm⟩ := bindE hm
 refine s_reg [(vW [vB y3.1, vI y3.2])] [3] [(3, [], vB y3.1)] [rB 28 [vS name_] (vW [vB y3.1, vI y3.2])] H2 (by kernel_rfl) ⟨((r25_Inherited_ok 64 _ _ hy3).b), trivial⟩ fun _ _ H5 hb => ?_
 replace hS := hS.below hb
 clear H2 hb
 refine w_seq ?_
 refine s_reg [] [10] [(10, [], vB y3.1)] [] H5 (by kernel_rfl) trivial fun _ _ H7 hb => ?_
 replace hS := hS.below hb
 clear H5 hb
 refine w_if H7 rfl (fun hc => ?c12) (fun hc => ?_)
 case c12 =>
  replace hm := bT hc hm
  refine s_reg [] [2] [(2, [], vS [105, 110, 104, 101, 114, 105, 116])] [] H7 (by kernel_rfl) trivial fun _ _ H9 hb => ?_
  replace hS := hS.below hb
  clear H7 hb
  refine w_ret ?_
  obtain rfl := someE hm
  exact retR1 H9 rfl rfl ⟨_, rfl, rfl, (hS.sel [] rfl)⟩
 replace hm := bF hc hm
 refine w_skip ?_
 refine s_reg [] [2] [(2, [], vS [105, 110, 105, 116, 105, 97, 108])] [] H7 (by kernel_rfl) trivial fun _ _ H11 hb => ?_
 replace hS := hS.below hb
 clear H7 hb
 refine w_ret ?_
 obtain rfl := someE hm
 exact retR1 H11 rfl rfl ⟨_, rfl, rfl, (hS.sel [] rfl)⟩
theorem law31_word_ok  (m : Nat) (name_ : Str) (r : Str) (hm : law31_word m name_ = some r) : Ret Tryz.prog 11 ⟨[vS name_]⟩ (vS r) := retP_of (Tryz.call11 _) (fun w h => law31_word_w F0 m   name_ r hm w h)

theorem wide_mean_3_w {g_l_ : Gh} (M : Av) (m : Nat) (l_ : List TDeclared) (at_ : Int) (word : Str) (r : Int × Str) (hm : wide_mean_3 m l_ at_ word = some r) (w : World) (hS : S0 M [eI tyDeclared l_ g_l_, gE0] w) : Calls Tryz.prog 31 ⟨[vL g_l_ l_, vI at_, vS word]⟩ w (fun e w' => ∃ v, e = .returned v ∧ v = vW [vI r.1, vS r.2] ∧ SH M (fpl [eI tyDeclared l_ g_l_, gE0]) w [] w') := by
 rw [wide_mean_3] at hm
 have hS0 : SH M (fpl [eI tyDeclared l_ g_l_, gE0]) w [eI tyDeclared l_ g_l_, gE0] w := hS
 generalize hX : fpl [eI tyDeclared l_ g_l_, gE0] = X at hS0 ⊢
 clear hS hX
 have hS := hS0
 clear hS0
 refine calls_entryP Tryz.func31 rfl Tryz.ntmps31 rfl fun _ H => ?_
 refine s_reg [] [0, 1, 2] [(0, [], vL g_l_ l_), (1, [], vI at_), (2, [], vS word)] [] H (by kernel_rfl) trivial fun _ _ H2 hb => ?_
 replace hS := hS.below hb
 clear H hb
 obtain ⟨ho3, hm⟩ := chkE hm
 refine s_reg [(vS (gi l_ at_).Long.Name)] [0, 1, 2, 8] [(0, [], vL g_l_ l_), (1, [], vI at_), (2, [], vS word), (8, [], vS (gi l_ at_).Long.Name)] [fun _ => oka g_l_.a ∧ 0 ≤ at_ ∧ at_ < ln l_, fun wz => V.at1 ⟨ab g_l_.a, ao g_l_.a + (at_).toNat * 11, none⟩ (vS (gi l_ at_).Long.Name) wz] H2 (by kernel_rfl) ⟨((hS.im 0 rfl).oki ho3), ((hS.im 0 rfl).at1 ho3 0 rfl), trivial⟩ fun _ _ H5 hb => ?_
 replace hS := hS.below hb
 clear H2 hb
 refine w_seq ?_
 refine s_reg [] [0, 1, 2, 8, 15] [(0, [], vL g_l_ l_), (1, [], vI at_), (2, [], vS word), (8, [], vS (gi l_ at_).Long.Name), (15, [], vS word)] [] H5 (by kernel_rfl) trivial fun _ _ H7 hb => ?_
 replace hS := hS.below hb
 clear H5 hb
 refine w_block ?_
 refine s_reg [] [0, 1, 2, 8, 15, 16] [(0, [], vL g_l_ l_), (1, [], vI at_), (2, [], vS word), (8, [], vS (gi l_ at_).Long.Name), (15, [], vS word), (16, [], vB (word == [114, 101, 118, 101, 114, 116]))] [] H7 (by kernel_rfl) trivial fun _ _ H9 hb => ?_
 replace hS := hS.below hb
 clear H7 hb
 refine w_if H9 rfl (fun hc => ?c21) (fun hc => ?_)
 case c21 =>
  replace hm := bT hc hm
  obtain ⟨y10, hy10, hm⟩ := bindE hm
  refine s_reg [(vU ((gi l_ at_).Origin)), (vW [vI y10.1, vS y10.2])] [6, 7] [(6, [], vI y10.1), (7, [], vS y10.2)] [fun _ => oka g_l_.a ∧ 0 ≤ at_ ∧ at_ < ln l_, fun wz => V.at1 ⟨ab g_l_.a, ao g_l_.a + (at_).toNat * 11 + 4, none⟩ (vU ((gi l_ at_).Origin)) wz, rB 26 [vL g_l_ l_, vU ((gi l_ at_).Origin), vS (gi l_ at_).Long.Name] (vW [vI y10.1, vS y10.2])] H9 (by kernel_rfl) ⟨((hS.im 0 rfl).oki ho3), ((hS.im 0 rfl).at1 ho3 4 rfl), (wide_decide_ok (g_l_ := g_l_) m _ _ _ _ hy10 _ (s0im (s0im s0nil (hS.im 1 rfl)) (hS.im 0 rfl))), trivial⟩ fun _ _ H12 hb => ?_
  replace hS := hS.below hb
  clear H9 hb
  replace hS : SH M X w [gE0] _ := hS.sel [1] rfl
  refine w_ret ?_
  obtain rfl := someE hm
  exact retR2 H12 rfl rfl rfl ⟨_, rfl, rfl, (hS.sel [] rfl)⟩
 replace hm := bF hc hm
 refine s_reg [] [2, 8, 28] [(2, [], vS word), (8, [], vS (gi l_ at_).Long.Name), (28, [], vB (word == [117, 110, 115, 101, 116]))] [] H9 (by kernel_rfl) trivial fun _ _ H14 hb => ?_
 replace hS := hS.below hb
 clear H9 hb
 replace hS : SH M X w [gE0] _ := hS.sel [1] rfl
 refine w_if H14 rfl (fun hc => ?_) (fun hc => ?c20)
 case c20 =>
  replace hm := bF hc hm
  refine w_skip ?_
  refine s_reg [] [6, 7] [(6, [], vI (-1)), (7, [], vS word)] [] H14 (by kernel_rfl) trivial fun _ _ H19 hb => ?_
  replace hS := hS.below hb
  clear H14 hb
  refine w_ret ?_
  obtain rfl := someE hm
  exact retR2 H19 rfl rfl rfl ⟨_, rfl, rfl, (hS.sel [] rfl)⟩
 replace hm := bT hc hm
 obtain ⟨y15, hy15, hm⟩ := bindE hm
 refine s_reg [(vS y15)] [6, 7] [(6, [], vI (-1)), (7, [], vS y15)] [rB 48 [vS (gi l_ at_).Long.Name] (vS y15)] H14 (by kernel_rfl) ⟨(wide_unset_ok m _ _ hy15 _ (s0im s0nil (hS.im 0 rfl))), trivial⟩ fun _ _ H17 hb => ?_
 replace hS := hS.below hb
 clear H14 hb
 refine w_ret ?_
 obtain rfl := someE hm
 exact retR2 H17 rfl rfl rfl ⟨_, rfl, rfl, (hS.sel [] rfl)⟩
theorem wide_mean_3_ok {g_l_ : Gh} (m : Nat) (l_ : List TDeclared) (at_ : Int) (word : Str) (r : Int × Str) (hm : wide_mean_3 m l_ at_ word = some r) (w : World) (hL : S0 F0 [eI tyDeclared l_ g_l_, gE0] w ∧ fpl [eI tyDeclared l_ g_l_, gE0] = []) : RetB Tryz.prog 31 ⟨[vL g_l_ l_, vI at_, vS word]⟩ (vW [vI r.1, vS r.2]) w := retB_of hL (Tryz.call31 _) (fun w' h => wide_mean_3_w F0 m   l_ at_ word r hm w' h)

theorem wide_Mean_w {g_l_ : Gh} (M : Av) (m : Nat) (l_ : List TDeclared) (at_ : Int) (word : Str) (r : Int × Str × Int) (hm : wide_Mean m l_ at_ word = some r) (w : World) (hS : S0 M [eI tyDeclared l_ g_l_, gE0] w) : Calls Tryz.prog 13 ⟨[vL g_l_ l_, vI at_, vS word]⟩ w (fun e w' => ∃ v, e = .returned v ∧ v = vW [vI r.1, vS r.2.1, vI r.2.2] ∧ SH M (fpl [eI tyDeclared l_ g_l_, gE0]) w [] w') := by
 rw [wide_Mean] at hm
 have hS0 : SH M (fpl [eI tyDeclared l_ g_l_, gE0]) w [eI tyDeclared l_ g_l_, gE0] w := hS
 generalize hX : fpl [eI tyDeclared l_ g_l_, gE0] = X at hS0 ⊢
 clear hS hX
 have hS := hS0
 clear hS0
 refine calls_entryP Tryz.func13 rfl Tryz.ntmps13 rfl fun _ H => ?_
 refine s_reg [] [0, 1, 2] [(0, [], vL g_l_ l_), (1, [], vI at_), (2, [], vS word)] [] H (by kernel_rfl) trivial fun _ _ H2 hb => ?_
 replace hS := hS.below hb
 clear H hb
 refine w_seq ?_
 obtain ⟨y3, hy3, hm⟩ := bindE hm
 refine s_reg [(vI y3)] [0, 1, 2, 9] [(0, [], vL g_l_ l_), (1, [], vI at_), (2, [], vS word), (9, [], vI y3)] [rB 25 [vL g_l_ l_] (vI y3)] H2 (by kernel_rfl) ⟨(wide_asked_ok (g_l_ := g_l_) m _ _ hy3 _ (s0im (s0im s0nil (hS.im 1 rfl)) (hS.im 0 rfl))), trivial⟩ fun _ _ H5 hb => ?_
 replace hS := hS.below hb
 clear H2 hb
 refine s_reg [] [0, 1, 2, 9, 15] [(0, [], vL g_l_ l_), (1, [], vI at_), (2, [], vS word), (9, [], vI y3), (15, [], vB (y3 != 0))] [] H5 (by kernel_rfl) trivial fun _ _ H7 hb => ?_
 replace hS := hS.below hb
 clear H5 hb
 refine w_if H7 rfl (fun hc => ?c37) (fun hc => ?_)
 case c37 =>
  replace hm := bT hc hm
  refine s_reg [] [6, 7, 8] [(6, [], vI 0), (7, [], vN), (8, [], vI y3)] [] H7 (by kernel_rfl) trivial fun _ _ H9 hb => ?_
  replace hS := hS.below hb
  clear H7 hb
  replace hS : SH M X w [gE0] _ := hS.sel [1] rfl
  refine w_ret ?_
  obtain rfl := someE hm
  exact retR3 H9 rfl rfl rfl rfl ⟨_, rfl, rfl, (hS.sel [] rfl)⟩
 replace hm := bF hc hm
 refine w_skip ?_
 refine w_seq ?_
 obtain ⟨z10, hz, hm⟩ := bindE hm
 refine w_cut (fun a' w' => Fr 40 [(0, [], vL g_l_ l_), (1, [], vI at_), (2, [], vS word), (30, [], vB z10)] a' ∧ SH M X w [eI tyDeclared l_ g_l_, gE0] w') ?_ ?_
 ·replace hm := hz
  refine wl_start ?_
  obtain ⟨x11, hx11, hm⟩ := letE hm
  obtain ⟨x12, hx12, hm⟩ := letE hm
  refine wl_batch 0 9 [] [0, 1, 2, 25] [(0, [], vL g_l_ l_), (1, [], vI at_), (2, [], vS word), (25, [], vB x12)] [] H7 (by decide) (by subst hx11 hx12; kernel_rfl) trivial fun _ _ H14 hb => ?_
  replace hS := hS.below hb
  clear H7 hb
  cases x12
  case false =>
   replace hm := bF rfl hm
   have hd := hS.hand [] [0, 1] rfl rfl
   refine m_stpG 25 [26, 0, 1, 2, 25] [(0, [], vL g_l_ l_), (1, [], vI at_), (2, [], vS word), (25, [], vF)] H14 rfl rfl rfl rfl (o_lit (T := tS) (E := 9) (zv := vN) [vS [105, 110, 105, 116, 105, 97, 108], vS [105, 110, 104, 101, 114, 105, 116], vS [117, 110, 115, 101, 116], vS [114, 101, 118, 101, 114, 116]] ([[105, 110, 105, 116, 105, 97, 108], [105, 110, 104, 101, 114, 105, 116], [117, 110, 115, 101, 116], [114, 101, 118, 101, 114, 116]] : List Str) [gL [], gL [], gL [], gL []] _ H14 hd rfl (by kernel_rfl) (by kernel_rfl) (by kernel_rfl) (by kernel_rfl) (by kernel_rfl) (by kernel_rfl) (by kernel_rfl) rfl (InnL.cons trivial (InnL.cons trivial (InnL.cons trivial (InnL.cons trivial InnL.nil))))) (fun _ => rfl) fun _ _ v H24 hq => ?_
   clear H14 hd
   obtain ⟨g21, rfl, hq⟩ := hq
   replace hS : SH M X w [eO 9 tS ([[105, 110, 105, 116, 105, 97, 108], [105, 110, 104, 101, 114, 105, 116], [117, 110, 115, 101, 116], [114, 101, 118, 101, 114, 116]] : List Str) g21, eI tyDeclared l_ g_l_, gE0] _ := hS.join [] [0, 1] rfl rfl hq
   clear hq
   obtain ⟨y25, hy25, hm⟩ := bindE hm
   refine wl_batch 10 14 [(vB y25)] [0, 1, 2, 30] [(0, [], vL g_l_ l_), (1, [], vI at_), (2, [], vS word), (30, [], vB (!y25))] [fun wz => (false = false ∧ True → RetB Tryz.prog 30 ⟨[.slice g21.a 4 g21.c, vS word]⟩ (vB y25) wz)] H24 (by decide) (by kernel_rfl) ⟨fun hg => slices_Contains_string_string_ok (g_s := g21) 64 _ _ _ hy25 _ (s0im s0nil (hS.osl 0 rfl)), trivial⟩ fun _ _ H27 hb => ?_
   replace hS := hS.below hb
   clear H24 hb
   refine wl_end rfl ?_
   replace hS : SH M X w [eI tyDeclared l_ g_l_, gE0] _ := hS.sel [1, 2] rfl
   obtain rfl := someE hm
   exact ⟨FrG.keep (ks := [0, 1, 2, 30]) H27 (by kernel_rfl), hS⟩
  replace hm := bT rfl hm
  refine m_skipG 25 [26, 0, 1, 2, 25] [(26, [], undef), (0, [], vL g_l_ l_), (1, [], vI at_), (2, [], vS word), (25, [], vT)] H14 rfl rfl rfl rfl rfl rfl fun _ H15 => ?_
  clear H14
  refine m_skipG 25 [27, 0, 1, 2, 25, 26] [(27, [], undef), (0, [], vL g_l_ l_), (1, [], vI at_), (2, [], vS word), (25, [], vT), (26, [], undef)] H15 rfl rfl rfl rfl rfl rfl fun _ H16 => ?_
  clear H15
  refine m_skipG 25 [28, 0, 1, 2, 25] [(28, [], undef), (0, [], vL g_l_ l_), (1, [], vI at_), (2, [], vS word), (25, [], vT)] H16 rfl rfl rfl rfl rfl rfl fun _ H17 => ?_
  clear H16
  refine m_skipG 25 [29, 0, 1, 2, 25] [(29, [], undef), (0, [], vL g_l_ l_), (1, [], vI at_), (2, [], vS word), (25, [], vT)] H17 rfl rfl rfl rfl rfl rfl fun _ H18 => ?_
  clear H17
  refine wl_batch 13 14 [] [0, 1, 2, 30] [(0, [], vL g_l_ l_), (1, [], vI at_), (2, [], vS word), (30, [], vT)] [] H18 (by decide) (by kernel_rfl) trivial fun _ _ H20 hb => ?_
  replace hS := hS.below hb
  clear H18 hb
  refine wl_end rfl ?_
  obtain rfl := someE hm
  exact ⟨FrG.keep (ks := [0, 1, 2, 30]) H20 (by kernel_rfl), hS⟩
 ·rintro _ _ ⟨H, hS⟩
  refine w_if H rfl (fun hc => ?c35) (fun hc => ?_)
  case c35 =>
   replace hm := bT hc hm
   refine s_reg [] [6, 7, 8] [(6, [], vI 0), (7, [], vN), (8, [], vI 2)] [] H (by kernel_rfl) trivial fun _ _ H29 hb => ?_
   replace hS := hS.below hb
   clear H hb
   replace hS : SH M X w [gE0] _ := hS.sel [1] rfl
   refine w_ret ?_
   obtain rfl := someE hm
   exact retR3 H29 rfl rfl rfl rfl ⟨_, rfl, rfl, (hS.sel [] rfl)⟩
  replace hm := bF hc hm
  refine w_skip ?_
  obtain ⟨y30, hy30, hm⟩ := bindE hm
  refine s_reg [(vW [vI y30.1, vS y30.2])] [10, 11] [(10, [], vI y30.1), (11, [], vS y30.2)] [rB 31 [vL g_l_ l_, vI at_, vS word] (vW [vI y30.1, vS y30.2])] H (by kernel_rfl) ⟨(wide_mean_3_ok (g_l_ := g_l_) m _ _ _ _ hy30 _ (s0im (s0im s0nil (hS.im 1 rfl)) (hS.im 0 rfl))), trivial⟩ fun _ _ H32 hb => ?_
  replace hS := hS.below hb
  clear H hb
  replace hS : SH M X w [gE0] _ := hS.sel [1] rfl
  refine s_reg [] [6, 7, 8] [(6, [], vI y30.1), (7, [], vS y30.2), (8, [], vI 0)] [] H32 (by kernel_rfl) trivial fun _ _ H34 hb => ?_
  replace hS := hS.below hb
  clear H32 hb
  refine w_ret ?_
  obtain rfl := someE hm
  exact retR3 H34 rfl rfl rfl rfl ⟨_, rfl, rfl, (hS.sel [] rfl)⟩
theorem wide_Mean_ok {g_l_ : Gh} (m : Nat) (l_ : List TDeclared) (at_ : Int) (word : Str) (r : Int × Str × Int) (hm : wide_Mean m l_ at_ word = some r) (w : World) (hL : S0 F0 [eI tyDeclared l_ g_l_, gE0] w ∧ fpl [eI tyDeclared l_ g_l_, gE0] = []) : RetB Tryz.prog 13 ⟨[vL g_l_ l_, vI at_, vS word]⟩ (vW [vI r.1, vS r.2.1, vI r.2.2]) w := retB_of hL (Tryz.call13 _) (fun w' h => wide_Mean_w F0 m   l_ at_ word r hm w' h)

def wide_clone_S (rec_ : (List TValue) → Option (List TValue)) : Prop := ∀ (g_l_ : Gh) (M : Av) (l_ : List TValue) (r : List TValue), rec_ l_ = some r → ∀ w, S0 M [eI tyValue l_ g_l_] w → Calls Tryz.prog 32 ⟨[vL g_l_ l_]⟩ w (fun e w' => ∃ v, e = .returned v ∧ ∃ (g901 : Gh), v = vL g901 r ∧ SH M (fpl [eI tyValue l_ g_l_]) w [eO 63 tyValue r g901] w')
theorem wide_clone_w (m : Nat) : ∀ (k : Nat), wide_clone_S (wide_clone_r m  k) := by
 intro k
 induction k with
 | zero => intro g_l_ M l_ r hm; exact noneE hm
 | succ k ih =>
  intro g_l_ M l_ r hm w hS
  rw [wide_clone_r] at hm
  have hS0 : SH M (fpl [eI tyValue l_ g_l_]) w [eI tyValue l_ g_l_] w := hS
  generalize hX : fpl [eI tyValue l_ g_l_] = X at hS0 ⊢
  clear hS hX
  have hS := hS0
  clear hS0
  refine calls_entryP Tryz.func32 rfl Tryz.ntmps32 rfl fun _ H => ?_
  refine s_reg [] [0] [(0, [], vL g_l_ l_)] [] H (by kernel_rfl) trivial fun _ _ H2 hb => ?_
  replace hS := hS.below hb
  clear H hb
  refine s_reg [] [0, 3] [(0, [], vL g_l_ l_), (3, [], vO)] [] H2 (by kernel_rfl) trivial fun _ _ H4 hb => ?_
  replace hS := hS.below hb
  clear H2 hb
  obtain ⟨z5, hz, hm⟩ := bindE hm
  refine w_cut (fun a' w' => ∃ (g42 : Gh), Fr 23 [(3, [], vL g42 z5)] a' ∧ SH M X w [eO 63 tyValue z5 g42, eI tyValue l_ g_l_] w') ?_ ?_
  ·replace hm := hz
   refine s_reg [] [3, 6, 7, 8] [(3, [], vO), (6, [], vL g_l_ l_), (7, [], vI (ln l_)), (8, [], vI 0)] [] H4 (by kernel_rfl) trivial fun _ _ H7 hb => ?_
   replace hS := hS.below hb
   clear H4 hb
   refine w_block ?_
   replace hS : SH M X w [eO 63 tyValue ([] : List TValue) (.nil), eI tyValue l_ g_l_] _ := hS.addNil 63 tyValue
   refine w_loop (fun kk a' w' => ∃ (v9 : List TValue) (v11 : Int) (g10 : Gh), wide_clone_L1 m l_ (wide_clone_r m k) kk v9 v11 = some _ ∧ Fr 23 [(6, [], vL g_l_ l_), (7, [], vI (ln l_)), (3, [], vL g10 v9), (8, [], vI v11)] a' ∧ SH M X w [eO 63 tyValue v9 g10, eI tyValue l_ g_l_] w') ⟨_, ([] : List TValue), 0, Gh.nil, hm, FrG.keep (ks := [6, 7, 3, 8]) H7 (by kernel_rfl), hS⟩ ?_
   clear hm H7 hS
   rintro kk _ _ ⟨v9, v11, g10, hm, H, hS⟩
   cases kk with
   | zero => exact noneE hm
   | succ kk =>
    rw [wide_clone_L1] at hm
    refine s_reg [] [3, 6, 7, 8, 9] [(3, [], vL g10 v9), (6, [], vL g_l_ l_), (7, [], vI (ln l_)), (8, [], vI v11), (9, [], vB (decide (v11 < (ln l_))))] [] H (by kernel_rfl) trivial fun _ _ H13 hb => ?_
    replace hS := hS.below hb
    clear H hb
    refine w_seq ?_
    refine w_if H13 rfl (fun hc => ?_) (fun hc => ?c40)
    case c40 =>
     replace hm := bF hc hm
     refine w_exit rfl ?_
     obtain rfl := someE hm
     exact ⟨g10, FrG.keep (ks := [3]) H13 (by kernel_rfl), hS⟩
    replace hm := bT hc hm
    refine w_skip ?_
    refine w_seq ?_
    refine w_block ?_
    refine w_seq ?_
    refine wl_start ?_
    obtain ⟨ho14, hm⟩ := chkE hm
    refine wl_batch 0 2 [(vG [vU ((gi l_ v11).Token.Kind), vS (gi l_ v11).Token.Text, vI ((gi l_ v11).Token.Num), vS (gi l_ v11).Token.Unit, vB ((gi l_ v11).Token.Flag), .slice (g_l_.s (v11).toNat 0).a (((gi l_ v11).List_).length) (g_l_.s (v11).toNat 0).c])] [3, 6, 7, 8, 11] [(3, [], vL g10 v9), (6, [], vL g_l_ l_), (7, [], vI (ln l_)), (8, [], vI v11), (11, [], vG [vU ((gi l_ v11).Token.Kind), vS (gi l_ v11).Token.Text, vI ((gi l_ v11).Token.Num), vS (gi l_ v11).Token.Unit, vB ((gi l_ v11).Token.Flag), .slice (g_l_.s (v11).toNat 0).a (((gi l_ v11).List_).length) (g_l_.s (v11).toNat 0).c])] [fun _ => oka g_l_.a ∧ 0 ≤ v11 ∧ v11 < ln l_, fun wz => V.atN (ab g_l_.a) (ao g_l_.a + (v11).toNat * 6) [vU ((gi l_ v11).Token.Kind), vS (gi l_ v11).Token.Text, vI ((gi l_ v11).Token.Num), vS (gi l_ v11).Token.Unit, vB ((gi l_ v11).Token.Flag), .slice (g_l_.s (v11).toNat 0).a (((gi l_ v11).List_).length) (g_l_.s (v11).toNat 0).c] 0 wz] H13 (by decide) (by kernel_rfl) ⟨((hS.im 1 rfl).oki ho14), ((hS.im 1 rfl).atA ho14 0 rfl), trivial⟩ fun _ _ H16 hb => ?_
    replace hS := hS.below hb
    clear H13 hb
    have hd := hS.hand [] [0, 1] rfl rfl
    refine m_stp [5, 3, 6, 7, 8, 11] [(3, [], vL g10 v9), (6, [], vL g_l_ l_), (7, [], vI (ln l_)), (8, [], vI v11), (11, [], vG [vU ((gi l_ v11).Token.Kind), vS (gi l_ v11).Token.Text, vI ((gi l_ v11).Token.Num), vS (gi l_ v11).Token.Unit, vB ((gi l_ v11).Token.Flag), .slice (g_l_.s (v11).toNat 0).a (((gi l_ v11).List_).length) (g_l_.s (v11).toNat 0).c])] H16 rfl rfl rfl rfl (o_alloc [vU 0, vN, vI 0, vN, vF, vO] (z := vG [vU 0, vN, vI 0, vN, vF, vO]) hd (by kernel_rfl) rfl) (fun _ => rfl) fun _ _ v H19 hq => ?_
    clear H16 hd
    obtain ⟨b17, rfl, hq⟩ := hq
    replace hS : SH M X w [eB b17 [vU 0, vN, vI 0, vN, vF, vO], eO 63 tyValue v9 g10, eI tyValue l_ g_l_] _ := hS.join [] [0, 1] rfl rfl hq
    clear hq
    have hd := hS.hand [0] [1, 2] rfl rfl
    refine m_stp0 [3, 5, 6, 7, 8] [(3, [], vL g10 v9), (5, [], vP b17), (6, [], vL g_l_ l_), (7, [], vI (ln l_)), (8, [], vI v11)] H19 rfl rfl rfl (o_store [vU ((gi l_ v11).Token.Kind), vS (gi l_ v11).Token.Text, vI ((gi l_ v11).Token.Num), vS (gi l_ v11).Token.Unit, vB ((gi l_ v11).Token.Flag), .slice (g_l_.s (v11).toNat 0).a (((gi l_ v11).List_).length) (g_l_.s (v11).toNat 0).c] H19 hd rfl rfl (by kernel_rfl) rfl rfl rfl) rfl fun _ _ H21 hq => ?_
    clear H19 hd
    obtain ⟨_, hq⟩ := hq
    replace hS : SH M X w [eB b17 [vU ((gi l_ v11).Token.Kind), vS (gi l_ v11).Token.Text, vI ((gi l_ v11).Token.Num), vS (gi l_ v11).Token.Unit, vB ((gi l_ v11).Token.Flag), .slice (g_l_.s (v11).toNat 0).a (((gi l_ v11).List_).length) (g_l_.s (v11).toNat 0).c], eO 63 tyValue v9 g10, eI tyValue l_ g_l_] _ := hS.join [0] [1, 2] rfl rfl hq
    clear hq
    refine wl_end rfl ?_
    obtain ⟨y24, hy24, hm⟩ := bindE hm
    obtain ⟨ho29, hm⟩ := chkE hm
    obtain ⟨q30, hq30, hm⟩ := letE hm
    refine w_drawS (base := [(5, [], vP b17), (6, [], vL g_l_ l_), (7, [], vI (ln l_)), (8, [], vI v11)]) (L := [eB b17 [vU ((gi l_ v11).Token.Kind), vS (gi l_ v11).Token.Text, vI ((gi l_ v11).Token.Num), vS (gi l_ v11).Token.Unit, vB ((gi l_ v11).Token.Flag), .slice (g_l_.s (v11).toNat 0).a (((gi l_ v11).List_).length) (g_l_.s (v11).toNat 0).c], eO 63 tyValue v9 g10, eI tyValue l_ g_l_]) 10 3 (fun yg22 => [vL g10 v9, vP b17, vG [vU ((gi l_ v11).Token.Kind), vS (gi l_ v11).Token.Text, vI ((gi l_ v11).Token.Num), vS (gi l_ v11).Token.Unit, vB ((gi l_ v11).Token.Flag)], vA b17 5, .slice (g_l_.s (v11).toNat 0).a (((gi l_ v11).List_).length) (g_l_.s (v11).toNat 0).c, .slice (yg22 5 0).a y24.length (yg22 5 0).c, vG [vU ((gi l_ v11).Token.Kind), vS (gi l_ v11).Token.Text, vI ((gi l_ v11).Token.Num), vS (gi l_ v11).Token.Unit, vB ((gi l_ v11).Token.Flag), .slice (yg22 5 0).a y24.length (yg22 5 0).c], .slice (yg22 7 0).a 1 (yg22 7 0).c, .slice (yg22 8 0).a q30.length (yg22 8 0).c, .slice (yg22 8 0).a q30.length (yg22 8 0).c]) (fun yg22 => [[], [], [], [], [], [eO 63 tyValue y24 (yg22 5 0), eI tyValue ((gi l_ v11).List_) (g_l_.s (v11).toNat 0)], [], [eO 63 tyValue ([(TValue.mk ((gi l_ v11).Token) y24)] : List TValue) (yg22 7 0), eI tyValue y24 (yg22 5 0), eI tyValue ((gi l_ v11).List_) (g_l_.s (v11).toNat 0)], [eO 63 tyValue q30 (yg22 8 0)], []]) [[11], [10, 12], [10, 12], [10, 12], [10, 12], [12], [5], [5], [7, 11], [8]] [[], [], [], [], [], [], [], [5], [11], []] [[0], [1], [1, 2], [3], [3, 4], [3, 4, 5], [1, 2, 3, 4, 5, 6], [1, 2, 3, 4, 5, 6, 7], [0, 1, 2, 3, 4, 5, 6, 7, 8], [0, 1, 2, 3, 4, 5, 6, 7, 8, 9]] [(3, 9, vL g10 v9)] (FrG.keep (ks := [5, 6, 7, 8]) H21 (by kernel_rfl)) (fun k e h => by rcases k with _ | k <;> first | (obtain rfl := Option.some.inj h; exact FrG.slot H21 (by kernel_rfl)) | cases h) (by kernel_rfl) hS (by kernel_rfl) rfl rfl (by kernel_rfl) (by kernel_rfl) (by kernel_rfl) (gd_none (by kernel_rfl) _ _) ?hloc_yg22 ?hstep_yg22 fun _ _ yg22 H33 hv hS => ?hK_yg22
    case hloc_yg22 => exact ⟨(fun _ _ _ _ => ⟨rfl, rfl⟩), (fun _ _ _ _ => ⟨rfl, rfl⟩), (fun _ _ _ _ => ⟨rfl, rfl⟩), (fun _ _ _ _ => ⟨rfl, rfl⟩), (fun _ _ _ _ => ⟨rfl, rfl⟩), (fun _ i g hi => lcG [5] (fun yg22 => (.slice (yg22 5 0).a y24.length (yg22 5 0).c, [eO 63 tyValue y24 (yg22 5 0), eI tyValue ((gi l_ v11).List_) (g_l_.s (v11).toNat 0)])) hi rfl), (fun _ i g hi => lcG [5] (fun yg22 => (vG [vU ((gi l_ v11).Token.Kind), vS (gi l_ v11).Token.Text, vI ((gi l_ v11).Token.Num), vS (gi l_ v11).Token.Unit, vB ((gi l_ v11).Token.Flag), .slice (yg22 5 0).a y24.length (yg22 5 0).c], [])) hi rfl), (fun _ i g hi => lcG [5, 7] (fun yg22 => (.slice (yg22 7 0).a 1 (yg22 7 0).c, [eO 63 tyValue ([(TValue.mk ((gi l_ v11).Token) y24)] : List TValue) (yg22 7 0), eI tyValue y24 (yg22 5 0), eI tyValue ((gi l_ v11).List_) (g_l_.s (v11).toNat 0)])) hi rfl), (fun _ i g hi => lcG [8] (fun yg22 => (.slice (yg22 8 0).a q30.length (yg22 8 0).c, [eO 63 tyValue q30 (yg22 8 0)])) hi rfl), (fun _ i g hi => lcG [8] (fun yg22 => (.slice (yg22 8 0).a q30.length (yg22 8 0).c, [])) hi rfl), trivial⟩
    case hstep_yg22 =>
     refine ⟨?_, ?_, ?_, ?_, ?_, ?_, ?_, ?_, ?_, ?_, trivial⟩
     ·intro o ho a w yg22 M Hb hv hO hS
      obtain rfl := Option.some.inj ho
      exact Stp.mono (o_evs [] (vL g10 v9) none [] ((Hb).add (hO 0 _ rfl (by kernel_rfl))) rfl (by kernel_rfl) (fun q e => by cases e)) fun _ _ hq => ⟨gL [], fun _ _ => hq.1, (hS.below hq.2.below).sel [0] rfl⟩
     ·intro o ho a w yg22 M Hb hv hO hS
      obtain rfl := Option.some.inj ho
      exact Stp.mono (o_evs [] (vP b17) none [] Hb rfl (by kernel_rfl) (fun q e => by cases e)) fun _ _ hq => ⟨gL [], fun _ _ => hq.1, (hS.below hq.2.below).sel [0, 1] rfl⟩
     ·intro o ho a w yg22 M Hb hv hO hS
      obtain rfl := Option.some.inj ho
      exact Stp.mono (o_evs [(vG [vU ((gi l_ v11).Token.Kind), vS (gi l_ v11).Token.Text, vI ((gi l_ v11).Token.Num), vS (gi l_ v11).Token.Unit, vB ((gi l_ v11).Token.Flag)])] (vG [vU ((gi l_ v11).Token.Kind), vS (gi l_ v11).Token.Text, vI ((gi l_ v11).Token.Num), vS (gi l_ v11).Token.Unit, vB ((gi l_ v11).Token.Flag)]) (some (rN b17 0 [vU ((gi l_ v11).Token.Kind), vS (gi l_ v11).Token.Text, vI ((gi l_ v11).Token.Num), vS (gi l_ v11).Token.Unit, vB ((gi l_ v11).Token.Flag)])) [] ((Hb).add (hv 1 (by decide) (by decide) 13 rfl)) rfl (by kernel_rfl) (fun q e => by cases e; exact ((hS.bk 0 rfl).atD rfl))) fun _ _ hq => ⟨gL [], fun _ _ => hq.1, (hS.below hq.2.below).sel [0, 1] rfl⟩
     ·intro o ho a w yg22 M Hb hv hO hS
      obtain rfl := Option.some.inj ho
      exact Stp.mono (o_evs [] (vA b17 5) none [] Hb rfl (by kernel_rfl) (fun q e => by cases e)) fun _ _ hq => ⟨gL [], fun _ _ => hq.1, (hS.below hq.2.below).sel [0, 1] rfl⟩
     ·intro o ho a w yg22 M Hb hv hO hS
      obtain rfl := Option.some.inj ho
      exact Stp.mono (o_evs [(.slice (g_l_.s (v11).toNat 0).a (((gi l_ v11).List_).length) (g_l_.s (v11).toNat 0).c)] (.slice (g_l_.s (v11).toNat 0).a (((gi l_ v11).List_).length) (g_l_.s (v11).toNat 0).c) (some (fun wz => V.at1 ⟨b17, 5, none⟩ (.slice (g_l_.s (v11).toNat 0).a (((gi l_ v11).List_).length) (g_l_.s (v11).toNat 0).c) wz)) [] ((Hb).add (hv 3 (by decide) (by decide) 15 rfl)) rfl (by kernel_rfl) (fun q e => by cases e; exact ((hS.bk 0 rfl).at1 rfl))) fun _ _ hq => ⟨gL [], fun _ _ => hq.1, (hS.below hq.2.below).sel [0, 1] rfl⟩
     ·intro o ho a w yg22 M Hb hv hO hS0
      obtain rfl := Option.some.inj ho
      have H : Fr 23 ([(16, [], .slice (g_l_.s (v11).toNat 0).a (((gi l_ v11).List_).length) (g_l_.s (v11).toNat 0).c)] ++ [(5, [], vP b17), (6, [], vL g_l_ l_), (7, [], vI (ln l_)), (8, [], vI v11)]) _ := (Hb).add (hv 4 (by decide) (by decide) 16 rfl)
      obtain ⟨X, hX⟩ : ∃ X, X = fpl [eI tyValue l_ g_l_] := ⟨_, rfl⟩
      have hS : SH M X w [eI tyValue l_ g_l_] w := by rw [hX]; exact hS0
      replace hS : SH M X w [eI tyValue ((gi l_ v11).List_) (g_l_.s (v11).toNat 0), eI tyValue l_ g_l_] _ := hS.addIm (tyValue_i0 ((hS.im 0 rfl).el ho14))
      have hd := hS.hand [0] [0, 1] rfl rfl
      refine Stp.mono (o_callx H rfl rfl (⟨Tryz.call32 _, ih ((g_l_.s (v11).toNat 0)) _ _ _ hy24 _ hd⟩ : DoesX _ _ _ _ _)) ?_
      rintro v w2 hq
      obtain ⟨g25, rfl, hq⟩ := hq
      replace hS : SH M X w [eO 63 tyValue y24 g25, eI tyValue ((gi l_ v11).List_) (g_l_.s (v11).toNat 0), eI tyValue l_ g_l_] _ := hS.join [0] [0, 1] rfl rfl hq
      clear hq
      rw [hX] at hS
      exact ⟨gL [g25], fun _ _ => rfl, hS.sel [0, 1, 2] rfl⟩
     ·intro o ho a w yg22 M Hb hv hO hS
      obtain rfl := Option.some.inj ho
      exact Stp.mono (o_evs [] (vG [vU ((gi l_ v11).Token.Kind), vS (gi l_ v11).Token.Text, vI ((gi l_ v11).Token.Num), vS (gi l_ v11).Token.Unit, vB ((gi l_ v11).Token.Flag), .slice (yg22 5 0).a y24.length (yg22 5 0).c]) none [] (((Hb).add (hv 2 (by decide) (by decide) 14 rfl)).add (hv 5 (by decide) (by decide) 17 rfl)) rfl (by kernel_rfl) (fun q e => by cases e)) fun _ _ hq => ⟨gL [], fun _ _ => hq.1, (hS.below hq.2.below).sel [0, 1] rfl⟩
     ·intro o ho a w yg22 M Hb hv hO hS0
      obtain rfl := Option.some.inj ho
      have H : Fr 23 ([(18, [], vG [vU ((gi l_ v11).Token.Kind), vS (gi l_ v11).Token.Text, vI ((gi l_ v11).Token.Num), vS (gi l_ v11).Token.Unit, vB ((gi l_ v11).Token.Flag), .slice (yg22 5 0).a y24.length (yg22 5 0).c])] ++ [(5, [], vP b17), (6, [], vL g_l_ l_), (7, [], vI (ln l_)), (8, [], vI v11)]) _ := (Hb).add (hv 6 (by decide) (by decide) 18 rfl)
      obtain ⟨X, hX⟩ : ∃ X, X = fpl [eO 63 tyValue y24 (yg22 5 0), eI tyValue ((gi l_ v11).List_) (g_l_.s (v11).toNat 0)] := ⟨_, rfl⟩
      have hS : SH M X w [eO 63 tyValue y24 (yg22 5 0), eI tyValue ((gi l_ v11).List_) (g_l_.s (v11).toNat 0)] w := by rw [hX]; exact hS0
      replace hS : SH M X w [eI tyValue y24 (yg22 5 0), eI tyValue ((gi l_ v11).List_) (g_l_.s (v11).toNat 0)] _ := SH.frz1 (hS.sel [0, 1] rfl)
      have hd := hS.hand [0] [0, 1] rfl rfl
      refine Stp.mono (o_lit (T := tyValue) (E := 63) (zv := vG [vU 0, vN, vI 0, vN, vF, vO]) [vU ((gi l_ v11).Token.Kind), vS (gi l_ v11).Token.Text, vI ((gi l_ v11).Token.Num), vS (gi l_ v11).Token.Unit, vB ((gi l_ v11).Token.Flag), .slice (yg22 5 0).a y24.length (yg22 5 0).c] ([(TValue.mk ((gi l_ v11).Token) y24)] : List TValue) [gL [(yg22 5 0)]] _ H hd rfl (by kernel_rfl) (by kernel_rfl) (by kernel_rfl) (by kernel_rfl) (by kernel_rfl) (by kernel_rfl) (by kernel_rfl) rfl (InnL.cons (tyValue_mk (hd.im 0 rfl)) InnL.nil)) ?_
      rintro v w2 hq
      obtain ⟨g27, rfl, hq⟩ := hq
      replace hS : SH M X w [eO 63 tyValue ([(TValue.mk ((gi l_ v11).Token) y24)] : List TValue) g27, eI tyValue y24 (yg22 5 0), eI tyValue ((gi l_ v11).List_) (g_l_.s (v11).toNat 0)] _ := hS.join [0] [0, 1] rfl rfl hq
      clear hq
      rw [hX] at hS
      exact ⟨gL [g27], fun _ _ => rfl, hS.sel [0, 1, 2] rfl⟩
     ·intro o ho a w yg22 M Hb hv hO hS0
      obtain rfl := Option.some.inj ho
      have H : Fr 23 ([(19, [], .slice (yg22 7 0).a 1 (yg22 7 0).c), (12, [], vL g10 v9)] ++ [(5, [], vP b17), (6, [], vL g_l_ l_), (7, [], vI (ln l_)), (8, [], vI v11)]) _ := ((Hb).add (hv 0 (by decide) (by decide) 12 rfl)).add (hv 7 (by decide) (by decide) 19 rfl)
      obtain ⟨X, hX⟩ : ∃ X, X = fpl [eO 63 tyValue ([(TValue.mk ((gi l_ v11).Token) y24)] : List TValue) (yg22 7 0), eI tyValue y24 (yg22 5 0), eI tyValue ((gi l_ v11).List_) (g_l_.s (v11).toNat 0), eO 63 tyValue v9 g10] := ⟨_, rfl⟩
      have hS : SH M X w [eO 63 tyValue ([(TValue.mk ((gi l_ v11).Token) y24)] : List TValue) (yg22 7 0), eI tyValue y24 (yg22 5 0), eI tyValue ((gi l_ v11).List_) (g_l_.s (v11).toNat 0), eO 63 tyValue v9 g10] w := by rw [hX]; exact hS0
      have hd := hS.hand [3, 0] [1, 2] rfl rfl
      refine Stp.mono (o_app2 (T := tyValue) (zv := vG [vU 0, vN, vI 0, vN, vF, vO]) (g1 := g10) (g2 := (yg22 7 0)) (l1 := v9) (l2 := ([(TValue.mk ((gi l_ v11).Token) y24)] : List TValue)) q30 hq30.symm H hd rfl rfl rfl rfl rfl rfl rfl (by kernel_rfl) (by kernel_rfl) rfl rfl ho29) ?_
      rintro v w2 hq
      obtain ⟨g31, rfl, hq⟩ := hq
      replace hS : SH M X w [eO 63 tyValue q30 g31, eO 63 tyValue ([(TValue.mk ((gi l_ v11).Token) y24)] : List TValue) (yg22 7 0), eI tyValue y24 (yg22 5 0), eI tyValue ((gi l_ v11).List_) (g_l_.s (v11).toNat 0)] _ := hS.join [3, 0] [1, 2] rfl rfl hq
      clear hq
      rw [hX] at hS
      exact ⟨gL [g31], fun _ _ => rfl, hS.sel [0, 1, 2, 3] rfl⟩
     ·intro o ho a w yg22 M Hb hv hO hS
      obtain rfl := Option.some.inj ho
      exact Stp.mono (o_evs [] (.slice (yg22 8 0).a q30.length (yg22 8 0).c) none [] ((Hb).add (hv 8 (by decide) (by decide) 20 rfl)) rfl (by kernel_rfl) (fun q e => by cases e)) fun _ _ hq => ⟨gL [], fun _ _ => hq.1, (hS.below hq.2.below).sel [0] rfl⟩
    have H34 : Fr 23 [(3, [], .slice (yg22 8 0).a q30.length (yg22 8 0).c), (6, [], vL g_l_ l_), (7, [], vI (ln l_)), (8, [], vI v11)] _ := (FrG.add (FrG.keep (ks := [6, 7, 8]) H33 (by kernel_rfl)) (hv 9 3 rfl))
    replace hS : SH M X w [eO 63 tyValue ([(TValue.mk ((gi l_ v11).Token) y24)] : List TValue) (yg22 7 0), eI tyValue y24 (yg22 5 0), eI tyValue ((gi l_ v11).List_) (g_l_.s (v11).toNat 0), eO 63 tyValue q30 (yg22 8 0), eB b17 [vU ((gi l_ v11).Token.Kind), vS (gi l_ v11).Token.Text, vI ((gi l_ v11).Token.Num), vS (gi l_ v11).Token.Unit, vB ((gi l_ v11).Token.Flag), .slice (g_l_.s (v11).toNat 0).a (((gi l_ v11).List_).length) (g_l_.s (v11).toNat 0).c], eI tyValue l_ g_l_] _ := hS
    clear hv H33
    generalize yg22 8 0 = g35 at H34 hS
    generalize yg22 7 0 = g36 at H34 hS
    generalize yg22 5 0 = g37 at H34 hS
    replace hS : SH M X w [eO 63 tyValue q30 g35, eI tyValue l_ g_l_] _ := hS.sel [3, 5] rfl
    refine w_reg [] [3, 6, 7, 8] [(3, [], vL g35 q30), (6, [], vL g_l_ l_), (7, [], vI (ln l_)), (8, [], vI (w64 (v11 + 1)))] [] H34 (by kernel_rfl) trivial fun _ _ H39 hb => ?_
    replace hS := hS.below hb
    clear H34 hb
    exact ⟨_, Nat.lt_succ_self _, q30, w64 (v11 + 1), g35, hm, FrG.keep (ks := [6, 7, 3, 8]) H39 (by kernel_rfl), hS⟩
  ·rintro _ _ ⟨g42, H, hS⟩
   replace hS : SH M X w [eO 63 tyValue z5 g42] _ := hS.sel [0] rfl
   refine s_reg [] [2] [(2, [], vL g42 z5)] [] H (by kernel_rfl) trivial fun _ _ H45 hb => ?_
   replace hS := hS.below hb
   clear H hb
   refine w_ret ?_
   obtain rfl := someE hm
   exact retR1 H45 rfl rfl ⟨_, rfl, g42, rfl, (hS.sel [0] rfl)⟩
theorem wide_clone_ok {g_l_ : Gh} (m : Nat) (l_ : List TValue) (r : List TValue) (hm : wide_clone m l_ = some r) (M : Av) (w : World) (hS : S0 M [eI tyValue l_ g_l_] w) : DoesX Tryz.prog 32 ⟨[vL g_l_ l_]⟩ w (fun v w' => ∃ (g901 : Gh), v = vL g901 r ∧ SH M (fpl [eI tyValue l_ g_l_]) w [eO 63 tyValue r g901] w') := ⟨Tryz.call32 _, wide_clone_w m   m g_l_ M l_ r hm w hS⟩

theorem wide_Lesser_w {g_l_ : Gh} (M : Av) (m : Nat) (l_ : List TDeclared) (origin : Int) (r : (List TDeclared) × Int) (hm : wide_Lesser m l_ origin = some r) (w : World) (hS : S0 M [eI tyDeclared l_ g_l_, gE0] w) : Calls Tryz.prog 15 ⟨[vL g_l_ l_, vU origin]⟩ w (fun e w' => ∃ v, e = .returned v ∧ ∃ (g901 : Gh), v = vW [vL g901 r.1, vI r.2] ∧ SH M (fpl [eI tyDeclared l_ g_l_, gE0]) w [eO 35 tyDeclared r.1 g901] w') := by
 rw [wide_Lesser] at hm
 have hS0 : SH M (fpl [eI tyDeclared l_ g_l_, gE0]) w [eI tyDeclared l_ g_l_, gE0] w := hS
 generalize hX : fpl [eI tyDeclared l_ g_l_, gE0] = X at hS0 ⊢
 clear hS hX
 have hS := hS0
 clear hS0
 refine calls_entryP Tryz.func15 rfl Tryz.ntmps15 rfl fun _ H => ?_
 refine s_reg [] [0, 1] [(0, [], vL g_l_ l_), (1, [], vU origin)] [] H (by kernel_rfl) trivial fun _ _ H2 hb => ?_
 replace hS := hS.below hb
 clear H hb
 refine w_seq ?_
 obtain ⟨y3, hy3, hm⟩ := bindE hm
 refine s_reg [(vI y3)] [0, 1, 6] [(0, [], vL g_l_ l_), (1, [], vU origin), (6, [], vI y3)] [rB 25 [vL g_l_ l_] (vI y3)] H2 (by kernel_rfl) ⟨(wide_asked_ok (g_l_ := g_l_) m _ _ hy3 _ (s0im (s0im s0nil (hS.im 1 rfl)) (hS.im 0 rfl))), trivial⟩ fun _ _ H5 hb => ?_
 replace hS := hS.below hb
 clear H2 hb
 refine s_reg [] [0, 1, 6, 13] [(0, [], vL g_l_ l_), (1, [], vU origin), (6, [], vI y3), (13, [], vB (y3 != 0))] [] H5 (by kernel_rfl) trivial fun _ _ H7 hb => ?_
 replace hS := hS.below hb
 clear H5 hb
 refine w_if H7 rfl (fun hc => ?c77) (fun hc => ?_)
 case c77 =>
  replace hm := bT hc hm
  refine s_reg [] [4, 5] [(4, [], vO), (5, [], vI y3)] [] H7 (by kernel_rfl) trivial fun _ _ H9 hb => ?_
  replace hS := hS.below hb
  clear H7 hb
  replace hS : SH M X w [gE0] _ := hS.sel [1] rfl
  refine w_ret ?_
  obtain rfl := someE hm
  replace hS : SH M X w [eO 35 tyDeclared ([] : List TDeclared) (.nil), gE0] _ := hS.addNil 35 tyDeclared
  exact retR2 H9 rfl rfl rfl ⟨_, rfl, Gh.nil, rfl, (hS.sel [0] rfl)⟩
 replace hm := bF hc hm
 refine w_skip ?_
 refine w_seq ?_
 obtain ⟨x11, hx11, hm⟩ := letE hm
 refine s_reg [] [0, 1, 20] [(0, [], vL g_l_ l_), (1, [], vU origin), (20, [], vB x11)] [] H7 (by subst hx11; kernel_rfl) trivial fun _ _ H13 hb => ?_
 replace hS := hS.below hb
 clear H7 hb
 refine w_if H13 rfl (fun hc => ?c76) (fun hc => ?_)
 case c76 =>
  replace hm := bT hc hm
  refine s_reg [] [4, 5] [(4, [], vO), (5, [], vI 2)] [] H13 (by kernel_rfl) trivial fun _ _ H15 hb => ?_
  replace hS := hS.below hb
  clear H13 hb
  replace hS : SH M X w [gE0] _ := hS.sel [1] rfl
  refine w_ret ?_
  obtain rfl := someE hm
  replace hS : SH M X w [eO 35 tyDeclared ([] : List TDeclared) (.nil), gE0] _ := hS.addNil 35 tyDeclared
  exact retR2 H15 rfl rfl rfl ⟨_, rfl, Gh.nil, rfl, (hS.sel [0] rfl)⟩
 replace hm := bF hc hm
 refine w_skip ?_
 refine s_reg [] [0, 1, 7] [(0, [], vL g_l_ l_), (1, [], vU origin), (7, [], vO)] [] H13 (by kernel_rfl) trivial fun _ _ H18 hb => ?_
 replace hS := hS.below hb
 clear H13 hb
 obtain ⟨z19, hz, hm⟩ := bindE hm
 refine w_cut (fun a' w' => ∃ (g71 : Gh), Fr 43 [(7, [], vL g71 z19)] a' ∧ SH M X w [eO 35 tyDeclared z19 g71, eI tyDeclared l_ g_l_, gE0] w') ?_ ?_
 ·replace hm := hz
  refine s_reg [] [1, 7, 21, 22, 23] [(1, [], vU origin), (7, [], vO), (21, [], vL g_l_ l_), (22, [], vI (ln l_)), (23, [], vI 0)] [] H18 (by kernel_rfl) trivial fun _ _ H21 hb => ?_
  replace hS := hS.below hb
  clear H18 hb
  refine w_block ?_
  replace hS : SH M X w [eO 35 tyDeclared ([] : List TDeclared) (.nil), eI tyDeclared l_ g_l_, gE0] _ := hS.addNil 35 tyDeclared
  refine w_loop (fun kk a' w' => ∃ (v23 : List TDeclared) (v25 : Int) (g24 : Gh), wide_Lesser_L1 m l_ origin kk v23 v25 = some _ ∧ Fr 43 [(1, [], vU origin), (21, [], vL g_l_ l_), (22, [], vI (ln l_)), (7, [], vL g24 v23), (23, [], vI v25)] a' ∧ SH M X w [eO 35 tyDeclared v23 g24, eI tyDeclared l_ g_l_, gE0] w') ⟨_, ([] : List TDeclared), 0, Gh.nil, hm, FrG.keep (ks := [1, 21, 22, 7, 23]) H21 (by kernel_rfl), hS⟩ ?_
  clear hm H21 hS
  rintro kk _ _ ⟨v23, v25, g24, hm, H, hS⟩
  cases kk with
  | zero => exact noneE hm
  | succ kk =>
   rw [wide_Lesser_L1] at hm
   refine s_reg [] [1, 7, 21, 22, 23, 24] [(1, [], vU origin), (7, [], vL g24 v23), (21, [], vL g_l_ l_), (22, [], vI (ln l_)), (23, [], vI v25), (24, [], vB (decide (v25 < (ln l_))))] [] H (by kernel_rfl) trivial fun _ _ H27 hb => ?_
   replace hS := hS.below hb
   clear H hb
   refine w_seq ?_
   refine w_if H27 rfl (fun hc => ?_) (fun hc => ?c69)
   case c69 =>
    replace hm := bF hc hm
    refine w_exit rfl ?_
    obtain rfl := someE hm
    exact ⟨g24, FrG.keep (ks := [7]) H27 (by kernel_rfl), hS⟩
   replace hm := bT hc hm
   refine w_skip ?_
   obtain ⟨z28, hz, hm⟩ := bindE hm
   refine w_cut (fun a' w' => ∃ (g65 : Gh), Fr 43 [(1, [], vU origin), (21, [], vL g_l_ l_), (22, [], vI (ln l_)), (23, [], vI v25), (7, [], vL g65 z28)] a' ∧ SH M X w [eO 35 tyDeclared z28 g65, eI tyDeclared l_ g_l_, gE0] w') ?_ ?_
   ·replace hm := hz
    refine w_block ?_
    refine w_seq ?_
    refine wl_start ?_
    obtain ⟨ho29, hm⟩ := chkE hm
    refine wl_batch 0 2 [(vG [vS (gi l_ v25).Long.Name, .slice (g_l_.s (v25).toNat 0).a (((gi l_ v25).Long.Value).length) (g_l_.s (v25).toNat 0).c, vS (gi l_ v25).Long.Whole, vB ((gi l_ v25).Important), vU ((gi l_ v25).Origin), vB ((gi l_ v25).Attached), vI ((gi l_ v25).Layer), vI ((gi l_ v25).Weight.e0), vI ((gi l_ v25).Weight.e1), vI ((gi l_ v25).Weight.e2), vI ((gi l_ v25).Order)])] [1, 7, 21, 22, 23, 26] [(1, [], vU origin), (7, [], vL g24 v23), (21, [], vL g_l_ l_), (22, [], vI (ln l_)), (23, [], vI v25), (26, [], vG [vS (gi l_ v25).Long.Name, .slice (g_l_.s (v25).toNat 0).a (((gi l_ v25).Long.Value).length) (g_l_.s (v25).toNat 0).c, vS (gi l_ v25).Long.Whole, vB ((gi l_ v25).Important), vU ((gi l_ v25).Origin), vB ((gi l_ v25).Attached), vI ((gi l_ v25).Layer), vI ((gi l_ v25).Weight.e0), vI ((gi l_ v25).Weight.e1), vI ((gi l_ v25).Weight.e2), vI ((gi l_ v25).Order)])] [fun _ => oka g_l_.a ∧ 0 ≤ v25 ∧ v25 < ln l_, fun wz => V.atN (ab g_l_.a) (ao g_l_.a + (v25).toNat * 11) [vS (gi l_ v25).Long.Name, .slice (g_l_.s (v25).toNat 0).a (((gi l_ v25).Long.Value).length) (g_l_.s (v25).toNat 0).c, vS (gi l_ v25).Long.Whole, vB ((gi l_ v25).Important), vU ((gi l_ v25).Origin), vB ((gi l_ v25).Attached), vI ((gi l_ v25).Layer), vI ((gi l_ v25).Weight.e0), vI ((gi l_ v25).Weight.e1), vI ((gi l_ v25).Weight.e2), vI ((gi l_ v25).Order)] 0 wz] H27 (by decide) (by kernel_rfl) ⟨((hS.im 1 rfl).oki ho29), ((hS.im 1 rfl).atA ho29 0 rfl), trivial⟩ fun _ _ H31 hb => ?_
    replace hS := hS.below hb
    clear H27 hb
    have hd := hS.hand [] [0, 1, 2] rfl rfl
    refine m_stp [9, 1, 7, 21, 22, 23, 26] [(1, [], vU origin), (7, [], vL g24 v23), (21, [], vL g_l_ l_), (22, [], vI (ln l_)), (23, [], vI v25), (26, [], vG [vS (gi l_ v25).Long.Name, .slice (g_l_.s (v25).toNat 0).a (((gi l_ v25).Long.Value).length) (g_l_.s (v25).toNat 0).c, vS (gi l_ v25).Long.Whole, vB ((gi l_ v25).Important), vU ((gi l_ v25).Origin), vB ((gi l_ v25).Attached), vI ((gi l_ v25).Layer), vI ((gi l_ v25).Weight.e0), vI ((gi l_ v25).Weight.e1), vI ((gi l_ v25).Weight.e2), vI ((gi l_ v25).Order)])] H31 rfl rfl rfl rfl (o_alloc [vN, vO, vN, vF, vU 0, vF, vI 0, vI 0, vI 0, vI 0, vI 0] (z := vG [vN, vO, vN, vF, vU 0, vF, vI 0, vI 0, vI 0, vI 0, vI 0]) hd (by kernel_rfl) rfl) (fun _ => rfl) fun _ _ v H34 hq => ?_
    clear H31 hd
    obtain ⟨b32, rfl, hq⟩ := hq
    replace hS : SH M X w [eB b32 [vN, vO, vN, vF, vU 0, vF, vI 0, vI 0, vI 0, vI 0, vI 0], eO 35 tyDeclared v23 g24, eI tyDeclared l_ g_l_, gE0] _ := hS.join [] [0, 1, 2] rfl rfl hq
    clear hq
    have hd := hS.hand [0] [1, 2, 3] rfl rfl
    refine m_stp0 [1, 7, 9, 21, 22, 23] [(1, [], vU origin), (7, [], vL g24 v23), (9, [], vP b32), (21, [], vL g_l_ l_), (22, [], vI (ln l_)), (23, [], vI v25)] H34 rfl rfl rfl (o_store [vS (gi l_ v25).Long.Name, .slice (g_l_.s (v25).toNat 0).a (((gi l_ v25).Long.Value).length) (g_l_.s (v25).toNat 0).c, vS (gi l_ v25).Long.Whole, vB ((gi l_ v25).Important), vU ((gi l_ v25).Origin), vB ((gi l_ v25).Attached), vI ((gi l_ v25).Layer), vI ((gi l_ v25).Weight.e0), vI ((gi l_ v25).Weight.e1), vI ((gi l_ v25).Weight.e2), vI ((gi l_ v25).Order)] H34 hd rfl rfl (by kernel_rfl) rfl rfl rfl) rfl fun _ _ H36 hq => ?_
    clear H34 hd
    obtain ⟨_, hq⟩ := hq
    replace hS : SH M X w [eB b32 [vS (gi l_ v25).Long.Name, .slice (g_l_.s (v25).toNat 0).a (((gi l_ v25).Long.Value).length) (g_l_.s (v25).toNat 0).c, vS (gi l_ v25).Long.Whole, vB ((gi l_ v25).Important), vU ((gi l_ v25).Origin), vB ((gi l_ v25).Attached), vI ((gi l_ v25).Layer), vI ((gi l_ v25).Weight.e0), vI ((gi l_ v25).Weight.e1), vI ((gi l_ v25).Weight.e2), vI ((gi l_ v25).Order)], eO 35 tyDeclared v23 g24, eI tyDeclared l_ g_l_, gE0] _ := hS.join [0] [1, 2, 3] rfl rfl hq
    clear hq
    refine wl_end rfl ?_
    refine s_reg [(vU ((gi l_ v25).Origin))] [1, 7, 9, 21, 22, 23, 30] [(1, [], vU origin), (7, [], vL g24 v23), (9, [], vP b32), (21, [], vL g_l_ l_), (22, [], vI (ln l_)), (23, [], vI v25), (30, [], vB (decide (((gi l_ v25).Origin) < origin)))] [rA b32 4 (vU ((gi l_ v25).Origin))] H36 (by kernel_rfl) ⟨((hS.bk 0 rfl).at1 rfl), trivial⟩ fun _ _ H38 hb => ?_
    replace hS := hS.below hb
    clear H36 hb
    refine w_if H38 rfl (fun hc => ?_) (fun hc => ?c64)
    case c64 =>
     replace hm := bF hc hm
     refine w_skip ?_
     obtain rfl := someE hm
     replace hS : SH M X w [eO 35 tyDeclared v23 g24, eI tyDeclared l_ g_l_, gE0] _ := hS.sel [1, 2, 3] rfl
     exact ⟨g24, FrG.keep (ks := [1, 21, 22, 23, 7]) H38 (by kernel_rfl), hS⟩
    replace hm := bT hc hm
    refine w_seq ?_
    refine wl_start ?_
    refine wl_batch 0 3 [(.slice (g_l_.s (v25).toNat 0).a (((gi l_ v25).Long.Value).length) (g_l_.s (v25).toNat 0).c)] [1, 7, 9, 21, 22, 23, 33] [(1, [], vU origin), (7, [], vL g24 v23), (9, [], vP b32), (21, [], vL g_l_ l_), (22, [], vI (ln l_)), (23, [], vI v25), (33, [], .slice (g_l_.s (v25).toNat 0).a (((gi l_ v25).Long.Value).length) (g_l_.s (v25).toNat 0).c)] [fun wz => V.at1 ⟨b32, 1, none⟩ (.slice (g_l_.s (v25).toNat 0).a (((gi l_ v25).Long.Value).length) (g_l_.s (v25).toNat 0).c) wz] H38 (by decide) (by kernel_rfl) ⟨((hS.bk 0 rfl).at1 rfl), trivial⟩ fun _ _ H40 hb => ?_
    replace hS := hS.below hb
    clear H38 hb
    replace hS : SH M X w [eI tyValue ((gi l_ v25).Long.Value) (g_l_.s (v25).toNat 0), eB b32 [vS (gi l_ v25).Long.Name, .slice (g_l_.s (v25).toNat 0).a (((gi l_ v25).Long.Value).length) (g_l_.s (v25).toNat 0).c, vS (gi l_ v25).Long.Whole, vB ((gi l_ v25).Important), vU ((gi l_ v25).Origin), vB ((gi l_ v25).Attached), vI ((gi l_ v25).Layer), vI ((gi l_ v25).Weight.e0), vI ((gi l_ v25).Weight.e1), vI ((gi l_ v25).Weight.e2), vI ((gi l_ v25).Order)], eO 35 tyDeclared v23 g24, eI tyDeclared l_ g_l_, gE0] _ := hS.addIm (tyDeclared_i0 ((hS.im 2 rfl).el ho29))
    obtain ⟨y42, hy42, hm⟩ := bindE hm
    have hd := hS.hand [0] [0, 1, 2, 3, 4] rfl rfl
    refine m_stp [34, 1, 7, 9, 21, 22, 23] [(1, [], vU origin), (7, [], vL g24 v23), (9, [], vP b32), (21, [], vL g_l_ l_), (22, [], vI (ln l_)), (23, [], vI v25)] H40 rfl rfl rfl rfl (o_callx H40 rfl rfl (wide_clone_ok (g_l_ := (g_l_.s (v25).toNat 0)) m _ _ hy42 _ _ hd)) (fun _ => rfl) fun _ _ v H46 hq => ?_
    clear H40 hd
    obtain ⟨g43, rfl, hq⟩ := hq
    replace hS : SH M X w [eO 63 tyValue y42 g43, eI tyValue ((gi l_ v25).Long.Value) (g_l_.s (v25).toNat 0), eB b32 [vS (gi l_ v25).Long.Name, .slice (g_l_.s (v25).toNat 0).a (((gi l_ v25).Long.Value).length) (g_l_.s (v25).toNat 0).c, vS (gi l_ v25).Long.Whole, vB ((gi l_ v25).Important), vU ((gi l_ v25).Origin), vB ((gi l_ v25).Attached), vI ((gi l_ v25).Layer), vI ((gi l_ v25).Weight.e0), vI ((gi l_ v25).Weight.e1), vI ((gi l_ v25).Weight.e2), vI ((gi l_ v25).Order)], eO 35 tyDeclared v23 g24, eI tyDeclared l_ g_l_, gE0] _ := hS.join [0] [0, 1, 2, 3, 4] rfl rfl hq
    clear hq
    refine wl_batch 4 6 [] [1, 7, 9, 21, 22, 23, 34, 36] [(1, [], vU origin), (7, [], vL g24 v23), (9, [], vP b32), (21, [], vL g_l_ l_), (22, [], vI (ln l_)), (23, [], vI v25), (34, [], vL g43 y42), (36, [], vA b32 1)] [] H46 (by decide) (by kernel_rfl) trivial fun _ _ H48 hb => ?_
    replace hS := hS.below hb
    clear H46 hb
    have hd := hS.hand [2] [0, 1, 3, 4, 5] rfl rfl
    refine m_stp0 [1, 7, 9, 21, 22, 23] [(1, [], vU origin), (7, [], vL g24 v23), (9, [], vP b32), (21, [], vL g_l_ l_), (22, [], vI (ln l_)), (23, [], vI v25)] H48 rfl rfl rfl (o_store [vS (gi l_ v25).Long.Name, vL g43 y42, vS (gi l_ v25).Long.Whole, vB ((gi l_ v25).Important), vU ((gi l_ v25).Origin), vB ((gi l_ v25).Attached), vI ((gi l_ v25).Layer), vI ((gi l_ v25).Weight.e0), vI ((gi l_ v25).Weight.e1), vI ((gi l_ v25).Weight.e2), vI ((gi l_ v25).Order)] H48 hd rfl rfl (by kernel_rfl) rfl rfl rfl) rfl fun _ _ H50 hq => ?_
    clear H48 hd
    obtain ⟨_, hq⟩ := hq
    replace hS : SH M X w [eB b32 [vS (gi l_ v25).Long.Name, vL g43 y42, vS (gi l_ v25).Long.Whole, vB ((gi l_ v25).Important), vU ((gi l_ v25).Origin), vB ((gi l_ v25).Attached), vI ((gi l_ v25).Layer), vI ((gi l_ v25).Weight.e0), vI ((gi l_ v25).Weight.e1), vI ((gi l_ v25).Weight.e2), vI ((gi l_ v25).Order)], eO 63 tyValue y42 g43, eI tyValue ((gi l_ v25).Long.Value) (g_l_.s (v25).toNat 0), eO 35 tyDeclared v23 g24, eI tyDeclared l_ g_l_, gE0] _ := hS.join [2] [0, 1, 3, 4, 5] rfl rfl hq
    clear hq
    refine wl_end rfl ?_
    replace hS : SH M X w [eB b32 [vS (gi l_ v25).Long.Name, vL g43 y42, vS (gi l_ v25).Long.Whole, vB ((gi l_ v25).Important), vU ((gi l_ v25).Origin), vB ((gi l_ v25).Attached), vI ((gi l_ v25).Layer), vI ((gi l_ v25).Weight.e0), vI ((gi l_ v25).Weight.e1), vI ((gi l_ v25).Weight.e2), vI ((gi l_ v25).Order)], eO 63 tyValue y42 g43, eO 35 tyDeclared v23 g24, eI tyDeclared l_ g_l_, gE0] _ := hS.sel [0, 1, 3, 4, 5] rfl
    refine wl_start ?_
    refine wl_batch 0 2 [(vG [vS (gi l_ v25).Long.Name, vL g43 y42, vS (gi l_ v25).Long.Whole, vB ((gi l_ v25).Important), vU ((gi l_ v25).Origin), vB ((gi l_ v25).Attached), vI ((gi l_ v25).Layer), vI ((gi l_ v25).Weight.e0), vI ((gi l_ v25).Weight.e1), vI ((gi l_ v25).Weight.e2), vI ((gi l_ v25).Order)])] [1, 21, 22, 23, 37, 38] [(1, [], vU origin), (21, [], vL g_l_ l_), (22, [], vI (ln l_)), (23, [], vI v25), (37, [], vL g24 v23), (38, [], vG [vS (gi l_ v25).Long.Name, vL g43 y42, vS (gi l_ v25).Long.Whole, vB ((gi l_ v25).Important), vU ((gi l_ v25).Origin), vB ((gi l_ v25).Attached), vI ((gi l_ v25).Layer), vI ((gi l_ v25).Weight.e0), vI ((gi l_ v25).Weight.e1), vI ((gi l_ v25).Weight.e2), vI ((gi l_ v25).Order)])] [rN b32 0 [vS (gi l_ v25).Long.Name, vL g43 y42, vS (gi l_ v25).Long.Whole, vB ((gi l_ v25).Important), vU ((gi l_ v25).Origin), vB ((gi l_ v25).Attached), vI ((gi l_ v25).Layer), vI ((gi l_ v25).Weight.e0), vI ((gi l_ v25).Weight.e1), vI ((gi l_ v25).Weight.e2), vI ((gi l_ v25).Order)]] H50 (by decide) (by kernel_rfl) ⟨((hS.bk 0 rfl).atD rfl), trivial⟩ fun _ _ H52 hb => ?_
    replace hS := hS.below hb
    clear H50 hb
    replace hS : SH M X w [eI tyValue y42 g43, eB b32 [vS (gi l_ v25).Long.Name, vL g43 y42, vS (gi l_ v25).Long.Whole, vB ((gi l_ v25).Important), vU ((gi l_ v25).Origin), vB ((gi l_ v25).Attached), vI ((gi l_ v25).Layer), vI ((gi l_ v25).Weight.e0), vI ((gi l_ v25).Weight.e1), vI ((gi l_ v25).Weight.e2), vI ((gi l_ v25).Order)], eO 35 tyDeclared v23 g24, eI tyDeclared l_ g_l_, gE0] _ := SH.frz1 (hS.sel [1, 0, 2, 3, 4] rfl)
    have hd := hS.hand [0] [0, 1, 2, 3, 4] rfl rfl
    refine m_stp [39, 1, 21, 22, 23, 37] [(1, [], vU origin), (21, [], vL g_l_ l_), (22, [], vI (ln l_)), (23, [], vI v25), (37, [], vL g24 v23)] H52 rfl rfl rfl rfl (o_lit (T := tyDeclared) (E := 35) (zv := vG [vN, vO, vN, vF, vU 0, vF, vI 0, vI 0, vI 0, vI 0, vI 0]) [vS (gi l_ v25).Long.Name, vL g43 y42, vS (gi l_ v25).Long.Whole, vB ((gi l_ v25).Important), vU ((gi l_ v25).Origin), vB ((gi l_ v25).Attached), vI ((gi l_ v25).Layer), vI ((gi l_ v25).Weight.e0), vI ((gi l_ v25).Weight.e1), vI ((gi l_ v25).Weight.e2), vI ((gi l_ v25).Order)] ([(TDeclared.mk (TLong.mk ((gi l_ v25).Long.Name) y42 ((gi l_ v25).Long.Whole)) ((gi l_ v25).Important) ((gi l_ v25).Origin) ((gi l_ v25).Attached) ((gi l_ v25).Layer) ((gi l_ v25).Weight) ((gi l_ v25).Order))] : List TDeclared) [gL [g43]] _ H52 hd rfl (by kernel_rfl) (by kernel_rfl) (by kernel_rfl) (by kernel_rfl) (by kernel_rfl) (by kernel_rfl) (by kernel_rfl) rfl (InnL.cons (tyDeclared_mk (hd.im 0 rfl)) InnL.nil)) (fun _ => rfl) fun _ _ v H56 hq => ?_
    clear H52 hd
    obtain ⟨g53, rfl, hq⟩ := hq
    replace hS : SH M X w [eO 35 tyDeclared ([(TDeclared.mk (TLong.mk ((gi l_ v25).Long.Name) y42 ((gi l_ v25).Long.Whole)) ((gi l_ v25).Important) ((gi l_ v25).Origin) ((gi l_ v25).Attached) ((gi l_ v25).Layer) ((gi l_ v25).Weight) ((gi l_ v25).Order))] : List TDeclared) g53, eI tyValue y42 g43, eB b32 [vS (gi l_ v25).Long.Name, vL g43 y42, vS (gi l_ v25).Long.Whole, vB ((gi l_ v25).Important), vU ((gi l_ v25).Origin), vB ((gi l_ v25).Attached), vI ((gi l_ v25).Layer), vI ((gi l_ v25).Weight.e0), vI ((gi l_ v25).Weight.e1), vI ((gi l_ v25).Weight.e2), vI ((gi l_ v25).Order)], eO 35 tyDeclared v23 g24, eI tyDeclared l_ g_l_, gE0] _ := hS.join [0] [0, 1, 2, 3, 4] rfl rfl hq
    clear hq
    obtain ⟨ho57, hm⟩ := chkE hm
    obtain ⟨q58, hq58, hm⟩ := letE hm
    have hd := hS.hand [3, 0] [1, 2, 4, 5] rfl rfl
    refine m_stp [40, 1, 21, 22, 23] [(1, [], vU origin), (21, [], vL g_l_ l_), (22, [], vI (ln l_)), (23, [], vI v25)] H56 rfl rfl rfl rfl (o_app2 (T := tyDeclared) (zv := vG [vN, vO, vN, vF, vU 0, vF, vI 0, vI 0, vI 0, vI 0, vI 0]) (g1 := g24) (g2 := g53) (l1 := v23) (l2 := ([(TDeclared.mk (TLong.mk ((gi l_ v25).Long.Name) y42 ((gi l_ v25).Long.Whole)) ((gi l_ v25).Important) ((gi l_ v25).Origin) ((gi l_ v25).Attached) ((gi l_ v25).Layer) ((gi l_ v25).Weight) ((gi l_ v25).Order))] : List TDeclared)) q58 hq58.symm H56 hd rfl rfl rfl rfl rfl rfl rfl (by kernel_rfl) (by kernel_rfl) rfl rfl ho57) (fun _ => rfl) fun _ _ v H60 hq => ?_
    clear H56 hd
    obtain ⟨g61, rfl, hq⟩ := hq
    replace hS : SH M X w [eO 35 tyDeclared q58 g61, eO 35 tyDeclared ([(TDeclared.mk (TLong.mk ((gi l_ v25).Long.Name) y42 ((gi l_ v25).Long.Whole)) ((gi l_ v25).Important) ((gi l_ v25).Origin) ((gi l_ v25).Attached) ((gi l_ v25).Layer) ((gi l_ v25).Weight) ((gi l_ v25).Order))] : List TDeclared) g53, eI tyValue y42 g43, eB b32 [vS (gi l_ v25).Long.Name, vL g43 y42, vS (gi l_ v25).Long.Whole, vB ((gi l_ v25).Important), vU ((gi l_ v25).Origin), vB ((gi l_ v25).Attached), vI ((gi l_ v25).Layer), vI ((gi l_ v25).Weight.e0), vI ((gi l_ v25).Weight.e1), vI ((gi l_ v25).Weight.e2), vI ((gi l_ v25).Order)], eI tyDeclared l_ g_l_, gE0] _ := hS.join [3, 0] [1, 2, 4, 5] rfl rfl hq
    clear hq
    refine wl_batch 4 5 [] [1, 7, 21, 22, 23] [(1, [], vU origin), (7, [], vL g61 q58), (21, [], vL g_l_ l_), (22, [], vI (ln l_)), (23, [], vI v25)] [] H60 (by decide) (by kernel_rfl) trivial fun _ _ H63 hb => ?_
    replace hS := hS.below hb
    clear H60 hb
    refine wl_end rfl ?_
    replace hS : SH M X w [eO 35 tyDeclared q58 g61, eI tyDeclared l_ g_l_, gE0] _ := hS.sel [0, 4, 5] rfl
    obtain rfl := someE hm
    exact ⟨g61, FrG.keep (ks := [1, 21, 22, 23, 7]) H63 (by kernel_rfl), hS⟩
   ·rintro _ _ ⟨g65, H, hS⟩
    refine w_reg [] [1, 7, 21, 22, 23] [(1, [], vU origin), (7, [], vL g65 z28), (21, [], vL g_l_ l_), (22, [], vI (ln l_)), (23, [], vI (w64 (v25 + 1)))] [] H (by kernel_rfl) trivial fun _ _ H67 hb => ?_
    replace hS := hS.below hb
    clear H hb
    exact ⟨_, Nat.lt_succ_self _, z28, w64 (v25 + 1), g65, hm, FrG.keep (ks := [1, 21, 22, 7, 23]) H67 (by kernel_rfl), hS⟩
 ·rintro _ _ ⟨g71, H, hS⟩
  replace hS : SH M X w [eO 35 tyDeclared z19 g71, gE0] _ := hS.sel [0, 2] rfl
  refine s_reg [] [4, 5] [(4, [], vL g71 z19), (5, [], vI 0)] [] H (by kernel_rfl) trivial fun _ _ H74 hb => ?_
  replace hS := hS.below hb
  clear H hb
  refine w_ret ?_
  obtain rfl := someE hm
  exact retR2 H74 rfl rfl rfl ⟨_, rfl, g71, rfl, (hS.sel [0] rfl)⟩
theorem wide_Lesser_ok {g_l_ : Gh} (m : Nat) (l_ : List TDeclared) (origin : Int) (r : (List TDeclared) × Int) (hm : wide_Lesser m l_ origin = some r) (M : Av) (w : World) (hS : S0 M [eI tyDeclared l_ g_l_, gE0] w) : DoesX Tryz.prog 15 ⟨[vL g_l_ l_, vU origin]⟩ w (fun v w' => ∃ (g901 : Gh), v = vW [vL g901 r.1, vI r.2] ∧ SH M (fpl [eI tyDeclared l_ g_l_, gE0]) w [eO 35 tyDeclared r.1 g901] w') := ⟨Tryz.call15 _, wide_Lesser_w M m   l_ origin r hm w hS⟩

def r04_Same_S (rec_ : (List TValue) → (List TValue) → Option (Bool)) : Prop := ∀ (g_a_ : Gh) (g_b_ : Gh) (M : Av) (a_ : List TValue) (b_ : List TValue) (r : Bool), rec_ a_ b_ = some r → ∀ w, S0 M [eI tyValue a_ g_a_, eI tyValue b_ g_b_] w → Calls Tryz.prog 49 ⟨[vL g_a_ a_, vL g_b_ b_]⟩ w (fun e w' => ∃ v, e = .returned v ∧ v = vB r ∧ SH M (fpl [eI tyValue a_ g_a_, eI tyValue b_ g_b_]) w [] w')
theorem r04_Same_w (m : Nat) : ∀ (k : Nat), r04_Same_S (r04_Same_r m  k) := by
 intro k
 induction k with
 | zero => intro g_a_ g_b_ M a_ b_ r hm; exact noneE hm
 | succ k ih =>
  intro g_a_ g_b_ M a_ b_ r hm w hS
  rw [r04_Same_r] at hm
  have hS0 : SH M (fpl [eI tyValue a_ g_a_, eI tyValue b_ g_b_]) w [eI tyValue a_ g_a_, eI tyValue b_ g_b_] w := hS
  generalize hX : fpl [eI tyValue a_ g_a_, eI tyValue b_ g_b_] = X at hS0 ⊢
  clear hS hX
  have hS := hS0
  clear hS0
  refine calls_entryP Tryz.func49 rfl Tryz.ntmps49 rfl fun _ H => ?_
  refine s_reg [] [0, 1] [(0, [], vL g_a_ a_), (1, [], vL g_b_ b_)] [] H (by kernel_rfl) trivial fun _ _ H2 hb => ?_
  replace hS := hS.below hb
  clear H hb
  refine w_seq ?_
  refine s_reg [] [0, 1, 10] [(0, [], vL g_a_ a_), (1, [], vL g_b_ b_), (10, [], vB ((ln a_) != (ln b_)))] [] H2 (by kernel_rfl) trivial fun _ _ H4 hb => ?_
  replace hS := hS.below hb
  clear H2 hb
  refine w_if H4 rfl (fun hc => ?c29) (fun hc => ?_)
  case c29 =>
   replace hm := bT hc hm
   refine s_reg [] [4] [(4, [], vF)] [] H4 (by kernel_rfl) trivial fun _ _ H6 hb => ?_
   replace hS := hS.below hb
   clear H4 hb
   replace hS : SH M X w [] _ := hS.sel [] rfl
   refine w_ret ?_
   obtain rfl := someE hm
   exact retR1 H6 rfl rfl ⟨_, rfl, rfl, (hS.sel [] rfl)⟩
  replace hm := bF hc hm
  refine w_skip ?_
  obtain ⟨z7, hz, hm_z7⟩ := bindE hm
  refine w_cut (fun a' w' => ∃ s_z7 : Unit, z7 = Sum.inr s_z7 ∧ Fr 42 [] a' ∧ SH M X w [eI tyValue a_ g_a_, eI tyValue b_ g_b_] w') ?_ ?_
  ·replace hm := hz
   refine s_reg [] [0, 1, 5] [(0, [], vL g_a_ a_), (1, [], vL g_b_ b_), (5, [], vI 0)] [] H4 (by kernel_rfl) trivial fun _ _ H9 hb => ?_
   replace hS := hS.below hb
   clear H4 hb
   refine w_block ?_
   refine w_loop (fun kk a' w' => ∃ (v10 : Int), r04_Same_L1 m a_ b_ (r04_Same_r m k) kk v10 = some _ ∧ Fr 42 [(0, [], vL g_a_ a_), (1, [], vL g_b_ b_), (5, [], vI v10)] a' ∧ SH M X w [eI tyValue a_ g_a_, eI tyValue b_ g_b_] w') ⟨_, 0, hm, FrG.keep (ks := [0, 1, 5]) H9 (by kernel_rfl), hS⟩ ?_
   clear hm H9 hS
   rintro kk _ _ ⟨v10, hm, H, hS⟩
   cases kk with
   | zero => exact noneE hm
   | succ kk =>
    rw [r04_Same_L1] at hm
    refine w_seq ?_
    refine s_reg [] [0, 1, 5, 14] [(0, [], vL g_a_ a_), (1, [], vL g_b_ b_), (5, [], vI v10), (14, [], vB (decide (v10 < (ln a_))))] [] H (by kernel_rfl) trivial fun _ _ H12 hb => ?_
    replace hS := hS.below hb
    clear H hb
    refine w_if H12 rfl (fun hc => ?_) (fun hc => ?c24)
    case c24 =>
     replace hm := bF hc hm
     refine w_exit rfl ?_
     obtain rfl := someE hm
     exact ⟨_, rfl, FrG.keep (ks := []) H12 (by kernel_rfl), hS⟩
    replace hm := bT hc hm
    refine w_skip ?_
    refine w_seq ?_
    refine w_block ?_
    obtain ⟨ho13, hm⟩ := chkE hm
    obtain ⟨ho14, hm⟩ := chkE hm
    obtain ⟨x15, hx15, hm⟩ := letE hm
    obtain ⟨y16, hy16, hm⟩ := bindE hm
    refine s_draw [(vG [vU ((gi a_ v10).Token.Kind), vS (gi a_ v10).Token.Text, vI ((gi a_ v10).Token.Num), vS (gi a_ v10).Token.Unit, vB ((gi a_ v10).Token.Flag)]), (vG [vU ((gi b_ v10).Token.Kind), vS (gi b_ v10).Token.Text, vI ((gi b_ v10).Token.Num), vS (gi b_ v10).Token.Unit, vB ((gi b_ v10).Token.Flag)]), (.slice (g_a_.s (v10).toNat 0).a (((gi a_ v10).List_).length) (g_a_.s (v10).toNat 0).c), (.slice (g_b_.s (v10).toNat 0).a (((gi b_ v10).List_).length) (g_b_.s (v10).toNat 0).c), (vB y16)] [0, 1, 5, 41] [(0, [], vL g_a_ a_), (1, [], vL g_b_ b_), (5, [], vI v10), (41, [], vB (cond x15 true (!y16)))] [fun _ => oka g_a_.a ∧ 0 ≤ v10 ∧ v10 < ln a_, fun wz => V.atN (ab g_a_.a) (ao g_a_.a + (v10).toNat * 6) [vU ((gi a_ v10).Token.Kind), vS (gi a_ v10).Token.Text, vI ((gi a_ v10).Token.Num), vS (gi a_ v10).Token.Unit, vB ((gi a_ v10).Token.Flag)] 0 wz, fun _ => oka g_b_.a ∧ 0 ≤ v10 ∧ v10 < ln b_, fun wz => V.atN (ab g_b_.a) (ao g_b_.a + (v10).toNat * 6) [vU ((gi b_ v10).Token.Kind), vS (gi b_ v10).Token.Text, vI ((gi b_ v10).Token.Num), vS (gi b_ v10).Token.Unit, vB ((gi b_ v10).Token.Flag)] 0 wz, fun _ => (x15 = false ∧ True → oka g_a_.a ∧ 0 ≤ v10 ∧ v10 < ln a_), fun wz => (x15 = false ∧ True → V.at1 ⟨ab g_a_.a, ao g_a_.a + (v10).toNat * 6 + 5, none⟩ (.slice (g_a_.s (v10).toNat 0).a (((gi a_ v10).List_).length) (g_a_.s (v10).toNat 0).c) wz), fun _ => (x15 = false ∧ True → oka g_b_.a ∧ 0 ≤ v10 ∧ v10 < ln b_), fun wz => (x15 = false ∧ True → V.at1 ⟨ab g_b_.a, ao g_b_.a + (v10).toNat * 6 + 5, none⟩ (.slice (g_b_.s (v10).toNat 0).a (((gi b_ v10).List_).length) (g_b_.s (v10).toNat 0).c) wz), fun wz => (x15 = false ∧ True → RetB Tryz.prog 49 ⟨[.slice (g_a_.s (v10).toNat 0).a (((gi a_ v10).List_).length) (g_a_.s (v10).toNat 0).c, .slice (g_b_.s (v10).toNat 0).a (((gi b_ v10).List_).length) (g_b_.s (v10).toNat 0).c]⟩ (vB y16) wz)] H12 (by kernel_rfl) (by kernel_rfl) (by subst hx15; kernel_rfl) ⟨((hS.im 0 rfl).oki ho13), ((hS.im 0 rfl).atA ho13 0 rfl), ((hS.im 1 rfl).oki ho14), ((hS.im 1 rfl).atA ho14 0 rfl), fun hg => (hS.im 0 rfl).oki ho13, fun hg => (hS.im 0 rfl).at1 ho13 5 rfl, fun hg => (hS.im 1 rfl).oki ho14, fun hg => (hS.im 1 rfl).at1 ho14 5 rfl, fun hg => retB_of (s0im (s0im s0nil (tyValue_i0 ((hS.im 1 rfl).el ho14))) (tyValue_i0 ((hS.im 0 rfl).el ho13))) (Tryz.call49 _) (fun w' h' => ih ((g_a_.s (v10).toNat 0)) ((g_b_.s (v10).toNat 0)) F0 _ _ _ (bF (hg.1) hy16) w' h'), trivial⟩ fun _ _ H18 hb => ?_
    replace hS := hS.below hb
    clear H12 hb
    refine w_if H18 rfl (fun hc => ?_) (fun hc => ?c23)
    case c23 =>
     replace hm := bF hc hm
     refine w_skip ?_
     refine w_reg [] [0, 1, 5] [(0, [], vL g_a_ a_), (1, [], vL g_b_ b_), (5, [], vI (w64 (v10 + 1)))] [] H18 (by kernel_rfl) trivial fun _ _ H22 hb => ?_
     replace hS := hS.below hb
     clear H18 hb
     exact ⟨_, Nat.lt_succ_self _, w64 (v10 + 1), hm, FrG.keep (ks := [0, 1, 5]) H22 (by kernel_rfl), hS⟩
    replace hm := bT hc hm
    refine s_reg [] [4] [(4, [], vF)] [] H18 (by kernel_rfl) trivial fun _ _ H20 hb => ?_
    replace hS := hS.below hb
    clear H18 hb
    refine w_ret ?_
    obtain rfl := someE hm
    have hm := hm_z7
    obtain rfl := someE hm
    exact retR1 H20 rfl rfl ⟨_, rfl, rfl, (hS.sel [] rfl)⟩
  ·rintro _ _ ⟨s_z7, hz, H, hS⟩
   subst hz
   replace hm := sumR hm_z7
   replace hS : SH M X w [] _ := hS.sel [] rfl
   refine s_reg [] [4] [(4, [], vT)] [] H (by kernel_rfl) trivial fun _ _ H27 hb => ?_
   replace hS := hS.below hb
   clear H hb
   refine w_ret ?_
   obtain rfl := someE hm
   exact retR1 H27 rfl rfl ⟨_, rfl, rfl, (hS.sel [] rfl)⟩
theorem r04_Same_ok {g_a_ : Gh} {g_b_ : Gh} (m : Nat) (a_ : List TValue) (b_ : List TValue) (r : Bool) (hm : r04_Same m a_ b_ = some r) (w : World) (hL : S0 F0 [eI tyValue a_ g_a_, eI tyValue b_ g_b_] w ∧ fpl [eI tyValue a_ g_a_, eI tyValue b_ g_b_] = []) : RetB Tryz.prog 49 ⟨[vL g_a_ a_, vL g_b_ b_]⟩ (vB r) w := retB_of hL (Tryz.call49 _) (fun w' h => r04_Same_w m   m g_a_ g_b_ F0 a_ b_ r hm w' h)

theorem r27_SameLongs_w {g_a_ : Gh} {g_b_ : Gh} (M : Av) (m : Nat) (a_ : List TLong) (b_ : List TLong) (r : Bool) (hm : r27_SameLongs m a_ b_ = some r) (w : World) (hS : S0 M [eI tyLong a_ g_a_, eI tyLong b_ g_b_] w) : Calls Tryz.prog 27 ⟨[vL g_a_ a_, vL g_b_ b_]⟩ w (fun e w' => ∃ v, e = .returned v ∧ v = vB r ∧ SH M (fpl [eI tyLong a_ g_a_, eI tyLong b_ g_b_]) w [] w') := by
 rw [r27_SameLongs] at hm
 have hS0 : SH M (fpl [eI tyLong a_ g_a_, eI tyLong b_ g_b_]) w [eI tyLong a_ g_a_, eI tyLong b_ g_b_] w := hS
 generalize hX : fpl [eI tyLong a_ g_a_, eI tyLong b_ g_b_] = X at hS0 ⊢
 clear hS hX
 have hS := hS0
 clear hS0
 refine calls_entryP Tryz.func27 rfl Tryz.ntmps27 rfl fun _ H => ?_
 refine s_reg [] [0, 1] [(0, [], vL g_a_ a_), (1, [], vL g_b_ b_)] [] H (by kernel_rfl) trivial fun _ _ H2 hb => ?_
 replace hS := hS.below hb
 clear H hb
 refine w_seq ?_
 refine s_reg [] [0, 1, 10] [(0, [], vL g_a_ a_), (1, [], vL g_b_ b_), (10, [], vB ((ln a_) != (ln b_)))] [] H2 (by kernel_rfl) trivial fun _ _ H4 hb => ?_
 replace hS := hS.below hb
 clear H2 hb
 refine w_if H4 rfl (fun hc => ?c30) (fun hc => ?_)
 case c30 =>
  replace hm := bT hc hm
  refine s_reg [] [4] [(4, [], vF)] [] H4 (by kernel_rfl) trivial fun _ _ H6 hb => ?_
  replace hS := hS.below hb
  clear H4 hb
  replace hS : SH M X w [] _ := hS.sel [] rfl
  refine w_ret ?_
  obtain rfl := someE hm
  exact retR1 H6 rfl rfl ⟨_, rfl, rfl, (hS.sel [] rfl)⟩
 replace hm := bF hc hm
 refine w_skip ?_
 obtain ⟨z7, hz, hm_z7⟩ := bindE hm
 refine w_cut (fun a' w' => ∃ s_z7 : Unit, z7 = Sum.inr s_z7 ∧ Fr 55 [] a' ∧ SH M X w [eI tyLong a_ g_a_, eI tyLong b_ g_b_] w') ?_ ?_
 ·replace hm := hz
  refine s_reg [] [0, 1, 5] [(0, [], vL g_a_ a_), (1, [], vL g_b_ b_), (5, [], vI 0)] [] H4 (by kernel_rfl) trivial fun _ _ H9 hb => ?_
  replace hS := hS.below hb
  clear H4 hb
  refine w_block ?_
  refine w_loop (fun kk a' w' => ∃ (v10 : Int), r27_SameLongs_L1 m a_ b_ kk v10 = some _ ∧ Fr 55 [(0, [], vL g_a_ a_), (1, [], vL g_b_ b_), (5, [], vI v10)] a' ∧ SH M X w [eI tyLong a_ g_a_, eI tyLong b_ g_b_] w') ⟨_, 0, hm, FrG.keep (ks := [0, 1, 5]) H9 (by kernel_rfl), hS⟩ ?_
  clear hm H9 hS
  rintro kk _ _ ⟨v10, hm, H, hS⟩
  cases kk with
  | zero => exact noneE hm
  | succ kk =>
   rw [r27_SameLongs_L1] at hm
   refine w_seq ?_
   refine s_reg [] [0, 1, 5, 14] [(0, [], vL g_a_ a_), (1, [], vL g_b_ b_), (5, [], vI v10), (14, [], vB (decide (v10 < (ln a_))))] [] H (by kernel_rfl) trivial fun _ _ H12 hb => ?_
   replace hS := hS.below hb
   clear H hb
   refine w_if H12 rfl (fun hc => ?_) (fun hc => ?c25)
   case c25 =>
    replace hm := bF hc hm
    refine w_exit rfl ?_
    obtain rfl := someE hm
    exact ⟨_, rfl, FrG.keep (ks := []) H12 (by kernel_rfl), hS⟩
   replace hm := bT hc hm
   refine w_skip ?_
   refine w_seq ?_
   refine w_block ?_
   obtain ⟨ho13, hm⟩ := chkE hm
   obtain ⟨ho14, hm⟩ := chkE hm
   obtain ⟨x15, hx15, hm⟩ := letE hm
   obtain ⟨x16, hx16, hm⟩ := letE hm
   obtain ⟨y17, hy17, hm⟩ := bindE hm
   refine s_draw [(vS (gi a_ v10).Name), (vS (gi b_ v10).Name), (vS (gi a_ v10).Whole), (vS (gi b_ v10).Whole), (.slice (g_a_.s (v10).toNat 0).a (((gi a_ v10).Value).length) (g_a_.s (v10).toNat 0).c), (.slice (g_b_.s (v10).toNat 0).a (((gi b_ v10).Value).length) (g_b_.s (v10).toNat 0).c), (vB y17)] [0, 1, 5, 54] [(0, [], vL g_a_ a_), (1, [], vL g_b_ b_), (5, [], vI v10), (54, [], vB (cond x16 true (!y17)))] [fun _ => oka g_a_.a ∧ 0 ≤ v10 ∧ v10 < ln a_, fun wz => V.at1 ⟨ab g_a_.a, ao g_a_.a + (v10).toNat * 3, none⟩ (vS (gi a_ v10).Name) wz, fun _ => oka g_b_.a ∧ 0 ≤ v10 ∧ v10 < ln b_, fun wz => V.at1 ⟨ab g_b_.a, ao g_b_.a + (v10).toNat * 3, none⟩ (vS (gi b_ v10).Name) wz, fun _ => (x15 = false ∧ True → oka g_a_.a ∧ 0 ≤ v10 ∧ v10 < ln a_), fun wz => (x15 = false ∧ True → V.at1 ⟨ab g_a_.a, ao g_a_.a + (v10).toNat * 3 + 2, none⟩ (vS (gi a_ v10).Whole) wz), fun _ => (x15 = false ∧ True → oka g_b_.a ∧ 0 ≤ v10 ∧ v10 < ln b_), fun wz => (x15 = false ∧ True → V.at1 ⟨ab g_b_.a, ao g_b_.a + (v10).toNat * 3 + 2, none⟩ (vS (gi b_ v10).Whole) wz), fun _ => (x16 = false ∧ True → oka g_a_.a ∧ 0 ≤ v10 ∧ v10 < ln a_), fun wz => (x16 = false ∧ True → V.at1 ⟨ab g_a_.a, ao g_a_.a + (v10).toNat * 3 + 1, none⟩ (.slice (g_a_.s (v10).toNat 0).a (((gi a_ v10).Value).length) (g_a_.s (v10).toNat 0).c) wz), fun _ => (x16 = false ∧ True → oka g_b_.a ∧ 0 ≤ v10 ∧ v10 < ln b_), fun wz => (x16 = false ∧ True → V.at1 ⟨ab g_b_.a, ao g_b_.a + (v10).toNat * 3 + 1, none⟩ (.slice (g_b_.s (v10).toNat 0).a (((gi b_ v10).Value).length) (g_b_.s (v10).toNat 0).c) wz), fun wz => (x16 = false ∧ True → RetB Tryz.prog 49 ⟨[.slice (g_a_.s (v10).toNat 0).a (((gi a_ v10).Value).length) (g_a_.s (v10).toNat 0).c, .slice (g_b_.s (v10).toNat 0).a (((gi b_ v10).Value).length) (g_b_.s (v10).toNat 0).c]⟩ (vB y17) wz)] H12 (by kernel_rfl) (by kernel_rfl) (by subst hx15 hx16; kernel_rfl) ⟨((hS.im 0 rfl).oki ho13), ((hS.im 0 rfl).at1 ho13 0 rfl), ((hS.im 1 rfl).oki ho14), ((hS.im 1 rfl).at1 ho14 0 rfl), fun hg => (hS.im 0 rfl).oki ho13, fun hg => (hS.im 0 rfl).at1 ho13 2 rfl, fun hg => (hS.im 1 rfl).oki ho14, fun hg => (hS.im 1 rfl).at1 ho14 2 rfl, fun hg => (hS.im 0 rfl).oki ho13, fun hg => (hS.im 0 rfl).at1 ho13 1 rfl, fun hg => (hS.im 1 rfl).oki ho14, fun hg => (hS.im 1 rfl).at1 ho14 1 rfl, fun hg => r04_Same_ok (g_a_ := (g_a_.s (v10).toNat 0)) (g_b_ := (g_b_.s (v10).toNat 0)) m _ _ _ (bF (hg.1) hy17) _ (s0im (s0im s0nil (tyLong_i0 ((hS.im 1 rfl).el ho14))) (tyLong_i0 ((hS.im 0 rfl).el ho13))), trivial⟩ fun _ _ H19 hb => ?_
   replace hS := hS.below hb
   clear H12 hb
   refine w_if H19 rfl (fun hc => ?_) (fun hc => ?c24)
   case c24 =>
    replace hm := bF hc hm
    refine w_skip ?_
    refine w_reg [] [0, 1, 5] [(0, [], vL g_a_ a_), (1, [], vL g_b_ b_), (5, [], vI (w64 (v10 + 1)))] [] H19 (by kernel_rfl) trivial fun _ _ H23 hb => ?_
    replace hS := hS.below hb
    clear H19 hb
    exact ⟨_, Nat.lt_succ_self _, w64 (v10 + 1), hm, FrG.keep (ks := [0, 1, 5]) H23 (by kernel_rfl), hS⟩
   replace hm := bT hc hm
   refine s_reg [] [4] [(4, [], vF)] [] H19 (by kernel_rfl) trivial fun _ _ H21 hb => ?_
   replace hS := hS.below hb
   clear H19 hb
   refine w_ret ?_
   obtain rfl := someE hm
   have hm := hm_z7
   obtain rfl := someE hm
   exact retR1 H21 rfl rfl ⟨_, rfl, rfl, (hS.sel [] rfl)⟩
 ·rintro _ _ ⟨s_z7, hz, H, hS⟩
  subst hz
  replace hm := sumR hm_z7
  replace hS : SH M X w [] _ := hS.sel [] rfl
  refine s_reg [] [4] [(4, [], vT)] [] H (by kernel_rfl) trivial fun _ _ H28 hb => ?_
  replace hS := hS.below hb
  clear H hb
  refine w_ret ?_
  obtain rfl := someE hm
  exact retR1 H28 rfl rfl ⟨_, rfl, rfl, (hS.sel [] rfl)⟩
theorem r27_SameLongs_ok {g_a_ : Gh} {g_b_ : Gh} (m : Nat) (a_ : List TLong) (b_ : List TLong) (r : Bool) (hm : r27_SameLongs m a_ b_ = some r) (w : World) (hL : S0 F0 [eI tyLong a_ g_a_, eI tyLong b_ g_b_] w ∧ fpl [eI tyLong a_ g_a_, eI tyLong b_ g_b_] = []) : RetB Tryz.prog 27 ⟨[vL g_a_ a_, vL g_b_ b_]⟩ (vB r) w := retB_of hL (Tryz.call27 _) (fun w' h => r27_SameLongs_w F0 m   a_ b_ r hm w' h)

theorem r29_SameOne_w {g_a__0 : Gh} {g_b__0 : Gh} (M : Av) (m : Nat) (a_ : TDeclared) (b_ : TDeclared) (r : Bool) (hm : r29_SameOne m a_ b_ = some r) (w : World) (hS : S0 M [eI tyValue a_.Long.Value g_a__0, eI tyValue b_.Long.Value g_b__0] w) : Calls Tryz.prog 10 ⟨[vG [vS a_.Long.Name, vL g_a__0 a_.Long.Value, vS a_.Long.Whole, vB a_.Important, vU a_.Origin, vB a_.Attached, vI a_.Layer, vI a_.Weight.e0, vI a_.Weight.e1, vI a_.Weight.e2, vI a_.Order], vG [vS b_.Long.Name, vL g_b__0 b_.Long.Value, vS b_.Long.Whole, vB b_.Important, vU b_.Origin, vB b_.Attached, vI b_.Layer, vI b_.Weight.e0, vI b_.Weight.e1, vI b_.Weight.e2, vI b_.Order]]⟩ w (fun e w' => ∃ v, e = .returned v ∧ v = vB r ∧ SH M (fpl [eI tyValue a_.Long.Value g_a__0, eI tyValue b_.Long.Value g_b__0]) w [] w') := by
 rw [r29_SameOne] at hm
 have hS0 : SH M (fpl [eI tyValue a_.Long.Value g_a__0, eI tyValue b_.Long.Value g_b__0]) w [eI tyValue a_.Long.Value g_a__0, eI tyValue b_.Long.Value g_b__0] w := hS
 generalize hX : fpl [eI tyValue a_.Long.Value g_a__0, eI tyValue b_.Long.Value g_b__0] = X at hS0 ⊢
 clear hS hX
 have hS := hS0
 clear hS0
 refine calls_entryP Tryz.func10 rfl Tryz.ntmps10 rfl fun _ H => ?_
 refine w_seq ?_
 refine wl_start ?_
 have hd := hS.hand [] [0, 1] rfl rfl
 refine m_stp [2, 1] [(1, [], vG [vS b_.Long.Name, vL g_b__0 b_.Long.Value, vS b_.Long.Whole, vB b_.Important, vU b_.Origin, vB b_.Attached, vI b_.Layer, vI b_.Weight.e0, vI b_.Weight.e1, vI b_.Weight.e2, vI b_.Order])] H rfl rfl rfl rfl (o_box [vS a_.Long.Name, vL g_a__0 a_.Long.Value, vS a_.Long.Whole, vB a_.Important, vU a_.Origin, vB a_.Attached, vI a_.Layer, vI a_.Weight.e0, vI a_.Weight.e1, vI a_.Weight.e2, vI a_.Order] H hd rfl rfl) (fun _ => rfl) fun _ _ v H3 hq => ?_
 clear H hd
 obtain ⟨b1, rfl, hq⟩ := hq
 replace hS : SH M X w [eB b1 [vS a_.Long.Name, vL g_a__0 a_.Long.Value, vS a_.Long.Whole, vB a_.Important, vU a_.Origin, vB a_.Attached, vI a_.Layer, vI a_.Weight.e0, vI a_.Weight.e1, vI a_.Weight.e2, vI a_.Order], eI tyValue a_.Long.Value g_a__0, eI tyValue b_.Long.Value g_b__0] _ := hS.join [] [0, 1] rfl rfl hq
 clear hq
 have hd := hS.hand [] [0, 1, 2] rfl rfl
 refine m_stp [3, 2] [(2, [], vP b1)] H3 rfl rfl rfl rfl (o_box [vS b_.Long.Name, vL g_b__0 b_.Long.Value, vS b_.Long.Whole, vB b_.Important, vU b_.Origin, vB b_.Attached, vI b_.Layer, vI b_.Weight.e0, vI b_.Weight.e1, vI b_.Weight.e2, vI b_.Order] H3 hd rfl rfl) (fun _ => rfl) fun _ _ v H6 hq => ?_
 clear H3 hd
 obtain ⟨b4, rfl, hq⟩ := hq
 replace hS : SH M X w [eB b4 [vS b_.Long.Name, vL g_b__0 b_.Long.Value, vS b_.Long.Whole, vB b_.Important, vU b_.Origin, vB b_.Attached, vI b_.Layer, vI b_.Weight.e0, vI b_.Weight.e1, vI b_.Weight.e2, vI b_.Order], eB b1 [vS a_.Long.Name, vL g_a__0 a_.Long.Value, vS a_.Long.Whole, vB a_.Important, vU a_.Origin, vB a_.Attached, vI a_.Layer, vI a_.Weight.e0, vI a_.Weight.e1, vI a_.Weight.e2, vI a_.Order], eI tyValue a_.Long.Value g_a__0, eI tyValue b_.Long.Value g_b__0] _ := hS.join [] [0, 1, 2] rfl rfl hq
 clear hq
 refine wl_batch 2 3 [] [2, 3] [(2, [], vP b1), (3, [], vP b4)] [] H6 (by decide) (by kernel_rfl) trivial fun _ _ H8 hb => ?_
 replace hS := hS.below hb
 clear H6 hb
 refine wl_end rfl ?_
 refine w_seq ?_
 refine wl_start ?_
 refine wl_batch 0 2 [(vG [vS a_.Long.Name, vL g_a__0 a_.Long.Value, vS a_.Long.Whole])] [2, 3, 6] [(2, [], vP b1), (3, [], vP b4), (6, [], vG [vS a_.Long.Name, vL g_a__0 a_.Long.Value, vS a_.Long.Whole])] [rN b1 0 [vS a_.Long.Name, vL g_a__0 a_.Long.Value, vS a_.Long.Whole]] H8 (by decide) (by kernel_rfl) ⟨((hS.bk 1 rfl).atD rfl), trivial⟩ fun _ _ H10 hb => ?_
 replace hS := hS.below hb
 clear H8 hb
 have hd := hS.hand [2] [0, 1, 2, 3] rfl rfl
 refine m_stp [7, 2, 3] [(2, [], vP b1), (3, [], vP b4)] H10 rfl rfl rfl rfl (o_lit (T := tyLong) (E := 31) (zv := vG [vN, vO, vN]) [vS a_.Long.Name, vL g_a__0 a_.Long.Value, vS a_.Long.Whole] ([a_.Long] : List TLong) [gL [g_a__0]] _ H10 hd rfl (by kernel_rfl) (by kernel_rfl) (by kernel_rfl) (by kernel_rfl) (by kernel_rfl) (by kernel_rfl) (by kernel_rfl) rfl (InnL.cons (tyLong_mk (hd.im 0 rfl)) InnL.nil)) (fun _ => rfl) fun _ _ v H14 hq => ?_
 clear H10 hd
 obtain ⟨g11, rfl, hq⟩ := hq
 replace hS : SH M X w [eO 31 tyLong ([a_.Long] : List TLong) g11, eB b4 [vS b_.Long.Name, vL g_b__0 b_.Long.Value, vS b_.Long.Whole, vB b_.Important, vU b_.Origin, vB b_.Attached, vI b_.Layer, vI b_.Weight.e0, vI b_.Weight.e1, vI b_.Weight.e2, vI b_.Order], eB b1 [vS a_.Long.Name, vL g_a__0 a_.Long.Value, vS a_.Long.Whole, vB a_.Important, vU a_.Origin, vB a_.Attached, vI a_.Layer, vI a_.Weight.e0, vI a_.Weight.e1, vI a_.Weight.e2, vI a_.Order], eI tyValue a_.Long.Value g_a__0, eI tyValue b_.Long.Value g_b__0] _ := hS.join [2] [0, 1, 2, 3] rfl rfl hq
 clear hq
 refine wl_batch 3 5 [(vG [vS b_.Long.Name, vL g_b__0 b_.Long.Value, vS b_.Long.Whole])] [2, 3, 7, 9] [(2, [], vP b1), (3, [], vP b4), (7, [], .slice g11.a 1 g11.c), (9, [], vG [vS b_.Long.Name, vL g_b__0 b_.Long.Value, vS b_.Long.Whole])] [rN b4 0 [vS b_.Long.Name, vL g_b__0 b_.Long.Value, vS b_.Long.Whole]] H14 (by decide) (by kernel_rfl) ⟨((hS.bk 1 rfl).atD rfl), trivial⟩ fun _ _ H16 hb => ?_
 replace hS := hS.below hb
 clear H14 hb
 have hd := hS.hand [4] [0, 1, 2, 3, 4] rfl rfl
 refine m_stp [10, 2, 3, 7] [(2, [], vP b1), (3, [], vP b4), (7, [], .slice g11.a 1 g11.c)] H16 rfl rfl rfl rfl (o_lit (T := tyLong) (E := 31) (zv := vG [vN, vO, vN]) [vS b_.Long.Name, vL g_b__0 b_.Long.Value, vS b_.Long.Whole] ([b_.Long] : List TLong) [gL [g_b__0]] _ H16 hd rfl (by kernel_rfl) (by kernel_rfl) (by kernel_rfl) (by kernel_rfl) (by kernel_rfl) (by kernel_rfl) (by kernel_rfl) rfl (InnL.cons (tyLong_mk (hd.im 0 rfl)) InnL.nil)) (fun _ => rfl) fun _ _ v H20 hq => ?_
 clear H16 hd
 obtain ⟨g17, rfl, hq⟩ := hq
 replace hS : SH M X w [eO 31 tyLong ([b_.Long] : List TLong) g17, eO 31 tyLong ([a_.Long] : List TLong) g11, eB b4 [vS b_.Long.Name, vL g_b__0 b_.Long.Value, vS b_.Long.Whole, vB b_.Important, vU b_.Origin, vB b_.Attached, vI b_.Layer, vI b_.Weight.e0, vI b_.Weight.e1, vI b_.Weight.e2, vI b_.Order], eB b1 [vS a_.Long.Name, vL g_a__0 a_.Long.Value, vS a_.Long.Whole, vB a_.Important, vU a_.Origin, vB a_.Attached, vI a_.Layer, vI a_.Weight.e0, vI a_.Weight.e1, vI a_.Weight.e2, vI a_.Order], eI tyValue a_.Long.Value g_a__0, eI tyValue b_.Long.Value g_b__0] _ := hS.join [4] [0, 1, 2, 3, 4] rfl rfl hq
 clear hq
 obtain ⟨y21, hy21, hm⟩ := bindE hm
 obtain ⟨x22, hx22, hm⟩ := letE hm
 obtain ⟨x23, hx23, hm⟩ := letE hm
 obtain ⟨x24, hx24, hm⟩ := letE hm
 refine wl_batch 6 50 [(vB y21), (vB a_.Important), (vB b_.Important), (vU a_.Origin), (vU b_.Origin), (vB a_.Attached), (vB b_.Attached), (vI a_.Layer), (vI b_.Layer), (vG [vI a_.Weight.e0, vI a_.Weight.e1, vI a_.Weight.e2]), (vG [vI b_.Weight.e0, vI b_.Weight.e1, vI b_.Weight.e2]), (vI a_.Order), (vI b_.Order)] [4] [(4, [], vB (cond x24 (a_.Order == b_.Order) false))] [rB 27 [.slice g11.a 1 g11.c, .slice g17.a 1 g17.c] (vB y21), fun wz => (y21 = true ∧ True → V.at1 ⟨b1, 3, none⟩ (vB a_.Important) wz), fun wz => (y21 = true ∧ True → V.at1 ⟨b4, 3, none⟩ (vB b_.Important) wz), fun wz => (x22 = true ∧ True → V.at1 ⟨b1, 4, none⟩ (vU a_.Origin) wz), fun wz => (x22 = true ∧ True → V.at1 ⟨b4, 4, none⟩ (vU b_.Origin) wz), fun wz => ((cond x22 (a_.Origin == b_.Origin) false) = true ∧ True → V.at1 ⟨b1, 5, none⟩ (vB a_.Attached) wz), fun wz => ((cond x22 (a_.Origin == b_.Origin) false) = true ∧ True → V.at1 ⟨b4, 5, none⟩ (vB b_.Attached) wz), fun wz => (x23 = true ∧ True → V.at1 ⟨b1, 6, none⟩ (vI a_.Layer) wz), fun wz => (x23 = true ∧ True → V.at1 ⟨b4, 6, none⟩ (vI b_.Layer) wz), fun wz => ((cond x23 (a_.Layer == b_.Layer) false) = true ∧ True → V.atN b1 7 [vI a_.Weight.e0, vI a_.Weight.e1, vI a_.Weight.e2] 0 wz), fun wz => ((cond x23 (a_.Layer == b_.Layer) false) = true ∧ True → V.atN b4 7 [vI b_.Weight.e0, vI b_.Weight.e1, vI b_.Weight.e2] 0 wz), fun wz => (x24 = true ∧ True → V.at1 ⟨b1, 10, none⟩ (vI a_.Order) wz), fun wz => (x24 = true ∧ True → V.at1 ⟨b4, 10, none⟩ (vI b_.Order) wz)] H20 (by decide) (by subst hx22 hx23 hx24; kernel_rfl) ⟨(r27_SameLongs_ok (g_a_ := g11) (g_b_ := g17) m _ _ _ hy21 _ (s0im (s0im s0nil (hS.osl 0 rfl)) (hS.osl 1 rfl))), fun hg => (hS.bk 3 rfl).at1 rfl, fun hg => (hS.bk 2 rfl).at1 rfl, fun hg => (hS.bk 3 rfl).at1 rfl, fun hg => (hS.bk 2 rfl).at1 rfl, fun hg => (hS.bk 3 rfl).at1 rfl, fun hg => (hS.bk 2 rfl).at1 rfl, fun hg => (hS.bk 3 rfl).at1 rfl, fun hg => (hS.bk 2 rfl).at1 rfl, fun hg => (hS.bk 3 rfl).atD rfl, fun hg => (hS.bk 2 rfl).atD rfl, fun hg => (hS.bk 3 rfl).at1 rfl, fun hg => (hS.bk 2 rfl).at1 rfl, trivial⟩ fun _ _ H26 hb => ?_
 replace hS := hS.below hb
 clear H20 hb
 refine wl_end rfl ?_
 replace hS : SH M X w [] _ := hS.sel [] rfl
 refine w_ret ?_
 obtain rfl := someE hm
 exact retR1 H26 rfl rfl ⟨_, rfl, rfl, (hS.sel [] rfl)⟩
theorem r29_SameOne_ok {g_a__0 : Gh} {g_b__0 : Gh} (m : Nat) (a_ : TDeclared) (b_ : TDeclared) (r : Bool) (hm : r29_SameOne m a_ b_ = some r) (w : World) (hL : S0 F0 [eI tyValue a_.Long.Value g_a__0, eI tyValue b_.Long.Value g_b__0] w ∧ fpl [eI tyValue a_.Long.Value g_a__0, eI tyValue b_.Long.Value g_b__0] = []) : RetB Tryz.prog 10 ⟨[vG [vS a_.Long.Name, vL g_a__0 a_.Long.Value, vS a_.Long.Whole, vB a_.Important, vU a_.Origin, vB a_.Attached, vI a_.Layer, vI a_.Weight.e0, vI a_.Weight.e1, vI a_.Weight.e2, vI a_.Order], vG [vS b_.Long.Name, vL g_b__0 b_.Long.Value, vS b_.Long.Whole, vB b_.Important, vU b_.Origin, vB b_.Attached, vI b_.Layer, vI b_.Weight.e0, vI b_.Weight.e1, vI b_.Weight.e2, vI b_.Order]]⟩ (vB r) w := retB_of hL (Tryz.call10 _) (fun w' h => r29_SameOne_w F0 m   a_ b_ r hm w' h)

theorem law31_reverted_w {g_l_ : Gh} (M : Av) (m : Nat) (l_ : List TDeclared) (origin : Int) (name_ : Str) (at_ : Int) (s : Str) (r : Bool) (hm : law31_reverted m l_ origin name_ at_ s = some r) (w : World) (hS : S0 M [eI tyDeclared l_ g_l_, gE0] w) : Calls Tryz.prog 14 ⟨[vL g_l_ l_, vU origin, vS name_, vI at_, vS s]⟩ w (fun e w' => ∃ v, e = .returned v ∧ v = vB r ∧ SH M (fpl [eI tyDeclared l_ g_l_, gE0]) w [] w') := by
 rw [law31_reverted] at hm
 have hS0 : SH M (fpl [eI tyDeclared l_ g_l_, gE0]) w [eI tyDeclared l_ g_l_, gE0] w := hS
 generalize hX : fpl [eI tyDeclared l_ g_l_, gE0] = X at hS0 ⊢
 clear hS hX
 have hS := hS0
 clear hS0
 refine calls_entryP Tryz.func14 rfl Tryz.ntmps14 rfl fun _ H => ?_
 refine s_reg [] [0, 1, 2, 3, 4] [(0, [], vL g_l_ l_), (1, [], vU origin), (2, [], vS name_), (3, [], vI at_), (4, [], vS s)] [] H (by kernel_rfl) trivial fun _ _ H2 hb => ?_
 replace hS := hS.below hb
 clear H hb
 refine w_seq ?_
 refine wl_start ?_
 refine wl_batch 0 2 [] [0, 2, 3, 4, 17, 18] [(0, [], vL g_l_ l_), (2, [], vS name_), (3, [], vI at_), (4, [], vS s), (17, [], vL g_l_ l_), (18, [], vU origin)] [] H2 (by decide) (by kernel_rfl) trivial fun _ _ H4 hb => ?_
 replace hS := hS.below hb
 clear H2 hb
 obtain ⟨y5, hy5, hm⟩ := bindE hm
 have hd := hS.hand [0, 1] [0, 1] rfl rfl
 refine m_stp [19, 0, 2, 3, 4] [(0, [], vL g_l_ l_), (2, [], vS name_), (3, [], vI at_), (4, [], vS s)] H4 rfl rfl rfl rfl (o_callx H4 rfl rfl (wide_Lesser_ok (g_l_ := g_l_) m _ _ _ hy5 _ _ hd)) (fun _ => rfl) fun _ _ v H9 hq => ?_
 clear H4 hd
 obtain ⟨g6, rfl, hq⟩ := hq
 replace hS : SH M X w [eO 35 tyDeclared y5.1 g6, eI tyDeclared l_ g_l_, gE0] _ := hS.join [0, 1] [0, 1] rfl rfl hq
 clear hq
 refine wl_batch 3 8 [] [0, 2, 3, 4, 11, 12] [(0, [], vL g_l_ l_), (2, [], vS name_), (3, [], vI at_), (4, [], vS s), (11, [], vL g6 y5.1), (12, [], vI y5.2)] [] H9 (by decide) (by kernel_rfl) trivial fun _ _ H11 hb => ?_
 replace hS := hS.below hb
 clear H9 hb
 refine wl_end rfl ?_
 obtain ⟨y12, hy12, hm⟩ := bindE hm
 refine s_reg [(vW [vI y12.1, vS y12.2.1, vI y12.2.2])] [0, 3, 4, 11, 12, 13, 14, 15] [(0, [], vL g_l_ l_), (3, [], vI at_), (4, [], vS s), (11, [], vL g6 y5.1), (12, [], vI y5.2), (13, [], vI y12.1), (14, [], vS y12.2.1), (15, [], vI y12.2.2)] [rB 9 [vL g6 y5.1, vS name_] (vW [vI y12.1, vS y12.2.1, vI y12.2.2])] H11 (by kernel_rfl) ⟨(wide_Decide_ok (g_l_ := g6) m _ _ _ hy12 _ (s0im (s0im s0nil (hS.im 2 rfl)) (hS.osl 0 rfl))), trivial⟩ fun _ _ H14 hb => ?_
 replace hS := hS.below hb
 clear H11 hb
 refine w_seq ?_
 obtain ⟨x15, hx15, hm⟩ := letE hm
 refine s_reg [] [0, 3, 11, 13, 46] [(0, [], vL g_l_ l_), (3, [], vI at_), (11, [], vL g6 y5.1), (13, [], vI y12.1), (46, [], vB (cond x15 true (!(s == y12.2.1))))] [] H14 (by subst hx15; kernel_rfl) trivial fun _ _ H17 hb => ?_
 replace hS := hS.below hb
 clear H14 hb
 refine w_if H17 rfl (fun hc => ?c31) (fun hc => ?_)
 case c31 =>
  replace hm := bT hc hm
  refine s_reg [] [10] [(10, [], vF)] [] H17 (by kernel_rfl) trivial fun _ _ H19 hb => ?_
  replace hS := hS.below hb
  clear H17 hb
  replace hS : SH M X w [gE0] _ := hS.sel [2] rfl
  refine w_ret ?_
  obtain rfl := someE hm
  exact retR1 H19 rfl rfl ⟨_, rfl, rfl, (hS.sel [] rfl)⟩
 replace hm := bF hc hm
 refine w_skip ?_
 refine w_seq ?_
 refine s_reg [] [0, 3, 11, 13, 48] [(0, [], vL g_l_ l_), (3, [], vI at_), (11, [], vL g6 y5.1), (13, [], vI y12.1), (48, [], vB (decide (y12.1 < 0)))] [] H17 (by kernel_rfl) trivial fun _ _ H21 hb => ?_
 replace hS := hS.below hb
 clear H17 hb
 refine w_if H21 rfl (fun hc => ?c30) (fun hc => ?_)
 case c30 =>
  replace hm := bT hc hm
  refine s_reg [] [10] [(10, [], vT)] [] H21 (by kernel_rfl) trivial fun _ _ H23 hb => ?_
  replace hS := hS.below hb
  clear H21 hb
  replace hS : SH M X w [gE0] _ := hS.sel [2] rfl
  refine w_ret ?_
  obtain rfl := someE hm
  exact retR1 H23 rfl rfl ⟨_, rfl, rfl, (hS.sel [] rfl)⟩
 replace hm := bF hc hm
 refine w_skip ?_
 obtain ⟨x24, hx24, hm⟩ := letE hm
 obtain ⟨ho25, hm⟩ := chkE hm
 obtain ⟨ho26, hm⟩ := chkE hm
 obtain ⟨y27, hy27, hm⟩ := bindE hm
 refine s_draw [(vG [vS (gi y5.1 y12.1).Long.Name, .slice (g6.s (y12.1).toNat 0).a (((gi y5.1 y12.1).Long.Value).length) (g6.s (y12.1).toNat 0).c, vS (gi y5.1 y12.1).Long.Whole, vB ((gi y5.1 y12.1).Important), vU ((gi y5.1 y12.1).Origin), vB ((gi y5.1 y12.1).Attached), vI ((gi y5.1 y12.1).Layer), vI ((gi y5.1 y12.1).Weight.e0), vI ((gi y5.1 y12.1).Weight.e1), vI ((gi y5.1 y12.1).Weight.e2), vI ((gi y5.1 y12.1).Order)]), (vG [vS (gi l_ at_).Long.Name, .slice (g_l_.s (at_).toNat 0).a (((gi l_ at_).Long.Value).length) (g_l_.s (at_).toNat 0).c, vS (gi l_ at_).Long.Whole, vB ((gi l_ at_).Important), vU ((gi l_ at_).Origin), vB ((gi l_ at_).Attached), vI ((gi l_ at_).Layer), vI ((gi l_ at_).Weight.e0), vI ((gi l_ at_).Weight.e1), vI ((gi l_ at_).Weight.e2), vI ((gi l_ at_).Order)]), (vB y27)] [10] [(10, [], vB (cond x24 y27 false))] [fun _ => (x24 = true ∧ True → oka g6.a ∧ 0 ≤ y12.1 ∧ y12.1 < ln y5.1), fun wz => (x24 = true ∧ True → V.atN (ab g6.a) (ao g6.a + (y12.1).toNat * 11) [vS (gi y5.1 y12.1).Long.Name, .slice (g6.s (y12.1).toNat 0).a (((gi y5.1 y12.1).Long.Value).length) (g6.s (y12.1).toNat 0).c, vS (gi y5.1 y12.1).Long.Whole, vB ((gi y5.1 y12.1).Important), vU ((gi y5.1 y12.1).Origin), vB ((gi y5.1 y12.1).Attached), vI ((gi y5.1 y12.1).Layer), vI ((gi y5.1 y12.1).Weight.e0), vI ((gi y5.1 y12.1).Weight.e1), vI ((gi y5.1 y12.1).Weight.e2), vI ((gi y5.1 y12.1).Order)] 0 wz), fun _ => (x24 = true ∧ True → oka g_l_.a ∧ 0 ≤ at_ ∧ at_ < ln l_), fun wz => (x24 = true ∧ True → V.atN (ab g_l_.a) (ao g_l_.a + (at_).toNat * 11) [vS (gi l_ at_).Long.Name, .slice (g_l_.s (at_).toNat 0).a (((gi l_ at_).Long.Value).length) (g_l_.s (at_).toNat 0).c, vS (gi l_ at_).Long.Whole, vB ((gi l_ at_).Important), vU ((gi l_ at_).Origin), vB ((gi l_ at_).Attached), vI ((gi l_ at_).Layer), vI ((gi l_ at_).Weight.e0), vI ((gi l_ at_).Weight.e1), vI ((gi l_ at_).Weight.e2), vI ((gi l_ at_).Order)] 0 wz), fun wz => (x24 = true ∧ True → RetB Tryz.prog 10 ⟨[vG [vS (gi y5.1 y12.1).Long.Name, .slice (g6.s (y12.1).toNat 0).a (((gi y5.1 y12.1).Long.Value).length) (g6.s (y12.1).toNat 0).c, vS (gi y5.1 y12.1).Long.Whole, vB ((gi y5.1 y12.1).Important), vU ((gi y5.1 y12.1).Origin), vB ((gi y5.1 y12.1).Attached), vI ((gi y5.1 y12.1).Layer), vI ((gi y5.1 y12.1).Weight.e0), vI ((gi y5.1 y12.1).Weight.e1), vI ((gi y5.1 y12.1).Weight.e2), vI ((gi y5.1 y12.1).Order)], vG [vS (gi l_ at_).Long.Name, .slice (g_l_.s (at_).toNat 0).a (((gi l_ at_).Long.Value).length) (g_l_.s (at_).toNat 0).c, vS (gi l_ at_).Long.Whole, vB ((gi l_ at_).Important), vU ((gi l_ at_).Origin), vB ((gi l_ at_).Attached), vI ((gi l_ at_).Layer), vI ((gi l_ at_).Weight.e0), vI ((gi l_ at_).Weight.e1), vI ((gi l_ at_).Weight.e2), vI ((gi l_ at_).Order)]]⟩ (vB y27) wz)] H21 (by kernel_rfl) (by kernel_rfl) (by subst hx24; kernel_rfl) ⟨fun hg => (hS.osl 0 rfl).oki (ho25 hg.1), fun hg => (hS.osl 0 rfl).atA (ho25 hg.1) 0 rfl, fun hg => (hS.im 1 rfl).oki (ho26 hg.1), fun hg => (hS.im 1 rfl).atA (ho26 hg.1) 0 rfl, fun hg => r29_SameOne_ok (g_a__0 := (g6.s (y12.1).toNat 0)) (g_b__0 := (g_l_.s (at_).toNat 0)) m _ _ _ (bT (hg.1) hy27) _ (s0im (s0im s0nil (tyDeclared_i0 ((hS.im 1 rfl).el (ho26 hg.1)))) (tyDeclared_i0 ((hS.osl 0 rfl).el (ho25 hg.1)))), trivial⟩ fun _ _ H29 hb => ?_
 replace hS := hS.below hb
 clear H21 hb
 replace hS : SH M X w [gE0] _ := hS.sel [2] rfl
 refine w_ret ?_
 obtain rfl := someE hm
 exact retR1 H29 rfl rfl ⟨_, rfl, rfl, (hS.sel [] rfl)⟩
theorem law31_reverted_ok {g_l_ : Gh} (m : Nat) (l_ : List TDeclared) (origin : Int) (name_ : Str) (at_ : Int) (s : Str) (r : Bool) (hm : law31_reverted m l_ origin name_ at_ s = some r) (w : World) (hL : S0 F0 [eI tyDeclared l_ g_l_, gE0] w ∧ fpl [eI tyDeclared l_ g_l_, gE0] = []) : RetB Tryz.prog 14 ⟨[vL g_l_ l_, vU origin, vS name_, vI at_, vS s]⟩ (vB r) w := retB_of hL (Tryz.call14 _) (fun w' h => law31_reverted_w F0 m   l_ origin name_ at_ s r hm w' h)

theorem law31_WideSays_w {g_l_ : Gh} (M : Av) (m : Nat) (l_ : List TDeclared) (name_ : Str) (r : Bool) (hm : law31_WideSays m l_ name_ = some r) (w : World) (hS : S0 M [eI tyDeclared l_ g_l_, gE0] w) : Calls Tryz.prog 4 ⟨[vL g_l_ l_, vS name_]⟩ w (fun e w' => ∃ v, e = .returned v ∧ v = vB r ∧ SH M (fpl [eI tyDeclared l_ g_l_, gE0]) w [] w') := by
 rw [law31_WideSays] at hm
 have hS0 : SH M (fpl [eI tyDeclared l_ g_l_, gE0]) w [eI tyDeclared l_ g_l_, gE0] w := hS
 generalize hX : fpl [eI tyDeclared l_ g_l_, gE0] = X at hS0 ⊢
 clear hS hX
 have hS := hS0
 clear hS0
 refine calls_entryP Tryz.func4 rfl Tryz.ntmps4 rfl fun _ H => ?_
 refine s_reg [] [0, 1] [(0, [], vL g_l_ l_), (1, [], vS name_)] [] H (by kernel_rfl) trivial fun _ _ H2 hb => ?_
 replace hS := hS.below hb
 clear H hb
 obtain ⟨y3, hy3, hm⟩ := bindE hm
 refine s_reg [(vB y3)] [0, 1, 5] [(0, [], vL g_l_ l_), (1, [], vS name_), (5, [], vB y3)] [rB 6 [] (vB y3)] H2 (by kernel_rfl) ⟨(law31_alive_ok 300 _ hy3 _ (s0im s0nil (hS.im 1 rfl))), trivial⟩ fun _ _ H5 hb => ?_
 replace hS := hS.below hb
 clear H2 hb
 refine w_seq ?_
 obtain ⟨y6, hy6, hm⟩ := bindE hm
 obtain ⟨y7, hy7, hm⟩ := bindE hm
 obtain ⟨x8, hx8, hm⟩ := letE hm
 refine s_reg [(vB y6), (vI y7)] [0, 1, 5, 31] [(0, [], vL g_l_ l_), (1, [], vS name_), (5, [], vB y3), (31, [], vB (cond x8 true (!y3)))] [rB 7 [vL g_l_ l_] (vB y6), fun wz => (y6 = false ∧ True → RetB Tryz.prog 8 ⟨[vL g_l_ l_]⟩ (vI y7) wz)] H5 (by subst hx8; kernel_rfl) ⟨(r29_Great_ok (g_l_ := g_l_) m _ _ hy6 _ (s0im s0nil (hS.im 0 rfl))), fun hg => r31_Asked_ok (g_l_ := g_l_) m _ _ (bF (hg.1) hy7) _ (s0im s0nil (hS.im 0 rfl)), trivial⟩ fun _ _ H10 hb => ?_
 replace hS := hS.below hb
 clear H5 hb
 refine w_if H10 rfl (fun hc => ?c94) (fun hc => ?_)
 case c94 =>
  replace hm := bT hc hm
  refine s_reg [] [4] [(4, [], vB y3)] [] H10 (by kernel_rfl) trivial fun _ _ H12 hb => ?_
  replace hS := hS.below hb
  clear H10 hb
  replace hS : SH M X w [gE0] _ := hS.sel [1] rfl
  refine w_ret ?_
  obtain rfl := someE hm
  exact retR1 H12 rfl rfl ⟨_, rfl, rfl, (hS.sel [] rfl)⟩
 replace hm := bF hc hm
 refine w_skip ?_
 obtain ⟨y13, hy13, hm⟩ := bindE hm
 refine s_reg [(vW [vI y13.1, vS y13.2.1, vI y13.2.2])] [0, 1, 5, 6, 7, 8] [(0, [], vL g_l_ l_), (1, [], vS name_), (5, [], vB y3), (6, [], vI y13.1), (7, [], vS y13.2.1), (8, [], vI y13.2.2)] [rB 9 [vL g_l_ l_, vS name_] (vW [vI y13.1, vS y13.2.1, vI y13.2.2])] H10 (by kernel_rfl) ⟨(wide_Decide_ok (g_l_ := g_l_) m _ _ _ hy13 _ (s0im (s0im s0nil (hS.im 1 rfl)) (hS.im 0 rfl))), trivial⟩ fun _ _ H15 hb => ?_
 replace hS := hS.below hb
 clear H10 hb
 refine w_seq ?_
 refine s_reg [] [0, 1, 5, 6, 7, 8, 41] [(0, [], vL g_l_ l_), (1, [], vS name_), (5, [], vB y3), (6, [], vI y13.1), (7, [], vS y13.2.1), (8, [], vI y13.2.2), (41, [], vB (y13.2.2 != 0))] [] H15 (by kernel_rfl) trivial fun _ _ H17 hb => ?_
 replace hS := hS.below hb
 clear H15 hb
 refine w_if H17 rfl (fun hc => ?c93) (fun hc => ?_)
 case c93 =>
  replace hm := bT hc hm
  refine s_reg [] [4] [(4, [], vB (cond y3 (y13.2.2 == 6) false))] [] H17 (by kernel_rfl) trivial fun _ _ H19 hb => ?_
  replace hS := hS.below hb
  clear H17 hb
  replace hS : SH M X w [gE0] _ := hS.sel [1] rfl
  refine w_ret ?_
  obtain rfl := someE hm
  exact retR1 H19 rfl rfl ⟨_, rfl, rfl, (hS.sel [] rfl)⟩
 replace hm := bF hc hm
 refine w_skip ?_
 refine s_reg [] [0, 1, 5, 6, 7, 9] [(0, [], vL g_l_ l_), (1, [], vS name_), (5, [], vB y3), (6, [], vI y13.1), (7, [], vS y13.2.1), (9, [], vI (-1))] [] H17 (by kernel_rfl) trivial fun _ _ H21 hb => ?_
 replace hS := hS.below hb
 clear H17 hb
 obtain ⟨z22, hz, hm⟩ := bindE hm
 refine w_cut (fun a' w' => Fr 159 [(0, [], vL g_l_ l_), (1, [], vS name_), (5, [], vB y3), (6, [], vI y13.1), (7, [], vS y13.2.1), (9, [], vI z22)] a' ∧ SH M X w [eI tyDeclared l_ g_l_, gE0] w') ?_ ?_
 ·replace hm := hz
  refine s_reg [] [0, 1, 5, 6, 7, 9, 10] [(0, [], vL g_l_ l_), (1, [], vS name_), (5, [], vB y3), (6, [], vI y13.1), (7, [], vS y13.2.1), (9, [], vI (-1)), (10, [], vI 0)] [] H21 (by kernel_rfl) trivial fun _ _ H24 hb => ?_
  replace hS := hS.below hb
  clear H21 hb
  refine w_block ?_
  refine w_loop (fun kk a' w' => ∃ (v25 : Int) (v26 : Int), law31_WideSays_L1 m l_ name_ kk v25 v26 = some _ ∧ Fr 159 [(0, [], vL g_l_ l_), (1, [], vS name_), (5, [], vB y3), (6, [], vI y13.1), (7, [], vS y13.2.1), (9, [], vI v25), (10, [], vI v26)] a' ∧ SH M X w [eI tyDeclared l_ g_l_, gE0] w') ⟨_, (-1), 0, hm, FrG.keep (ks := [0, 1, 5, 6, 7, 9, 10]) H24 (by kernel_rfl), hS⟩ ?_
  clear hm H24 hS
  rintro kk _ _ ⟨v25, v26, hm, H, hS⟩
  cases kk with
  | zero => exact noneE hm
  | succ kk =>
   rw [law31_WideSays_L1] at hm
   refine w_seq ?_
   refine s_reg [] [0, 1, 5, 6, 7, 9, 10, 50] [(0, [], vL g_l_ l_), (1, [], vS name_), (5, [], vB y3), (6, [], vI y13.1), (7, [], vS y13.2.1), (9, [], vI v25), (10, [], vI v26), (50, [], vB (decide (v26 < (ln l_))))] [] H (by kernel_rfl) trivial fun _ _ H28 hb => ?_
   replace hS := hS.below hb
   clear H hb
   refine w_if H28 rfl (fun hc => ?_) (fun hc => ?c39)
   case c39 =>
    replace hm := bF hc hm
    refine w_exit rfl ?_
    obtain rfl := someE hm
    exact ⟨FrG.keep (ks := [0, 1, 5, 6, 7, 9]) H28 (by kernel_rfl), hS⟩
   replace hm := bT hc hm
   refine w_skip ?_
   obtain ⟨z29, hz, hm⟩ := bindE hm
   refine w_cut (fun a' w' => Fr 159 [(0, [], vL g_l_ l_), (1, [], vS name_), (5, [], vB y3), (6, [], vI y13.1), (7, [], vS y13.2.1), (10, [], vI v26), (9, [], vI z29)] a' ∧ SH M X w [eI tyDeclared l_ g_l_, gE0] w') ?_ ?_
   ·replace hm := hz
    refine w_block ?_
    obtain ⟨ho30, hm⟩ := chkE hm
    refine s_reg [(vS (gi l_ v26).Long.Name)] [0, 1, 5, 6, 7, 9, 10, 60] [(0, [], vL g_l_ l_), (1, [], vS name_), (5, [], vB y3), (6, [], vI y13.1), (7, [], vS y13.2.1), (9, [], vI v25), (10, [], vI v26), (60, [], vB (((gi l_ v26).Long.Name) == name_))] [fun _ => oka g_l_.a ∧ 0 ≤ v26 ∧ v26 < ln l_, fun wz => V.at1 ⟨ab g_l_.a, ao g_l_.a + (v26).toNat * 11, none⟩ (vS (gi l_ v26).Long.Name) wz] H28 (by kernel_rfl) ⟨((hS.im 0 rfl).oki ho30), ((hS.im 0 rfl).at1 ho30 0 rfl), trivial⟩ fun _ _ H32 hb => ?_
    replace hS := hS.below hb
    clear H28 hb
    refine w_if H32 rfl (fun hc => ?_) (fun hc => ?c35)
    case c35 =>
     replace hm := bF hc hm
     refine w_skip ?_
     obtain rfl := someE hm
     exact ⟨FrG.keep (ks := [0, 1, 5, 6, 7, 10, 9]) H32 (by kernel_rfl), hS⟩
    replace hm := bT hc hm
    refine w_reg [] [0, 1, 5, 6, 7, 9, 10] [(0, [], vL g_l_ l_), (1, [], vS name_), (5, [], vB y3), (6, [], vI y13.1), (7, [], vS y13.2.1), (9, [], vI v26), (10, [], vI v26)] [] H32 (by kernel_rfl) trivial fun _ _ H34 hb => ?_
    replace hS := hS.below hb
    clear H32 hb
    obtain rfl := someE hm
    exact ⟨FrG.keep (ks := [0, 1, 5, 6, 7, 10, 9]) H34 (by kernel_rfl), hS⟩
   ·rintro _ _ ⟨H, hS⟩
    refine w_reg [] [0, 1, 5, 6, 7, 9, 10] [(0, [], vL g_l_ l_), (1, [], vS name_), (5, [], vB y3), (6, [], vI y13.1), (7, [], vS y13.2.1), (9, [], vI z29), (10, [], vI (w64 (v26 + 1)))] [] H (by kernel_rfl) trivial fun _ _ H37 hb => ?_
    replace hS := hS.below hb
    clear H hb
    exact ⟨_, Nat.lt_succ_self _, z29, w64 (v26 + 1), hm, FrG.keep (ks := [0, 1, 5, 6, 7, 9, 10]) H37 (by kernel_rfl), hS⟩
 ·rintro _ _ ⟨H, hS⟩
  refine w_seq ?_
  refine s_reg [] [0, 1, 5, 6, 7, 9, 63] [(0, [], vL g_l_ l_), (1, [], vS name_), (5, [], vB y3), (6, [], vI y13.1), (7, [], vS y13.2.1), (9, [], vI z22), (63, [], vB (decide (z22 < 0)))] [] H (by kernel_rfl) trivial fun _ _ H42 hb => ?_
  replace hS := hS.below hb
  clear H hb
  refine w_if H42 rfl (fun hc => ?c91) (fun hc => ?_)
  case c91 =>
   replace hm := bT hc hm
   obtain ⟨y43, hy43, hm⟩ := bindE hm
   obtain ⟨x44, hx44, hm⟩ := letE hm
   refine s_reg [(vS y43)] [4] [(4, [], vB x44)] [fun wz => ((cond y3 (y13.1 == (-1)) false) = true ∧ True → RetB Tryz.prog 11 ⟨[vS name_]⟩ (vS y43) wz)] H42 (by subst hx44; kernel_rfl) ⟨fun hg => (law31_word_ok m _ _ (bT (hg.1) hy43)).b, trivial⟩ fun _ _ H46 hb => ?_
   replace hS := hS.below hb
   clear H42 hb
   replace hS : SH M X w [gE0] _ := hS.sel [1] rfl
   refine w_ret ?_
   obtain rfl := someE hm
   exact retR1 H46 rfl rfl ⟨_, rfl, rfl, (hS.sel [] rfl)⟩
  replace hm := bF hc hm
  refine w_skip ?_
  obtain ⟨ho47, hm⟩ := chkE hm
  obtain ⟨y48, hy48, hm⟩ := bindE hm
  refine s_reg [(.slice (g_l_.s (z22).toNat 0).a (((gi l_ z22).Long.Value).length) (g_l_.s (z22).toNat 0).c), (vS y48)] [0, 1, 5, 6, 7, 9, 11] [(0, [], vL g_l_ l_), (1, [], vS name_), (5, [], vB y3), (6, [], vI y13.1), (7, [], vS y13.2.1), (9, [], vI z22), (11, [], vS y48)] [fun _ => oka g_l_.a ∧ 0 ≤ z22 ∧ z22 < ln l_, fun wz => V.at1 ⟨ab g_l_.a, ao g_l_.a + (z22).toNat * 11 + 1, none⟩ (.slice (g_l_.s (z22).toNat 0).a (((gi l_ z22).Long.Value).length) (g_l_.s (z22).toNat 0).c) wz, rB 12 [.slice (g_l_.s (z22).toNat 0).a (((gi l_ z22).Long.Value).length) (g_l_.s (z22).toNat 0).c] (vS y48)] H42 (by kernel_rfl) ⟨((hS.im 0 rfl).oki ho47), ((hS.im 0 rfl).at1 ho47 1 rfl), (short_Wide_ok (g_l_ := (g_l_.s (z22).toNat 0)) m _ _ hy48 _ (s0im s0nil (tyDeclared_i0 ((hS.im 0 rfl).el ho47)))), trivial⟩ fun _ _ H50 hb => ?_
  replace hS := hS.below hb
  clear H42 hb
  obtain ⟨z51, hz, hm⟩ := bindE hm
  refine w_cut (fun a' w' => Fr 159 [(0, [], vL g_l_ l_), (1, [], vS name_), (5, [], vB y3), (6, [], vI y13.1), (7, [], vS y13.2.1), (9, [], vI z22), (11, [], vS z51)] a' ∧ SH M X w [eI tyDeclared l_ g_l_, gE0] w') ?_ ?_
  ·replace hm := hz
   refine s_reg [(vS (gi l_ z22).Long.Whole)] [0, 1, 5, 6, 7, 9, 11, 88] [(0, [], vL g_l_ l_), (1, [], vS name_), (5, [], vB y3), (6, [], vI y13.1), (7, [], vS y13.2.1), (9, [], vI z22), (11, [], vS y48), (88, [], vB (!(((gi l_ z22).Long.Whole) == [])))] [fun _ => oka g_l_.a ∧ 0 ≤ z22 ∧ z22 < ln l_, fun wz => V.at1 ⟨ab g_l_.a, ao g_l_.a + (z22).toNat * 11 + 2, none⟩ (vS (gi l_ z22).Long.Whole) wz] H50 (by kernel_rfl) ⟨((hS.im 0 rfl).oki ho47), ((hS.im 0 rfl).at1 ho47 2 rfl), trivial⟩ fun _ _ H53 hb => ?_
   replace hS := hS.below hb
   clear H50 hb
   refine w_if H53 rfl (fun hc => ?_) (fun hc => ?c56)
   case c56 =>
    replace hm := bF hc hm
    refine w_skip ?_
    obtain rfl := someE hm
    exact ⟨FrG.keep (ks := [0, 1, 5, 6, 7, 9, 11]) H53 (by kernel_rfl), hS⟩
   replace hm := bT hc hm
   refine w_reg [] [0, 1, 5, 6, 7, 9, 11] [(0, [], vL g_l_ l_), (1, [], vS name_), (5, [], vB y3), (6, [], vI y13.1), (7, [], vS y13.2.1), (9, [], vI z22), (11, [], vN)] [] H53 (by kernel_rfl) trivial fun _ _ H55 hb => ?_
   replace hS := hS.below hb
   clear H53 hb
   obtain rfl := someE hm
   exact ⟨FrG.keep (ks := [0, 1, 5, 6, 7, 9, 11]) H55 (by kernel_rfl), hS⟩
  ·rintro _ _ ⟨H, hS⟩
   obtain ⟨y57, hy57, hm⟩ := bindE hm
   refine s_reg [(vW [vI y57.1, vS y57.2.1, vI y57.2.2])] [0, 1, 5, 6, 7, 9, 11, 12, 13, 14] [(0, [], vL g_l_ l_), (1, [], vS name_), (5, [], vB y3), (6, [], vI y13.1), (7, [], vS y13.2.1), (9, [], vI z22), (11, [], vS z51), (12, [], vI y57.1), (13, [], vS y57.2.1), (14, [], vI y57.2.2)] [rB 13 [vL g_l_ l_, vI z22, vS [114, 101, 118, 101, 114, 116]] (vW [vI y57.1, vS y57.2.1, vI y57.2.2])] H (by kernel_rfl) ⟨(wide_Mean_ok (g_l_ := g_l_) m _ _ _ _ hy57 _ (s0im (s0im s0nil (hS.im 1 rfl)) (hS.im 0 rfl))), trivial⟩ fun _ _ H59 hb => ?_
   replace hS := hS.below hb
   clear H hb
   refine w_seq ?_
   refine s_reg [] [0, 1, 5, 6, 7, 9, 11, 12, 13, 97] [(0, [], vL g_l_ l_), (1, [], vS name_), (5, [], vB y3), (6, [], vI y13.1), (7, [], vS y13.2.1), (9, [], vI z22), (11, [], vS z51), (12, [], vI y57.1), (13, [], vS y57.2.1), (97, [], vB (y57.2.2 != 0))] [] H59 (by kernel_rfl) trivial fun _ _ H61 hb => ?_
   replace hS := hS.below hb
   clear H59 hb
   refine w_if H61 rfl (fun hc => ?c89) (fun hc => ?_)
   case c89 =>
    replace hm := bT hc hm
    refine s_reg [] [4] [(4, [], vF)] [] H61 (by kernel_rfl) trivial fun _ _ H63 hb => ?_
    replace hS := hS.below hb
    clear H61 hb
    replace hS : SH M X w [gE0] _ := hS.sel [1] rfl
    refine w_ret ?_
    obtain rfl := someE hm
    exact retR1 H63 rfl rfl ⟨_, rfl, rfl, (hS.sel [] rfl)⟩
   replace hm := bF hc hm
   refine w_skip ?_
   refine w_seq ?_
   refine s_reg [] [0, 1, 5, 6, 7, 9, 11, 12, 13, 98] [(0, [], vL g_l_ l_), (1, [], vS name_), (5, [], vB y3), (6, [], vI y13.1), (7, [], vS y13.2.1), (9, [], vI z22), (11, [], vS z51), (12, [], vI y57.1), (13, [], vS y57.2.1), (98, [], vS z51)] [] H61 (by kernel_rfl) trivial fun _ _ H65 hb => ?_
   replace hS := hS.below hb
   clear H61 hb
   refine w_block ?_
   refine s_reg [] [0, 1, 5, 6, 7, 9, 11, 12, 13, 98, 99] [(0, [], vL g_l_ l_), (1, [], vS name_), (5, [], vB y3), (6, [], vI y13.1), (7, [], vS y13.2.1), (9, [], vI z22), (11, [], vS z51), (12, [], vI y57.1), (13, [], vS y57.2.1), (98, [], vS z51), (99, [], vB (z51 == []))] [] H65 (by kernel_rfl) trivial fun _ _ H67 hb => ?_
   replace hS := hS.below hb
   clear H65 hb
   refine w_if H67 rfl (fun hc => ?c88) (fun hc => ?_)
   case c88 =>
    replace hm := bT hc hm
    obtain ⟨x68, hx68, hm⟩ := letE hm
    refine s_reg [] [4] [(4, [], vB x68)] [] H67 (by subst hx68; kernel_rfl) trivial fun _ _ H70 hb => ?_
    replace hS := hS.below hb
    clear H67 hb
    replace hS : SH M X w [gE0] _ := hS.sel [1] rfl
    refine w_ret ?_
    obtain rfl := someE hm
    exact retR1 H70 rfl rfl ⟨_, rfl, rfl, (hS.sel [] rfl)⟩
   replace hm := bF hc hm
   refine s_reg [] [0, 1, 5, 6, 7, 9, 11, 12, 13, 98, 111] [(0, [], vL g_l_ l_), (1, [], vS name_), (5, [], vB y3), (6, [], vI y13.1), (7, [], vS y13.2.1), (9, [], vI z22), (11, [], vS z51), (12, [], vI y57.1), (13, [], vS y57.2.1), (98, [], vS z51), (111, [], vB (z51 == [117, 110, 115, 101, 116]))] [] H67 (by kernel_rfl) trivial fun _ _ H72 hb => ?_
   replace hS := hS.below hb
   clear H67 hb
   refine w_if H72 rfl (fun hc => ?c87) (fun hc => ?_)
   case c87 =>
    replace hm := bT hc hm
    obtain ⟨y73, hy73, hm⟩ := bindE hm
    obtain ⟨x74, hx74, hm⟩ := letE hm
    refine s_reg [(vS y73)] [4] [(4, [], vB x74)] [fun wz => ((cond y3 (y13.1 == (-1)) false) = true ∧ True → RetB Tryz.prog 11 ⟨[vS name_]⟩ (vS y73) wz)] H72 (by subst hx74; kernel_rfl) ⟨fun hg => (law31_word_ok m _ _ (bT (hg.1) hy73)).b, trivial⟩ fun _ _ H76 hb => ?_
    replace hS := hS.below hb
    clear H72 hb
    replace hS : SH M X w [gE0] _ := hS.sel [1] rfl
    refine w_ret ?_
    obtain rfl := someE hm
    exact retR1 H76 rfl rfl ⟨_, rfl, rfl, (hS.sel [] rfl)⟩
   replace hm := bF hc hm
   refine s_reg [] [0, 1, 5, 6, 7, 9, 11, 12, 13, 124] [(0, [], vL g_l_ l_), (1, [], vS name_), (5, [], vB y3), (6, [], vI y13.1), (7, [], vS y13.2.1), (9, [], vI z22), (11, [], vS z51), (12, [], vI y57.1), (13, [], vS y57.2.1), (124, [], vB (z51 == [114, 101, 118, 101, 114, 116]))] [] H72 (by kernel_rfl) trivial fun _ _ H78 hb => ?_
   replace hS := hS.below hb
   clear H72 hb
   refine w_if H78 rfl (fun hc => ?_) (fun hc => ?c86)
   case c86 =>
    replace hm := bF hc hm
    refine w_skip ?_
    obtain ⟨x83, hx83, hm⟩ := letE hm
    refine s_reg [] [4] [(4, [], vB x83)] [] H78 (by subst hx83; kernel_rfl) trivial fun _ _ H85 hb => ?_
    replace hS := hS.below hb
    clear H78 hb
    replace hS : SH M X w [gE0] _ := hS.sel [1] rfl
    refine w_ret ?_
    obtain rfl := someE hm
    exact retR1 H85 rfl rfl ⟨_, rfl, rfl, (hS.sel [] rfl)⟩
   replace hm := bT hc hm
   obtain ⟨x79, hx79, hm⟩ := letE hm
   obtain ⟨y80, hy80, hm⟩ := bindE hm
   refine s_reg [(vU ((gi l_ z22).Origin)), (vB y80)] [4] [(4, [], vB (cond x79 y80 false))] [fun _ => (x79 = true ∧ True → oka g_l_.a ∧ 0 ≤ z22 ∧ z22 < ln l_), fun wz => (x79 = true ∧ True → V.at1 ⟨ab g_l_.a, ao g_l_.a + (z22).toNat * 11 + 4, none⟩ (vU ((gi l_ z22).Origin)) wz), fun wz => (x79 = true ∧ True → RetB Tryz.prog 14 ⟨[vL g_l_ l_, vU ((gi l_ z22).Origin), vS name_, vI y13.1, vS y13.2.1]⟩ (vB y80) wz)] H78 (by subst hx79; kernel_rfl) ⟨fun hg => (hS.im 0 rfl).oki ho47, fun hg => (hS.im 0 rfl).at1 ho47 4 rfl, fun hg => law31_reverted_ok (g_l_ := g_l_) m _ _ _ _ _ _ (bT (hg.1) hy80) _ (s0im (s0im s0nil (hS.im 1 rfl)) (hS.im 0 rfl)), trivial⟩ fun _ _ H82 hb => ?_
   replace hS := hS.below hb
   clear H78 hb
   replace hS : SH M X w [gE0] _ := hS.sel [1] rfl
   refine w_ret ?_
   obtain rfl := someE hm
   exact retR1 H82 rfl rfl ⟨_, rfl, rfl, (hS.sel [] rfl)⟩
theorem law31_WideSays_ok {g_l_ : Gh} (m : Nat) (l_ : List TDeclared) (name_ : Str) (r : Bool) (hm : law31_WideSays m l_ name_ = some r) (w : World) (hL : S0 F0 [eI tyDeclared l_ g_l_, gE0] w ∧ fpl [eI tyDeclared l_ g_l_, gE0] = []) : RetB Tryz.prog 4 ⟨[vL g_l_ l_, vS name_]⟩ (vB r) w := retB_of hL (Tryz.call4 _) (fun w' h => law31_WideSays_w F0 m   l_ name_ r hm w' h)

end Go.Proofs.YtehlikdeobajcaaGreatDoor
