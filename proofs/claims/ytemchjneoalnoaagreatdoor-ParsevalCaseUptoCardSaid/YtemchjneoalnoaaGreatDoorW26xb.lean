/-
  What the Go functions compute, as Lean functions, and that a call returns just that. Printed by a program.
-/
import Derived.Test.YtemchjneoalnoaaGreatDoorRows
import Derived.Test.YtemchjneoalnoaaGreatDoorX
import Derived.Test.YtemchjneoalnoaaGreatDoorIF
import Derived.Test.YtemchjneoalnoaaGreatDoorMP
import Derived.Test.YtemchjneoalnoaaGreatDoorM
import Derived.Test.YtemchjneoalnoaaGreatDoorW26xa
set_option linter.unusedVariables false
set_option maxRecDepth 20000
set_option maxHeartbeats 4000000
namespace Go.Proofs.YtemchjneoalnoaaGreatDoor
open Go.V Go.RowKit

theorem strconv_ParseUint_2_w  (M : Av) (m : Nat) (s : Str) (base : Int) (bitSize : Int) (r : Int) (hm : strconv_ParseUint_2 m s base bitSize = some r) (w : World) (hS : S0 M [] w) : Calls Tryz.prog 89 ⟨[vS s, vI base, vI bitSize]⟩ w (fun e w' => ∃ v, e = .returned v ∧ v = vW [.int .u64 r, .nilIface] ∧ SH M (fpl []) w [] w') := by
 rw [strconv_ParseUint_2] at hm
 have hS0 : SH M (fpl []) w [] w := hS
 generalize hX : fpl [] = X at hS0 ⊢
 clear hS hX
 have hS := hS0
 clear hS0
 refine calls_entryP Tryz.func89 rfl Tryz.ntmps89 rfl fun _ H => ?_
 refine s_reg [] [0, 1, 2] (fS [0, 1, 2] [vS s, vI base, vI bitSize]) [] H (by kernel_rfl) trivial fun _ _ H2 hb => ?_
 replace hS := hS.below hb
 clear H hb
 apply w_seq
 refine s_reg [] [0, 1, 2, 19] (fS [0, 1, 2, 19] [vS s, vI base, vI bitSize, vB (s == [])]) [] H2 (by kernel_rfl) trivial fun _ _ H4 hb => ?_
 replace hS := hS.below hb
 clear H2 hb
 refine w_if H4 rfl (fun hc => ?c185) (fun hc => ?_)
 case c185 =>
  replace hm := bT hc hm
  refine s_reg [] [6, 7] (fS [6, 7] [.int .u64 0, .iface 161 (vI 2)]) [] H4 (by kernel_rfl) trivial fun _ _ H6 hb => ?_
  replace hS := hS.below hb
  clear H4 hb
  exact noneE hm
 replace hm := bF hc hm
 apply w_skip
 refine s_reg [] [0, 1, 2, 8] (fS [0, 1, 2, 8] [vS s, vI base, vI bitSize, vB (base == 0)]) [] H4 (by kernel_rfl) trivial fun _ _ H8 hb => ?_
 replace hS := hS.below hb
 clear H4 hb
 refine s_reg [] [0, 1, 2, 8, 9] (fS [0, 1, 2, 8, 9] [vS s, vI base, vI bitSize, vB (base == 0), vS s]) [] H8 (by kernel_rfl) trivial fun _ _ H10 hb => ?_
 replace hS := hS.below hb
 clear H8 hb
 obtain ⟨z11, hz, hm_z11⟩ := bindE hm
 refine w_cut (fun a' w' => ∃ s_z11 : Str × Int, z11 = Sum.inr s_z11 ∧ Fr 172 (fS [2, 8, 9, 0, 1] [vI bitSize, vB (base == 0), vS s, vS s_z11.1, vI s_z11.2]) a' ∧ SH M X w [] w') ?_ ?_
 ·replace hm := hz
  apply w_block
  obtain ⟨x12, hx12, hm⟩ := letE hm
  refine s_reg [] [0, 1, 2, 8, 9, 25] (fS [0, 1, 2, 8, 9, 25] [vS s, vI base, vI bitSize, vB (base == 0), vS s, vB x12]) [] H10 (by subst hx12; kernel_rfl) trivial fun _ _ H14 hb => ?_
  replace hS := hS.below hb
  clear H10 hb
  refine w_if H14 rfl (fun hc => ?c59) (fun hc => ?_)
  case c59 =>
   replace hm := bT hc hm
   apply w_skip
   obtain rfl := someE hm
   exact ⟨_, rfl, FrG.keep (ks := [2, 8, 9, 0, 1]) H14 (by kernel_rfl), hS⟩
  replace hm := bF hc hm
  refine s_reg [] [0, 2, 8, 9, 32] (fS [0, 2, 8, 9, 32] [vS s, vI bitSize, vB (base == 0), vS s, vB (base == 0)]) [] H14 (by kernel_rfl) trivial fun _ _ H16 hb => ?_
  replace hS := hS.below hb
  clear H14 hb
  refine w_if H16 rfl (fun hc => ?_) (fun hc => ?c58)
  case c58 =>
   replace hm := bF hc hm
   refine s_reg [] [6, 7] (fS [6, 7] [.int .u64 0, .iface 161 (vI 3)]) [] H16 (by kernel_rfl) trivial fun _ _ H57 hb => ?_
   replace hS := hS.below hb
   clear H16 hb
   exact noneE hm
  replace hm := bT hc hm
  refine s_reg [] [0, 1, 2, 8, 9] (fS [0, 1, 2, 8, 9] [vS s, vI 10, vI bitSize, vB (base == 0), vS s]) [] H16 (by kernel_rfl) trivial fun _ _ H18 hb => ?_
  replace hS := hS.below hb
  clear H16 hb
  obtain ⟨ho19, hm⟩ := chkE hm
  refine s_reg [] [0, 1, 2, 8, 9, 37] (fS [0, 1, 2, 8, 9, 37] [vS s, vI 10, vI bitSize, vB (base == 0), vS s, vB ((bat s 0) == 48)]) [fun _ => 0 ≤ (0 : Int) ∧ (0 : Int) < ln s] H18 (by kernel_rfl) ⟨ho19, trivial⟩ fun _ _ H21 hb => ?_
  replace hS := hS.below hb
  clear H18 hb
  refine w_if H21 rfl (fun hc => ?_) (fun hc => ?c55)
  case c55 =>
   replace hm := bF hc hm
   apply w_skip
   obtain rfl := someE hm
   exact ⟨_, rfl, FrG.keep (ks := [2, 8, 9, 0, 1]) H21 (by kernel_rfl), hS⟩
  replace hm := bT hc hm
  apply w_block
  obtain ⟨ho22, hm⟩ := chkE hm
  obtain ⟨x23, hx23, hm⟩ := letE hm
  refine s_reg [(vU (strconv_lower (bat s 1)))] [0, 2, 8, 9, 40] (fS [0, 2, 8, 9, 40] [vS s, vI bitSize, vB (base == 0), vS s, vB x23]) [fun _ => ((decide (3 ≤ (ln s))) = true ∧ True → 0 ≤ (1 : Int) ∧ (1 : Int) < ln s), fun wz => ((decide (3 ≤ (ln s))) = true ∧ True → RetB Tryz.prog 110 ⟨[vU (bat s 1)]⟩ (vU (strconv_lower (bat s 1))) wz)] H21 (by subst hx23; kernel_rfl) ⟨fun hg => (ho22 hg.1), fun hg => (strconv_lower_ok _).b, trivial⟩ fun _ _ H25 hb => ?_
  replace hS := hS.below hb
  clear H21 hb
  refine w_if H25 rfl (fun hc => ?c54) (fun hc => ?_)
  case c54 =>
   replace hm := bT hc hm
   refine s_reg [] [0, 1, 2, 8, 9] (fS [0, 1, 2, 8, 9] [vS s, vI 2, vI bitSize, vB (base == 0), vS s]) [] H25 (by kernel_rfl) trivial fun _ _ H27 hb => ?_
   replace hS := hS.below hb
   clear H25 hb
   obtain ⟨ho28, hm⟩ := chkE hm
   refine w_reg [] [0, 1, 2, 8, 9] (fS [0, 1, 2, 8, 9] [vS (sub s 2 (ln s)), vI 2, vI bitSize, vB (base == 0), vS s]) [fun _ => 0 ≤ (2 : Int) ∧ (2 : Int) ≤ ln s] H27 (by kernel_rfl) ⟨ho28, trivial⟩ fun _ _ H30 hb => ?_
   replace hS := hS.below hb
   clear H27 hb
   obtain rfl := someE hm
   exact ⟨_, rfl, FrG.keep (ks := [2, 8, 9, 0, 1]) H30 (by kernel_rfl), hS⟩
  replace hm := bF hc hm
  obtain ⟨x31, hx31, hm⟩ := letE hm
  refine s_reg [(vU (strconv_lower (bat s 1)))] [0, 2, 8, 9, 52] (fS [0, 2, 8, 9, 52] [vS s, vI bitSize, vB (base == 0), vS s, vB x31]) [fun _ => ((decide (3 ≤ (ln s))) = true ∧ True → 0 ≤ (1 : Int) ∧ (1 : Int) < ln s), fun wz => ((decide (3 ≤ (ln s))) = true ∧ True → RetB Tryz.prog 110 ⟨[vU (bat s 1)]⟩ (vU (strconv_lower (bat s 1))) wz)] H25 (by subst hx31; kernel_rfl) ⟨fun hg => (ho22 hg.1), fun hg => (strconv_lower_ok _).b, trivial⟩ fun _ _ H33 hb => ?_
  replace hS := hS.below hb
  clear H25 hb
  refine w_if H33 rfl (fun hc => ?c53) (fun hc => ?_)
  case c53 =>
   replace hm := bT hc hm
   refine s_reg [] [0, 1, 2, 8, 9] (fS [0, 1, 2, 8, 9] [vS s, vI 8, vI bitSize, vB (base == 0), vS s]) [] H33 (by kernel_rfl) trivial fun _ _ H35 hb => ?_
   replace hS := hS.below hb
   clear H33 hb
   obtain ⟨ho36, hm⟩ := chkE hm
   refine w_reg [] [0, 1, 2, 8, 9] (fS [0, 1, 2, 8, 9] [vS (sub s 2 (ln s)), vI 8, vI bitSize, vB (base == 0), vS s]) [fun _ => 0 ≤ (2 : Int) ∧ (2 : Int) ≤ ln s] H35 (by kernel_rfl) ⟨ho36, trivial⟩ fun _ _ H38 hb => ?_
   replace hS := hS.below hb
   clear H35 hb
   obtain rfl := someE hm
   exact ⟨_, rfl, FrG.keep (ks := [2, 8, 9, 0, 1]) H38 (by kernel_rfl), hS⟩
  replace hm := bF hc hm
  obtain ⟨x39, hx39, hm⟩ := letE hm
  refine s_reg [(vU (strconv_lower (bat s 1)))] [0, 2, 8, 9, 64] (fS [0, 2, 8, 9, 64] [vS s, vI bitSize, vB (base == 0), vS s, vB x39]) [fun _ => ((decide (3 ≤ (ln s))) = true ∧ True → 0 ≤ (1 : Int) ∧ (1 : Int) < ln s), fun wz => ((decide (3 ≤ (ln s))) = true ∧ True → RetB Tryz.prog 110 ⟨[vU (bat s 1)]⟩ (vU (strconv_lower (bat s 1))) wz)] H33 (by subst hx39; kernel_rfl) ⟨fun hg => (ho22 hg.1), fun hg => (strconv_lower_ok _).b, trivial⟩ fun _ _ H41 hb => ?_
  replace hS := hS.below hb
  clear H33 hb
  refine w_if H41 rfl (fun hc => ?_) (fun hc => ?c52)
  case c52 =>
   replace hm := bF hc hm
   refine s_reg [] [0, 1, 2, 8, 9] (fS [0, 1, 2, 8, 9] [vS s, vI 8, vI bitSize, vB (base == 0), vS s]) [] H41 (by kernel_rfl) trivial fun _ _ H48 hb => ?_
   replace hS := hS.below hb
   clear H41 hb
   obtain ⟨ho49, hm⟩ := chkE hm
   refine w_reg [] [0, 1, 2, 8, 9] (fS [0, 1, 2, 8, 9] [vS (sub s 1 (ln s)), vI 8, vI bitSize, vB (base == 0), vS s]) [fun _ => 0 ≤ (1 : Int) ∧ (1 : Int) ≤ ln s] H48 (by kernel_rfl) ⟨ho49, trivial⟩ fun _ _ H51 hb => ?_
   replace hS := hS.below hb
   clear H48 hb
   obtain rfl := someE hm
   exact ⟨_, rfl, FrG.keep (ks := [2, 8, 9, 0, 1]) H51 (by kernel_rfl), hS⟩
  replace hm := bT hc hm
  refine s_reg [] [0, 1, 2, 8, 9] (fS [0, 1, 2, 8, 9] [vS s, vI 16, vI bitSize, vB (base == 0), vS s]) [] H41 (by kernel_rfl) trivial fun _ _ H43 hb => ?_
  replace hS := hS.below hb
  clear H41 hb
  obtain ⟨ho44, hm⟩ := chkE hm
  refine w_reg [] [0, 1, 2, 8, 9] (fS [0, 1, 2, 8, 9] [vS (sub s 2 (ln s)), vI 16, vI bitSize, vB (base == 0), vS s]) [fun _ => 0 ≤ (2 : Int) ∧ (2 : Int) ≤ ln s] H43 (by kernel_rfl) ⟨ho44, trivial⟩ fun _ _ H46 hb => ?_
  replace hS := hS.below hb
  clear H43 hb
  obtain rfl := someE hm
  exact ⟨_, rfl, FrG.keep (ks := [2, 8, 9, 0, 1]) H46 (by kernel_rfl), hS⟩
 ·rintro _ _ ⟨s_z11, hz, H, hS⟩
  subst hz
  replace hm := sumR hm_z11
  obtain ⟨z60, hz, hm_z60⟩ := bindE hm
  refine w_cut (fun a' w' => ∃ s_z60 : Int, z60 = Sum.inr s_z60 ∧ Fr 172 (fS [0, 1, 8, 9, 2] [vS s_z11.1, vI s_z11.2, vB (base == 0), vS s, vI s_z60]) a' ∧ SH M X w [] w') ?_ ?_
  ·replace hm := hz
   refine s_reg [] [0, 1, 2, 8, 9, 77] (fS [0, 1, 2, 8, 9, 77] [vS s_z11.1, vI s_z11.2, vI bitSize, vB (base == 0), vS s, vB (bitSize == 0)]) [] H (by kernel_rfl) trivial fun _ _ H62 hb => ?_
   replace hS := hS.below hb
   clear H hb
   refine w_if H62 rfl (fun hc => ?c71) (fun hc => ?_)
   case c71 =>
    replace hm := bT hc hm
    refine w_reg [] [0, 1, 2, 8, 9] (fS [0, 1, 2, 8, 9] [vS s_z11.1, vI s_z11.2, vI 64, vB (base == 0), vS s]) [] H62 (by kernel_rfl) trivial fun _ _ H64 hb => ?_
    replace hS := hS.below hb
    clear H62 hb
    obtain rfl := someE hm
    exact ⟨_, rfl, FrG.keep (ks := [0, 1, 8, 9, 2]) H64 (by kernel_rfl), hS⟩
   replace hm := bF hc hm
   obtain ⟨x65, hx65, hm⟩ := letE hm
   refine s_reg [] [0, 1, 2, 8, 9, 83] (fS [0, 1, 2, 8, 9, 83] [vS s_z11.1, vI s_z11.2, vI bitSize, vB (base == 0), vS s, vB x65]) [] H62 (by subst hx65; kernel_rfl) trivial fun _ _ H67 hb => ?_
   replace hS := hS.below hb
   clear H62 hb
   refine w_if H67 rfl (fun hc => ?_) (fun hc => ?c70)
   case c70 =>
    replace hm := bF hc hm
    apply w_skip
    obtain rfl := someE hm
    exact ⟨_, rfl, FrG.keep (ks := [0, 1, 8, 9, 2]) H67 (by kernel_rfl), hS⟩
   replace hm := bT hc hm
   refine s_reg [] [6, 7] (fS [6, 7] [.int .u64 0, .iface 161 (vI 4)]) [] H67 (by kernel_rfl) trivial fun _ _ H69 hb => ?_
   replace hS := hS.below hb
   clear H67 hb
   exact noneE hm
  ·rintro _ _ ⟨s_z60, hz, H, hS⟩
   subst hz
   replace hm := sumR hm_z60
   refine s_reg [] [0, 1, 2, 8, 9] (fS [0, 1, 2, 8, 9] [vS s_z11.1, vI s_z11.2, vI s_z60, vB (base == 0), vS s]) [] H (by kernel_rfl) trivial fun _ _ H73 hb => ?_
   replace hS := hS.below hb
   clear H hb
   obtain ⟨z74, hz, hm⟩ := bindE hm
   refine w_cut (fun a' w' => Fr 172 (fS [0, 1, 2, 8, 9, 10] [vS s_z11.1, vI s_z11.2, vI s_z60, vB (base == 0), vS s, .int .u64 z74]) a' ∧ SH M X w [] w') ?_ ?_
   ·replace hm := hz
    refine s_reg [] [0, 1, 2, 8, 9, 85] (fS [0, 1, 2, 8, 9, 85] [vS s_z11.1, vI s_z11.2, vI s_z60, vB (base == 0), vS s, vI s_z11.2]) [] H73 (by kernel_rfl) trivial fun _ _ H76 hb => ?_
    replace hS := hS.below hb
    clear H73 hb
    apply w_block
    refine s_reg [] [0, 1, 2, 8, 9, 85, 90] (fS [0, 1, 2, 8, 9, 85, 90] [vS s_z11.1, vI s_z11.2, vI s_z60, vB (base == 0), vS s, vI s_z11.2, vB (s_z11.2 == 10)]) [] H76 (by kernel_rfl) trivial fun _ _ H78 hb => ?_
    replace hS := hS.below hb
    clear H76 hb
    refine w_if H78 rfl (fun hc => ?c90) (fun hc => ?_)
    case c90 =>
     replace hm := bT hc hm
     refine w_reg [] [0, 1, 2, 8, 9, 10] (fS [0, 1, 2, 8, 9, 10] [vS s_z11.1, vI s_z11.2, vI s_z60, vB (base == 0), vS s, .int .u64 1844674407370955162]) [] H78 (by kernel_rfl) trivial fun _ _ H80 hb => ?_
     replace hS := hS.below hb
     clear H78 hb
     obtain rfl := someE hm
     exact ⟨FrG.keep (ks := [0, 1, 2, 8, 9, 10]) H80 (by kernel_rfl), hS⟩
    replace hm := bF hc hm
    refine s_reg [] [0, 1, 2, 8, 9, 92] (fS [0, 1, 2, 8, 9, 92] [vS s_z11.1, vI s_z11.2, vI s_z60, vB (base == 0), vS s, vB (s_z11.2 == 16)]) [] H78 (by kernel_rfl) trivial fun _ _ H82 hb => ?_
    replace hS := hS.below hb
    clear H78 hb
    refine w_if H82 rfl (fun hc => ?c89) (fun hc => ?_)
    case c89 =>
     replace hm := bT hc hm
     refine w_reg [] [0, 1, 2, 8, 9, 10] (fS [0, 1, 2, 8, 9, 10] [vS s_z11.1, vI s_z11.2, vI s_z60, vB (base == 0), vS s, .int .u64 1152921504606846976]) [] H82 (by kernel_rfl) trivial fun _ _ H84 hb => ?_
     replace hS := hS.below hb
     clear H82 hb
     obtain rfl := someE hm
     exact ⟨FrG.keep (ks := [0, 1, 2, 8, 9, 10]) H84 (by kernel_rfl), hS⟩
    replace hm := bF hc hm
    obtain ⟨ho85, hm⟩ := chkE hm
    obtain ⟨x86, hx86, hm⟩ := letE hm
    refine w_reg [] [0, 1, 2, 8, 9, 10] (fS [0, 1, 2, 8, 9, 10] [vS s_z11.1, vI s_z11.2, vI s_z60, vB (base == 0), vS s, .int .u64 (wu64 (x86 + 1))]) [fun _ => (wu64 s_z11.2) ≠ 0] H82 (by subst hx86; kernel_rfl) ⟨ho85, trivial⟩ fun _ _ H88 hb => ?_
    replace hS := hS.below hb
    clear H82 hb
    obtain rfl := someE hm
    exact ⟨FrG.keep (ks := [0, 1, 2, 8, 9, 10]) H88 (by kernel_rfl), hS⟩
   ·rintro _ _ ⟨H, hS⟩
    obtain ⟨ho91, hm⟩ := chkE hm
    obtain ⟨x92, hx92, hm⟩ := letE hm
    refine s_reg [] [0, 1, 8, 9, 10, 11] (fS [0, 1, 8, 9, 10, 11] [vS s_z11.1, vI s_z11.2, vB (base == 0), vS s, .int .u64 z74, .int .u64 (wu64 (x92 - 1))]) [fun _ => 0 ≤ (wu64 s_z60)] H (by subst hx92; kernel_rfl) ⟨ho91, trivial⟩ fun _ _ H94 hb => ?_
    replace hS := hS.below hb
    clear H hb
    refine s_reg [] [0, 1, 8, 9, 10, 11, 12] (fS [0, 1, 8, 9, 10, 11, 12] [vS s_z11.1, vI s_z11.2, vB (base == 0), vS s, .int .u64 z74, .int .u64 (wu64 (x92 - 1)), vF]) [] H94 (by kernel_rfl) trivial fun _ _ H96 hb => ?_
    replace hS := hS.below hb
    clear H94 hb
    refine s_reg [] [0, 1, 8, 9, 10, 11, 12, 13] (fS [0, 1, 8, 9, 10, 11, 12, 13] [vS s_z11.1, vI s_z11.2, vB (base == 0), vS s, .int .u64 z74, .int .u64 (wu64 (x92 - 1)), vF, .int .u64 0]) [] H96 (by kernel_rfl) trivial fun _ _ H98 hb => ?_
    replace hS := hS.below hb
    clear H96 hb
    obtain ⟨z99, hz, hm_z99⟩ := bindE hm
    refine w_cut (fun a' w' => ∃ s_z99 : Bool × Int, z99 = Sum.inr s_z99 ∧ Fr 172 (fS [9, 12, 13] [vS s, vB s_z99.1, .int .u64 s_z99.2]) a' ∧ SH M X w [] w') ?_ ?_
    ·replace hm := hz
     apply w_seq
     apply wl_start
     refine wl_batch 0 1 [] [1, 8, 9, 10, 11, 12, 13, 98] (fS [1, 8, 9, 10, 11, 12, 13, 98] [vI s_z11.2, vB (base == 0), vS s, .int .u64 z74, .int .u64 (wu64 (x92 - 1)), vF, .int .u64 0, vS s_z11.1]) [] H98 (by decide) (by kernel_rfl) trivial fun _ _ H101 hb => ?_
     replace hS := hS.below hb
     clear H98 hb
     have hd := hS.hand [] [] rfl rfl
     refine m_stp [99, 1, 8, 9, 10, 11, 12, 13] (fS [1, 8, 9, 10, 11, 12, 13] [vI s_z11.2, vB (base == 0), vS s, .int .u64 z74, .int .u64 (wu64 (x92 - 1)), vF, .int .u64 0]) H101 rfl rfl rfl rfl (o_bytes (E := 5) H101 hd rfl (by kernel_rfl) (by kernel_rfl) (by kernel_rfl)) (fun _ => rfl) fun _ _ v H105 hq => ?_
     clear H101 hd
     obtain ⟨b102, c103, rfl, hc_b102, hq⟩ := hq
     replace hS : SH M X w [Ent.row .u8 b102 (ofB s_z11.1) (ln (ofB s_z11.1))] _ := hS.join [] [] rfl rfl hq
     clear hq
     refine wl_batch 2 4 [] [1, 8, 9, 10, 11, 12, 13, 99, 100, 101] (fS [1, 8, 9, 10, 11, 12, 13, 99, 100, 101] [vI s_z11.2, vB (base == 0), vS s, .int .u64 z74, .int .u64 (wu64 (x92 - 1)), vF, .int .u64 0, .slice (some ⟨b102, 0, none⟩) ((ofB s_z11.1).length) c103, vI (ln (ofB s_z11.1)), vI 0]) [] H105 (by decide) (by kernel_rfl) trivial fun _ _ H107 hb => ?_
     replace hS := hS.below hb
     clear H105 hb
     apply wl_end rfl
     apply w_block
     refine w_loop (fun kk a' w' => ∃ (v108 : Bool) (v109 : Int) (v110 : Int), strconv_ParseUint_2_L1 m base s_z11 z74 x92 kk v108 v109 v110 = some _ ∧ Fr 172 (fS [1, 8, 9, 10, 11, 99, 100, 12, 13, 101] [vI s_z11.2, vB (base == 0), vS s, .int .u64 z74, .int .u64 (wu64 (x92 - 1)), .slice (some ⟨b102, 0, none⟩) ((ofB s_z11.1).length) c103, vI (ln (ofB s_z11.1)), vB v108, .int .u64 v109, vI v110]) a' ∧ SH M X w [Ent.row .u8 b102 (ofB s_z11.1) (ln (ofB s_z11.1))] w') ⟨_, false, 0, 0, hm, FrG.keep (ks := [1, 8, 9, 10, 11, 99, 100, 12, 13, 101]) H107 (by kernel_rfl), hS⟩ ?_
     clear hm H107 hS
     rintro kk _ _ ⟨v108, v109, v110, hm, H, hS⟩
     cases kk with
     | zero => exact noneE hm
     | succ kk =>
      rw [strconv_ParseUint_2_L1] at hm
      refine s_reg [] [1, 8, 9, 10, 11, 12, 13, 99, 100, 101, 102] (fS [1, 8, 9, 10, 11, 12, 13, 99, 100, 101, 102] [vI s_z11.2, vB (base == 0), vS s, .int .u64 z74, .int .u64 (wu64 (x92 - 1)), vB v108, .int .u64 v109, .slice (some ⟨b102, 0, none⟩) ((ofB s_z11.1).length) c103, vI (ln (ofB s_z11.1)), vI v110, vB (decide (v110 < (ln (ofB s_z11.1))))]) [] H (by kernel_rfl) trivial fun _ _ H112 hb => ?_
      replace hS := hS.below hb
      clear H hb
      apply w_seq
      refine w_if H112 rfl (fun hc => ?_) (fun hc => ?c171)
      case c171 =>
       replace hm := bF hc hm
       apply w_exit rfl
       obtain rfl := someE hm
       replace hS : SH M X w [] _ := hS.sel [] rfl
       exact ⟨_, rfl, FrG.keep (ks := [9, 12, 13]) H112 (by kernel_rfl), hS⟩
      replace hm := bT hc hm
      apply w_skip
      obtain ⟨z113, hz, hm_z113⟩ := bindE hm
      refine w_cut (fun a' w' => ∃ s_z113 : Bool × Int, z113 = Sum.inr s_z113 ∧ Fr 172 (fS [1, 8, 9, 10, 11, 99, 100, 101, 12, 13] [vI s_z11.2, vB (base == 0), vS s, .int .u64 z74, .int .u64 (wu64 (x92 - 1)), .slice (some ⟨b102, 0, none⟩) ((ofB s_z11.1).length) c103, vI (ln (ofB s_z11.1)), vI v110, vB s_z113.1, .int .u64 s_z113.2]) a' ∧ SH M X w [Ent.row .u8 b102 (ofB s_z11.1) (ln (ofB s_z11.1))] w') ?_ ?_
      ·replace hm := hz
       apply w_block
       obtain ⟨ho114, hm⟩ := chkE hm
       refine s_reg [(vU (gi (ofB s_z11.1) v110))] [1, 8, 9, 10, 11, 12, 13, 15, 99, 100, 101] (fS [1, 8, 9, 10, 11, 12, 13, 15, 99, 100, 101] [vI s_z11.2, vB (base == 0), vS s, .int .u64 z74, .int .u64 (wu64 (x92 - 1)), vB v108, .int .u64 v109, vU (gi (ofB s_z11.1) v110), .slice (some ⟨b102, 0, none⟩) ((ofB s_z11.1).length) c103, vI (ln (ofB s_z11.1)), vI v110]) [fun _ => oka (some ⟨b102, 0, none⟩) ∧ 0 ≤ v110 ∧ v110 < ln (ofB s_z11.1), fun wz => V.at1 ⟨b102, 0 + (v110).toNat * 1, none⟩ (vU (gi (ofB s_z11.1) v110)) wz] H112 (by kernel_rfl) ⟨(⟨rfl, ho114⟩), (Rw.ixn (hS.rw 0 rfl) ho114), trivial⟩ fun _ _ H116 hb => ?_
       replace hS := hS.below hb
       clear H112 hb
       refine s_reg [] [1, 8, 9, 10, 11, 12, 13, 15, 99, 100, 101] (fS [1, 8, 9, 10, 11, 12, 13, 15, 99, 100, 101] [vI s_z11.2, vB (base == 0), vS s, .int .u64 z74, .int .u64 (wu64 (x92 - 1)), vB v108, .int .u64 v109, vU (gi (ofB s_z11.1) v110), .slice (some ⟨b102, 0, none⟩) ((ofB s_z11.1).length) c103, vI (ln (ofB s_z11.1)), vI v110]) [] H116 (by kernel_rfl) trivial fun _ _ H118 hb => ?_
       replace hS := hS.below hb
       clear H116 hb
       obtain ⟨z119, hz, hm_z119⟩ := bindE hm
       refine w_cut (fun a' w' => ∃ s_z119 : Bool × Int, z119 = Sum.inr s_z119 ∧ Fr 172 (fS [1, 8, 9, 10, 11, 13, 99, 100, 101, 12, 16] [vI s_z11.2, vB (base == 0), vS s, .int .u64 z74, .int .u64 (wu64 (x92 - 1)), .int .u64 v109, .slice (some ⟨b102, 0, none⟩) ((ofB s_z11.1).length) c103, vI (ln (ofB s_z11.1)), vI v110, vB s_z119.1, vU s_z119.2]) a' ∧ SH M X w [Ent.row .u8 b102 (ofB s_z11.1) (ln (ofB s_z11.1))] w') ?_ ?_
       ·replace hm := hz
        apply w_block
        obtain ⟨x120, hx120, hm⟩ := letE hm
        refine s_reg [] [1, 8, 9, 10, 11, 12, 13, 15, 99, 100, 101, 106] (fS [1, 8, 9, 10, 11, 12, 13, 15, 99, 100, 101, 106] [vI s_z11.2, vB (base == 0), vS s, .int .u64 z74, .int .u64 (wu64 (x92 - 1)), vB v108, .int .u64 v109, vU (gi (ofB s_z11.1) v110), .slice (some ⟨b102, 0, none⟩) ((ofB s_z11.1).length) c103, vI (ln (ofB s_z11.1)), vI v110, vB x120]) [] H118 (by subst hx120; kernel_rfl) trivial fun _ _ H122 hb => ?_
        replace hS := hS.below hb
        clear H118 hb
        refine w_if H122 rfl (fun hc => ?c142) (fun hc => ?_)
        case c142 =>
         replace hm := bT hc hm
         refine s_reg [] [1, 8, 9, 10, 11, 12, 13, 99, 100, 101] (fS [1, 8, 9, 10, 11, 12, 13, 99, 100, 101] [vI s_z11.2, vB (base == 0), vS s, .int .u64 z74, .int .u64 (wu64 (x92 - 1)), vT, .int .u64 v109, .slice (some ⟨b102, 0, none⟩) ((ofB s_z11.1).length) c103, vI (ln (ofB s_z11.1)), vI v110]) [] H122 (by kernel_rfl) trivial fun _ _ H124 hb => ?_
         replace hS := hS.below hb
         clear H122 hb
         apply w_exit rfl
         obtain ⟨r125, hr_r125, hm⟩ := bindE hm
         obtain rfl := someE hm
         have hm := hm_z119
         obtain rfl := someE hm
         have hm := hr_r125
         clear hr_r125
         obtain rfl := someE hm
         exact ⟨_, rfl, FrG.keep (ks := [1, 8, 9, 10, 11, 99, 100, 101, 12, 13]) H124 (by kernel_rfl), hS⟩
        replace hm := bF hc hm
        obtain ⟨x126, hx126, hm⟩ := letE hm
        refine s_reg [] [1, 8, 9, 10, 11, 12, 13, 15, 99, 100, 101, 112] (fS [1, 8, 9, 10, 11, 12, 13, 15, 99, 100, 101, 112] [vI s_z11.2, vB (base == 0), vS s, .int .u64 z74, .int .u64 (wu64 (x92 - 1)), vB v108, .int .u64 v109, vU (gi (ofB s_z11.1) v110), .slice (some ⟨b102, 0, none⟩) ((ofB s_z11.1).length) c103, vI (ln (ofB s_z11.1)), vI v110, vB x126]) [] H122 (by subst hx126; kernel_rfl) trivial fun _ _ H128 hb => ?_
        replace hS := hS.below hb
        clear H122 hb
        refine w_if H128 rfl (fun hc => ?c141) (fun hc => ?_)
        case c141 =>
         replace hm := bT hc hm
         refine w_reg [] [1, 8, 9, 10, 11, 12, 13, 16, 99, 100, 101] (fS [1, 8, 9, 10, 11, 12, 13, 16, 99, 100, 101] [vI s_z11.2, vB (base == 0), vS s, .int .u64 z74, .int .u64 (wu64 (x92 - 1)), vB v108, .int .u64 v109, vU (wu8 ((gi (ofB s_z11.1) v110) - 48)), .slice (some ⟨b102, 0, none⟩) ((ofB s_z11.1).length) c103, vI (ln (ofB s_z11.1)), vI v110]) [] H128 (by kernel_rfl) trivial fun _ _ H130 hb => ?_
         replace hS := hS.below hb
         clear H128 hb
         obtain rfl := someE hm
         exact ⟨_, rfl, FrG.keep (ks := [1, 8, 9, 10, 11, 13, 99, 100, 101, 12, 16]) H130 (by kernel_rfl), hS⟩
        replace hm := bF hc hm
        obtain ⟨x131, hx131, hm⟩ := letE hm
        obtain ⟨x132, hx132, hm⟩ := letE hm
        refine s_reg [(vU (strconv_lower (gi (ofB s_z11.1) v110))), (vU (strconv_lower (gi (ofB s_z11.1) v110)))] [1, 8, 9, 10, 11, 12, 13, 15, 99, 100, 101, 121] (fS [1, 8, 9, 10, 11, 12, 13, 15, 99, 100, 101, 121] [vI s_z11.2, vB (base == 0), vS s, .int .u64 z74, .int .u64 (wu64 (x92 - 1)), vB v108, .int .u64 v109, vU (gi (ofB s_z11.1) v110), .slice (some ⟨b102, 0, none⟩) ((ofB s_z11.1).length) c103, vI (ln (ofB s_z11.1)), vI v110, vB x132]) [rB 110 [vU (gi (ofB s_z11.1) v110)] (vU (strconv_lower (gi (ofB s_z11.1) v110))), fun wz => (x131 = true ∧ True → RetB Tryz.prog 110 ⟨[vU (gi (ofB s_z11.1) v110)]⟩ (vU (strconv_lower (gi (ofB s_z11.1) v110))) wz)] H128 (by subst hx131 hx132; kernel_rfl) ⟨((strconv_lower_ok _).b), fun hg => (strconv_lower_ok _).b, trivial⟩ fun _ _ H134 hb => ?_
        replace hS := hS.below hb
        clear H128 hb
        refine w_if H134 rfl (fun hc => ?_) (fun hc => ?c140)
        case c140 =>
         replace hm := bF hc hm
         refine s_reg [] [6, 7] (fS [6, 7] [.int .u64 0, .iface 161 (vI 2)]) [] H134 (by kernel_rfl) trivial fun _ _ H139 hb => ?_
         replace hS := hS.below hb
         clear H134 hb
         exact noneE hm
        replace hm := bT hc hm
        obtain ⟨x135, hx135, hm⟩ := letE hm
        refine w_reg [(vU (strconv_lower (gi (ofB s_z11.1) v110)))] [1, 8, 9, 10, 11, 12, 13, 16, 99, 100, 101] (fS [1, 8, 9, 10, 11, 12, 13, 16, 99, 100, 101] [vI s_z11.2, vB (base == 0), vS s, .int .u64 z74, .int .u64 (wu64 (x92 - 1)), vB v108, .int .u64 v109, vU (wu8 (x135 + 10)), .slice (some ⟨b102, 0, none⟩) ((ofB s_z11.1).length) c103, vI (ln (ofB s_z11.1)), vI v110]) [rB 110 [vU (gi (ofB s_z11.1) v110)] (vU (strconv_lower (gi (ofB s_z11.1) v110)))] H134 (by subst hx135; kernel_rfl) ⟨((strconv_lower_ok _).b), trivial⟩ fun _ _ H137 hb => ?_
        replace hS := hS.below hb
        clear H134 hb
        obtain rfl := someE hm
        exact ⟨_, rfl, FrG.keep (ks := [1, 8, 9, 10, 11, 13, 99, 100, 101, 12, 16]) H137 (by kernel_rfl), hS⟩
       ·rintro _ _ ⟨s_z119, hz, H, hS⟩
        subst hz
        replace hm := sumR hm_z119
        apply w_seq
        refine s_reg [] [1, 8, 9, 10, 11, 12, 13, 16, 99, 100, 101, 137] (fS [1, 8, 9, 10, 11, 12, 13, 16, 99, 100, 101, 137] [vI s_z11.2, vB (base == 0), vS s, .int .u64 z74, .int .u64 (wu64 (x92 - 1)), vB s_z119.1, .int .u64 v109, vU s_z119.2, .slice (some ⟨b102, 0, none⟩) ((ofB s_z11.1).length) c103, vI (ln (ofB s_z11.1)), vI v110, vB (decide ((wu8 s_z11.2) ≤ s_z119.2))]) [] H (by kernel_rfl) trivial fun _ _ H144 hb => ?_
        replace hS := hS.below hb
        clear H hb
        refine w_if H144 rfl (fun hc => ?c166) (fun hc => ?_)
        case c166 =>
         replace hm := bT hc hm
         refine s_reg [] [6, 7] (fS [6, 7] [.int .u64 0, .iface 161 (vI 2)]) [] H144 (by kernel_rfl) trivial fun _ _ H146 hb => ?_
         replace hS := hS.below hb
         clear H144 hb
         exact noneE hm
        replace hm := bF hc hm
        apply w_skip
        apply w_seq
        refine s_reg [] [1, 8, 9, 10, 11, 12, 13, 16, 99, 100, 101, 141] (fS [1, 8, 9, 10, 11, 12, 13, 16, 99, 100, 101, 141] [vI s_z11.2, vB (base == 0), vS s, .int .u64 z74, .int .u64 (wu64 (x92 - 1)), vB s_z119.1, .int .u64 v109, vU s_z119.2, .slice (some ⟨b102, 0, none⟩) ((ofB s_z11.1).length) c103, vI (ln (ofB s_z11.1)), vI v110, vB (decide (z74 ≤ v109))]) [] H144 (by kernel_rfl) trivial fun _ _ H148 hb => ?_
        replace hS := hS.below hb
        clear H144 hb
        refine w_if H148 rfl (fun hc => ?c165) (fun hc => ?_)
        case c165 =>
         replace hm := bT hc hm
         refine s_reg [] [6, 7] (fS [6, 7] [.int .u64 (wu64 (x92 - 1)), .iface 161 (vI 1)]) [] H148 (by kernel_rfl) trivial fun _ _ H150 hb => ?_
         replace hS := hS.below hb
         clear H148 hb
         exact noneE hm
        replace hm := bF hc hm
        apply w_skip
        refine s_reg [] [1, 8, 9, 10, 11, 12, 13, 16, 99, 100, 101] (fS [1, 8, 9, 10, 11, 12, 13, 16, 99, 100, 101] [vI s_z11.2, vB (base == 0), vS s, .int .u64 z74, .int .u64 (wu64 (x92 - 1)), vB s_z119.1, .int .u64 (wu64 (v109 * (wu64 s_z11.2))), vU s_z119.2, .slice (some ⟨b102, 0, none⟩) ((ofB s_z11.1).length) c103, vI (ln (ofB s_z11.1)), vI v110]) [] H148 (by kernel_rfl) trivial fun _ _ H152 hb => ?_
        replace hS := hS.below hb
        clear H148 hb
        obtain ⟨x153, hx153, hm⟩ := letE hm
        refine s_reg [] [1, 8, 9, 10, 11, 12, 13, 17, 99, 100, 101] (fS [1, 8, 9, 10, 11, 12, 13, 17, 99, 100, 101] [vI s_z11.2, vB (base == 0), vS s, .int .u64 z74, .int .u64 (wu64 (x92 - 1)), vB s_z119.1, .int .u64 (wu64 (v109 * (wu64 s_z11.2))), .int .u64 x153, .slice (some ⟨b102, 0, none⟩) ((ofB s_z11.1).length) c103, vI (ln (ofB s_z11.1)), vI v110]) [] H152 (by subst hx153; kernel_rfl) trivial fun _ _ H155 hb => ?_
        replace hS := hS.below hb
        clear H152 hb
        apply w_seq
        obtain ⟨x156, hx156, hm⟩ := letE hm
        obtain ⟨x157, hx157, hm⟩ := letE hm
        refine s_reg [] [1, 8, 9, 10, 11, 12, 17, 99, 100, 101, 159] (fS [1, 8, 9, 10, 11, 12, 17, 99, 100, 101, 159] [vI s_z11.2, vB (base == 0), vS s, .int .u64 z74, .int .u64 (wu64 (x92 - 1)), vB s_z119.1, .int .u64 x153, .slice (some ⟨b102, 0, none⟩) ((ofB s_z11.1).length) c103, vI (ln (ofB s_z11.1)), vI v110, vB x157]) [] H155 (by subst hx156 hx157; kernel_rfl) trivial fun _ _ H159 hb => ?_
        replace hS := hS.below hb
        clear H155 hb
        refine w_if H159 rfl (fun hc => ?c164) (fun hc => ?_)
        case c164 =>
         replace hm := bT hc hm
         refine s_reg [] [6, 7] (fS [6, 7] [.int .u64 (wu64 (x92 - 1)), .iface 161 (vI 1)]) [] H159 (by kernel_rfl) trivial fun _ _ H161 hb => ?_
         replace hS := hS.below hb
         clear H159 hb
         exact noneE hm
        replace hm := bF hc hm
        apply w_skip
        refine w_reg [] [1, 8, 9, 10, 11, 12, 13, 99, 100, 101] (fS [1, 8, 9, 10, 11, 12, 13, 99, 100, 101] [vI s_z11.2, vB (base == 0), vS s, .int .u64 z74, .int .u64 (wu64 (x92 - 1)), vB s_z119.1, .int .u64 x153, .slice (some ⟨b102, 0, none⟩) ((ofB s_z11.1).length) c103, vI (ln (ofB s_z11.1)), vI v110]) [] H159 (by kernel_rfl) trivial fun _ _ H163 hb => ?_
        replace hS := hS.below hb
        clear H159 hb
        obtain rfl := someE hm
        exact ⟨_, rfl, FrG.keep (ks := [1, 8, 9, 10, 11, 99, 100, 101, 12, 13]) H163 (by kernel_rfl), hS⟩
      ·rintro _ _ ⟨s_z113, hz, H, hS⟩
       subst hz
       replace hm := sumR hm_z113
       refine w_reg [] [1, 8, 9, 10, 11, 12, 13, 99, 100, 101] (fS [1, 8, 9, 10, 11, 12, 13, 99, 100, 101] [vI s_z11.2, vB (base == 0), vS s, .int .u64 z74, .int .u64 (wu64 (x92 - 1)), vB s_z113.1, .int .u64 s_z113.2, .slice (some ⟨b102, 0, none⟩) ((ofB s_z11.1).length) c103, vI (ln (ofB s_z11.1)), vI (w64 (v110 + 1))]) [] H (by kernel_rfl) trivial fun _ _ H169 hb => ?_
       replace hS := hS.below hb
       clear H hb
       exact ⟨_, Nat.lt_succ_self _, s_z113.1, s_z113.2, w64 (v110 + 1), hm, FrG.keep (ks := [1, 8, 9, 10, 11, 99, 100, 12, 13, 101]) H169 (by kernel_rfl), hS⟩
    ·rintro _ _ ⟨s_z99, hz, H, hS⟩
     subst hz
     replace hm := sumR hm_z99
     apply w_seq
     obtain ⟨y173, hy173, hm⟩ := bindE hm
     refine s_reg [(vB y173)] [13, 169] (fS [13, 169] [.int .u64 s_z99.2, vB (cond s_z99.1 (!y173) false)]) [fun wz => (s_z99.1 = true ∧ True → RetB Tryz.prog 111 ⟨[vS s]⟩ (vB y173) wz)] H (by kernel_rfl) ⟨fun hg => (strconv_underscoreOK_ok m _ _ (bT (hg.1) hy173)).b, trivial⟩ fun _ _ H175 hb => ?_
     replace hS := hS.below hb
     clear H hb
     refine w_if H175 rfl (fun hc => ?c180) (fun hc => ?_)
     case c180 =>
      replace hm := bT hc hm
      refine s_reg [] [6, 7] (fS [6, 7] [.int .u64 0, .iface 161 (vI 2)]) [] H175 (by kernel_rfl) trivial fun _ _ H177 hb => ?_
      replace hS := hS.below hb
      clear H175 hb
      exact noneE hm
     replace hm := bF hc hm
     apply w_skip
     refine s_reg [] [6, 7] (fS [6, 7] [.int .u64 s_z99.2, .nilIface]) [] H175 (by kernel_rfl) trivial fun _ _ H179 hb => ?_
     replace hS := hS.below hb
     clear H175 hb
     apply w_ret
     obtain rfl := someE hm
     exact retR2 H179 rfl rfl rfl ⟨_, rfl, rfl, (hS.sel [] rfl)⟩
theorem strconv_ParseUint_2_ok  (m : Nat) (s : Str) (base : Int) (bitSize : Int) (r : Int) (hm : strconv_ParseUint_2 m s base bitSize = some r) : Ret Tryz.prog 89 ⟨[vS s, vI base, vI bitSize]⟩ (vW [.int .u64 r, .nilIface]) := retP_of (Tryz.call89 _) (fun w h => strconv_ParseUint_2_w F0 m   s base bitSize r hm w h)

theorem strconv_ParseUint_w  (M : Av) (m : Nat) (s : Str) (base : Int) (bitSize : Int) (r : Int) (hm : strconv_ParseUint m s base bitSize = some r) (w : World) (hS : S0 M [] w) : Calls Tryz.prog 70 ⟨[vS s, vI base, vI bitSize]⟩ w (fun e w' => ∃ v, e = .returned v ∧ v = vW [.int .u64 r, .nilIface] ∧ SH M (fpl []) w [] w') := by
 rw [strconv_ParseUint] at hm
 have hS0 : SH M (fpl []) w [] w := hS
 generalize hX : fpl [] = X at hS0 ⊢
 clear hS hX
 have hS := hS0
 clear hS0
 refine calls_entryP Tryz.func70 rfl Tryz.ntmps70 rfl fun _ H => ?_
 refine s_reg [] [0, 1, 2] (fS [0, 1, 2] [vS s, vI base, vI bitSize]) [] H (by kernel_rfl) trivial fun _ _ H2 hb => ?_
 replace hS := hS.below hb
 clear H hb
 obtain ⟨y3, hy3, hm⟩ := bindE hm
 refine s_reg [(vW [.int .u64 y3, .nilIface])] [0, 1, 2, 8, 9] (fS [0, 1, 2, 8, 9] [vS s, vI base, vI bitSize, .int .u64 y3, .nilIface]) [rB 89 [vS s, vI base, vI bitSize] (vW [.int .u64 y3, .nilIface])] H2 (by kernel_rfl) ⟨((strconv_ParseUint_2_ok m _ _ _ _ hy3).b), trivial⟩ fun _ _ H5 hb => ?_
 replace hS := hS.below hb
 clear H2 hb
 apply w_seq
 refine s_reg [] [0, 1, 2, 8, 9, 18] (fS [0, 1, 2, 8, 9, 18] [vS s, vI base, vI bitSize, .int .u64 y3, .nilIface, vF]) [] H5 (by kernel_rfl) trivial fun _ _ H7 hb => ?_
 replace hS := hS.below hb
 clear H5 hb
 refine w_if H7 rfl (fun hc => by cases hc) (fun _ => ?_)
 apply w_skip
 refine s_reg [] [6, 7] (fS [6, 7] [.int .u64 y3, .nilIface]) [] H7 (by kernel_rfl) trivial fun _ _ H9 hb => ?_
 replace hS := hS.below hb
 clear H7 hb
 apply w_ret
 obtain rfl := someE hm
 exact retR2 H9 rfl rfl rfl ⟨_, rfl, rfl, (hS.sel [] rfl)⟩
theorem strconv_ParseUint_ok  (m : Nat) (s : Str) (base : Int) (bitSize : Int) (r : Int) (hm : strconv_ParseUint m s base bitSize = some r) : Ret Tryz.prog 70 ⟨[vS s, vI base, vI bitSize]⟩ (vW [.int .u64 r, .nilIface]) := retP_of (Tryz.call70 _) (fun w h => strconv_ParseUint_w F0 m   s base bitSize r hm w h)

theorem parseval_hash_w  (M : Av) (m : Nat) (s : Str) (r : TColor × Bool) (hm : parseval_hash m s = some r) (w : World) (hS : S0 M [] w) : Calls Tryz.prog 49 ⟨[vS s]⟩ w (fun e w' => ∃ v, e = .returned v ∧ v = vW [vG (cC r.1), vB r.2] ∧ SH M (fpl []) w [] w') := by
 rw [parseval_hash] at hm
 have hS0 : SH M (fpl []) w [] w := hS
 generalize hX : fpl [] = X at hS0 ⊢
 clear hS hX
 have hS := hS0
 clear hS0
 refine calls_entryP Tryz.func49 rfl Tryz.ntmps49 rfl fun _ H => ?_
 apply w_seq
 apply wl_start
 have hd := hS.hand [] [] rfl rfl
 refine m_stp [2, 0] [(0, [], vS s)] H rfl rfl rfl rfl (o_alloc [vU 0, vU 0, vU 0, vU 0] (z := vG [vU 0, vU 0, vU 0, vU 0]) hd (by kernel_rfl) rfl) (fun _ => rfl) fun _ _ v H3 hq => ?_
 clear H hd
 obtain ⟨b1, rfl, hq⟩ := hq
 replace hS : SH M X w [eB b1 [vU 0, vU 0, vU 0, vU 0]] _ := hS.join [] [] rfl rfl hq
 clear hq
 refine wl_batch 1 2 [] [0, 2] (fS [0, 2] [vS s, vP b1]) [] H3 (by decide) (by kernel_rfl) trivial fun _ _ H5 hb => ?_
 replace hS := hS.below hb
 clear H3 hb
 apply wl_end rfl
 obtain ⟨z6, hz, hm⟩ := bindE hm
 refine w_cut (fun a' w' => Fr 98 (fS [2, 0] [vP b1, vS z6]) a' ∧ SH M X w [eB b1 [vU 0, vU 0, vU 0, vU 0]] w') ?_ ?_
 ·replace hm := hz
  refine s_reg [] [0, 2, 4] (fS [0, 2, 4] [vS s, vP b1, vI (ln s)]) [] H5 (by kernel_rfl) trivial fun _ _ H8 hb => ?_
  replace hS := hS.below hb
  clear H5 hb
  refine s_reg [] [0, 2, 4, 18] (fS [0, 2, 4, 18] [vS s, vP b1, vI (ln s), vB (cond ((ln s) == 3) true ((ln s) == 4))]) [] H8 (by kernel_rfl) trivial fun _ _ H10 hb => ?_
  replace hS := hS.below hb
  clear H8 hb
  refine w_if H10 rfl (fun hc => ?_) (fun hc => ?c35)
  case c35 =>
   replace hm := bF hc hm
   apply w_skip
   obtain rfl := someE hm
   exact ⟨FrG.keep (ks := [2, 0]) H10 (by kernel_rfl), hS⟩
  replace hm := bT hc hm
  refine s_reg [] [0, 2, 4, 5] (fS [0, 2, 4, 5] [vS s, vP b1, vI (ln s), vN]) [] H10 (by kernel_rfl) trivial fun _ _ H12 hb => ?_
  replace hS := hS.below hb
  clear H10 hb
  obtain ⟨z13, hz, hm⟩ := bindE hm
  refine w_cut (fun a' w' => Fr 98 (fS [2, 5] [vP b1, vS z13]) a' ∧ SH M X w [eB b1 [vU 0, vU 0, vU 0, vU 0]] w') ?_ ?_
  ·replace hm := hz
   refine s_reg [] [0, 2, 5, 19, 20] (fS [0, 2, 5, 19, 20] [vS s, vP b1, vN, vI (ln s), vI 0]) [] H12 (by kernel_rfl) trivial fun _ _ H15 hb => ?_
   replace hS := hS.below hb
   clear H12 hb
   apply w_block
   refine w_loop (fun kk a' w' => ∃ (v16 : Str) (v17 : Int), parseval_hash_L1 m s kk v16 v17 = some _ ∧ Fr 98 (fS [0, 2, 19, 5, 20] [vS s, vP b1, vI (ln s), vS v16, vI v17]) a' ∧ SH M X w [eB b1 [vU 0, vU 0, vU 0, vU 0]] w') ⟨_, [], 0, hm, FrG.keep (ks := [0, 2, 19, 5, 20]) H15 (by kernel_rfl), hS⟩ ?_
   clear hm H15 hS
   rintro kk _ _ ⟨v16, v17, hm, H, hS⟩
   cases kk with
   | zero => exact noneE hm
   | succ kk =>
    rw [parseval_hash_L1] at hm
    refine s_reg [] [0, 2, 5, 19, 20, 21] (fS [0, 2, 5, 19, 20, 21] [vS s, vP b1, vS v16, vI (ln s), vI v17, vB (decide (v17 < (ln s)))]) [] H (by kernel_rfl) trivial fun _ _ H19 hb => ?_
    replace hS := hS.below hb
    clear H hb
    apply w_seq
    refine w_if H19 rfl (fun hc => ?_) (fun hc => ?c30)
    case c30 =>
     replace hm := bF hc hm
     apply w_exit rfl
     obtain rfl := someE hm
     exact ⟨FrG.keep (ks := [2, 5]) H19 (by kernel_rfl), hS⟩
    replace hm := bT hc hm
    apply w_skip
    apply w_seq
    apply w_block
    refine s_reg [] [0, 2, 5, 6, 19, 20] (fS [0, 2, 5, 6, 19, 20] [vS s, vP b1, vS v16, vI v17, vI (ln s), vI v17]) [] H19 (by kernel_rfl) trivial fun _ _ H21 hb => ?_
    replace hS := hS.below hb
    clear H19 hb
    obtain ⟨ho22, hm⟩ := chkE hm
    obtain ⟨ho23, hm⟩ := chkE hm
    obtain ⟨x24, hx24, hm⟩ := letE hm
    obtain ⟨ho25, hm⟩ := chkE hm
    refine w_draw [] [0, 2, 5, 19, 20] (fS [0, 2, 5, 19, 20] [vS s, vP b1, vS (v16 ++ x24), vI (ln s), vI v17]) [fun _ => 0 ≤ v17 ∧ v17 ≤ (w64 (v17 + 1)) ∧ (w64 (v17 + 1)) ≤ ln s, fun _ => 0 ≤ v17 ∧ v17 ≤ (w64 (v17 + 1)) ∧ (w64 (v17 + 1)) ≤ ln s, fun _ => ln (sub s v17 (w64 (v17 + 1))) + ln (sub s v17 (w64 (v17 + 1))) ≤ 9223372036854775807, fun _ => ln v16 + ln x24 ≤ 9223372036854775807] H21 (by kernel_rfl) (by kernel_rfl) (by subst hx24; kernel_rfl) ⟨ho22, ho22, ho23, ho25, trivial⟩ fun _ _ H27 hb => ?_
    replace hS := hS.below hb
    clear H21 hb
    refine w_reg [] [0, 2, 5, 19, 20] (fS [0, 2, 5, 19, 20] [vS s, vP b1, vS (v16 ++ x24), vI (ln s), vI (w64 (v17 + 1))]) [] H27 (by kernel_rfl) trivial fun _ _ H29 hb => ?_
    replace hS := hS.below hb
    clear H27 hb
    exact ⟨_, Nat.lt_succ_self _, v16 ++ x24, w64 (v17 + 1), hm, FrG.keep (ks := [0, 2, 19, 5, 20]) H29 (by kernel_rfl), hS⟩
  ·rintro _ _ ⟨H, hS⟩
   refine w_reg [] [0, 2] (fS [0, 2] [vS z13, vP b1]) [] H (by kernel_rfl) trivial fun _ _ H33 hb => ?_
   replace hS := hS.below hb
   clear H hb
   obtain rfl := someE hm
   exact ⟨FrG.keep (ks := [2, 0]) H33 (by kernel_rfl), hS⟩
 ·rintro _ _ ⟨H, hS⟩
  obtain ⟨z36, hz, hm⟩ := bindE hm
  refine w_cut (fun a' w' => Fr 98 (fS [2, 0] [vP b1, vS z36]) a' ∧ SH M X w [eB b1 [vU 0, vU 0, vU 0, vU 0]] w') ?_ ?_
  ·replace hm := hz
   refine s_reg [] [0, 2, 40] (fS [0, 2, 40] [vS z6, vP b1, vB ((ln z6) == 6)]) [] H (by kernel_rfl) trivial fun _ _ H38 hb => ?_
   replace hS := hS.below hb
   clear H hb
   refine w_if H38 rfl (fun hc => ?_) (fun hc => ?c42)
   case c42 =>
    replace hm := bF hc hm
    apply w_skip
    obtain rfl := someE hm
    exact ⟨FrG.keep (ks := [2, 0]) H38 (by kernel_rfl), hS⟩
   replace hm := bT hc hm
   obtain ⟨ho39, hm⟩ := chkE hm
   refine w_reg [] [0, 2] (fS [0, 2] [vS (z6 ++ [102, 102]), vP b1]) [fun _ => ln z6 + ln [102, 102] ≤ 9223372036854775807] H38 (by kernel_rfl) ⟨ho39, trivial⟩ fun _ _ H41 hb => ?_
   replace hS := hS.below hb
   clear H38 hb
   obtain rfl := someE hm
   exact ⟨FrG.keep (ks := [2, 0]) H41 (by kernel_rfl), hS⟩
  ·rintro _ _ ⟨H, hS⟩
   apply w_seq
   refine s_reg [] [0, 2, 45] (fS [0, 2, 45] [vS z36, vP b1, vB ((ln z36) != 8)]) [] H (by kernel_rfl) trivial fun _ _ H44 hb => ?_
   replace hS := hS.below hb
   clear H hb
   refine w_if H44 rfl (fun hc => ?c86) (fun hc => ?_)
   case c86 =>
    replace hm := bT hc hm
    apply w_seq
    apply wl_start
    refine wl_batch 0 1 [] [2, 46] (fS [2, 46] [vP b1, vG [vU 0, vU 0, vU 0, vU 0]]) [] H44 (by decide) (by kernel_rfl) trivial fun _ _ H46 hb => ?_
    replace hS := hS.below hb
    clear H44 hb
    have hd := hS.hand [0] [] rfl rfl
    refine m_stp0 [2] [(2, [], vP b1)] H46 rfl rfl rfl (o_store [vU 0, vU 0, vU 0, vU 0] H46 hd rfl rfl (by kernel_rfl) rfl rfl rfl) rfl fun _ _ H48 hq => ?_
    clear H46 hd
    obtain ⟨_, hq⟩ := hq
    replace hS : SH M X w [eB b1 [vU 0, vU 0, vU 0, vU 0]] _ := hS.join [0] [] rfl rfl hq
    clear hq
    refine wl_batch 2 3 [] [2, 3] (fS [2, 3] [vP b1, vF]) [] H48 (by decide) (by kernel_rfl) trivial fun _ _ H50 hb => ?_
    replace hS := hS.below hb
    clear H48 hb
    apply wl_end rfl
    apply w_ret
    obtain rfl := someE hm
    exact retR2 H50 rfl (oneRes_agg rfl (hS.bk 0 rfl) Tryz.underlying26 rfl (by kernel_rfl)) rfl ⟨_, rfl, rfl, (hS.sel [] rfl)⟩
   replace hm := bF hc hm
   apply w_skip
   obtain ⟨z51, hz, hm_z51⟩ := bindE hm
   refine w_cut (fun a' w' => ∃ s_z51 : Unit, z51 = Sum.inr s_z51 ∧ Fr 98 (fS [0, 2] [vS z36, vP b1]) a' ∧ SH M X w [eB b1 [vU 0, vU 0, vU 0, vU 0]] w') ?_ ?_
   ·replace hm := hz
    refine s_reg [] [0, 2, 48, 49] (fS [0, 2, 48, 49] [vS z36, vP b1, vI (ln z36), vI 0]) [] H44 (by kernel_rfl) trivial fun _ _ H53 hb => ?_
    replace hS := hS.below hb
    clear H44 hb
    apply w_block
    refine w_loop (fun kk a' w' => ∃ (v54 : Int), parseval_hash_L2 m z36 kk v54 = some _ ∧ Fr 98 (fS [0, 2, 48, 49] [vS z36, vP b1, vI (ln z36), vI v54]) a' ∧ SH M X w [eB b1 [vU 0, vU 0, vU 0, vU 0]] w') ⟨_, 0, hm, FrG.keep (ks := [0, 2, 48, 49]) H53 (by kernel_rfl), hS⟩ ?_
    clear hm H53 hS
    rintro kk _ _ ⟨v54, hm, H, hS⟩
    cases kk with
    | zero => exact noneE hm
    | succ kk =>
     rw [parseval_hash_L2] at hm
     refine s_reg [] [0, 2, 48, 49, 50] (fS [0, 2, 48, 49, 50] [vS z36, vP b1, vI (ln z36), vI v54, vB (decide (v54 < (ln z36)))]) [] H (by kernel_rfl) trivial fun _ _ H56 hb => ?_
     replace hS := hS.below hb
     clear H hb
     apply w_seq
     refine w_if H56 rfl (fun hc => ?_) (fun hc => ?c76)
     case c76 =>
      replace hm := bF hc hm
      apply w_exit rfl
      obtain rfl := someE hm
      exact ⟨_, rfl, FrG.keep (ks := [0, 2]) H56 (by kernel_rfl), hS⟩
     replace hm := bT hc hm
     apply w_skip
     apply w_seq
     apply w_block
     refine s_reg [] [0, 2, 7, 48, 49] (fS [0, 2, 7, 48, 49] [vS z36, vP b1, vI v54, vI (ln z36), vI v54]) [] H56 (by kernel_rfl) trivial fun _ _ H58 hb => ?_
     replace hS := hS.below hb
     clear H56 hb
     obtain ⟨ho59, hm⟩ := chkE hm
     refine s_reg [] [0, 2, 8, 48, 49] (fS [0, 2, 8, 48, 49] [vS z36, vP b1, vU (bat z36 v54), vI (ln z36), vI v54]) [fun _ => 0 ≤ v54 ∧ v54 < ln z36] H58 (by kernel_rfl) ⟨ho59, trivial⟩ fun _ _ H61 hb => ?_
     replace hS := hS.below hb
     clear H58 hb
     obtain ⟨x62, hx62, hm⟩ := letE hm
     obtain ⟨x63, hx63, hm⟩ := letE hm
     obtain ⟨x64, hx64, hm⟩ := letE hm
     refine s_reg [] [0, 2, 48, 49, 76] (fS [0, 2, 48, 49, 76] [vS z36, vP b1, vI (ln z36), vI v54, vB x64]) [] H61 (by subst hx62 hx63 hx64; kernel_rfl) trivial fun _ _ H66 hb => ?_
     replace hS := hS.below hb
     clear H61 hb
     refine w_if H66 rfl (fun hc => ?_) (fun hc => ?c75)
     case c75 =>
      replace hm := bF hc hm
      apply w_skip
      refine w_reg [] [0, 2, 48, 49] (fS [0, 2, 48, 49] [vS z36, vP b1, vI (ln z36), vI (w64 (v54 + 1))]) [] H66 (by kernel_rfl) trivial fun _ _ H74 hb => ?_
      replace hS := hS.below hb
      clear H66 hb
      exact ⟨_, Nat.lt_succ_self _, w64 (v54 + 1), hm, FrG.keep (ks := [0, 2, 48, 49]) H74 (by kernel_rfl), hS⟩
     replace hm := bT hc hm
     apply w_seq
     apply wl_start
     refine wl_batch 0 1 [] [2, 77] (fS [2, 77] [vP b1, vG [vU 0, vU 0, vU 0, vU 0]]) [] H66 (by decide) (by kernel_rfl) trivial fun _ _ H68 hb => ?_
     replace hS := hS.below hb
     clear H66 hb
     have hd := hS.hand [0] [] rfl rfl
     refine m_stp0 [2] [(2, [], vP b1)] H68 rfl rfl rfl (o_store [vU 0, vU 0, vU 0, vU 0] H68 hd rfl rfl (by kernel_rfl) rfl rfl rfl) rfl fun _ _ H70 hq => ?_
     clear H68 hd
     obtain ⟨_, hq⟩ := hq
     replace hS : SH M X w [eB b1 [vU 0, vU 0, vU 0, vU 0]] _ := hS.join [0] [] rfl rfl hq
     clear hq
     refine wl_batch 2 3 [] [2, 3] (fS [2, 3] [vP b1, vF]) [] H70 (by decide) (by kernel_rfl) trivial fun _ _ H72 hb => ?_
     replace hS := hS.below hb
     clear H70 hb
     apply wl_end rfl
     apply w_ret
     obtain rfl := someE hm
     have hm := hm_z51
     obtain rfl := someE hm
     exact retR2 H72 rfl (oneRes_agg rfl (hS.bk 0 rfl) Tryz.underlying26 rfl (by kernel_rfl)) rfl ⟨_, rfl, rfl, (hS.sel [] rfl)⟩
   ·rintro _ _ ⟨s_z51, hz, H, hS⟩
    subst hz
    replace hm := sumR hm_z51
    obtain ⟨y78, hy78, hm⟩ := bindE hm
    refine s_reg [(vW [.int .u64 y78, .nilIface])] [2, 9, 10] (fS [2, 9, 10] [vP b1, .int .u64 y78, .nilIface]) [rB 70 [vS z36, vI 16, vI 32] (vW [.int .u64 y78, .nilIface])] H (by kernel_rfl) ⟨((strconv_ParseUint_ok m _ _ _ _ hy78).b), trivial⟩ fun _ _ H80 hb => ?_
    replace hS := hS.below hb
    clear H hb
    refine s_drawS (base := (fS [2, 9, 10] [vP b1, .int .u64 y78, .nilIface])) (L := [eB b1 [vU 0, vU 0, vU 0, vU 0]]) 16 1 (fun yg81 => [.int .u64 y78, .int .u64 (Int.fdiv y78 (2 ^ 24)), vU (wu8 (Int.fdiv y78 (2 ^ 24))), .int .u64 y78, .int .u64 (Int.fdiv y78 (2 ^ 16)), vU (wu8 (Int.fdiv y78 (2 ^ 16))), .int .u64 y78, .int .u64 (Int.fdiv y78 (2 ^ 8)), vU (wu8 (Int.fdiv y78 (2 ^ 8))), .int .u64 y78, vU (wu8 y78), vG [vU (wu8 (Int.fdiv y78 (2 ^ 24))), vU (wu8 (Int.fdiv y78 (2 ^ 16))), vU (wu8 (Int.fdiv y78 (2 ^ 8))), vU (wu8 y78)], .nilIface, vT, undef, vT]) (fun yg81 => [[], [], [], [], [], [], [], [], [], [], [], [], [], [], [eB b1 [vU (wu8 (Int.fdiv y78 (2 ^ 24))), vU (wu8 (Int.fdiv y78 (2 ^ 16))), vU (wu8 (Int.fdiv y78 (2 ^ 8))), vU (wu8 y78)]], []]) [[], [], [], [], [], [], [], [], [], [], [], [], [], [], [16], []] [[], [], [], [], [], [], [], [], [], [], [], [], [], [], [16], []] [[0], [0, 1], [0, 1, 2], [3], [3, 4], [3, 4, 5], [6], [6, 7], [6, 7, 8], [9], [9, 10], [0, 1, 2, 3, 4, 5, 6, 7, 8, 9, 10, 11], [12], [12, 13], [0, 1, 2, 3, 4, 5, 6, 7, 8, 9, 10, 11, 14], [12, 13, 15]] [] (FrG.keep (ks := [2, 9, 10]) H80 (by kernel_rfl)) (fun _ _ h => by cases h) (by kernel_rfl) hS (by kernel_rfl) rfl rfl (by kernel_rfl) (by kernel_rfl) (by kernel_rfl) (gd_none (by kernel_rfl) _ _) ?hloc_yg81 ?hstep_yg81 fun _ _ yg81 H83 hv hS => ?hK_yg81
    case hloc_yg81 => exact ⟨(fun _ _ _ _ => ⟨rfl, rfl⟩), (fun _ _ _ _ => ⟨rfl, rfl⟩), (fun _ _ _ _ => ⟨rfl, rfl⟩), (fun _ _ _ _ => ⟨rfl, rfl⟩), (fun _ _ _ _ => ⟨rfl, rfl⟩), (fun _ _ _ _ => ⟨rfl, rfl⟩), (fun _ _ _ _ => ⟨rfl, rfl⟩), (fun _ _ _ _ => ⟨rfl, rfl⟩), (fun _ _ _ _ => ⟨rfl, rfl⟩), (fun _ _ _ _ => ⟨rfl, rfl⟩), (fun _ _ _ _ => ⟨rfl, rfl⟩), (fun _ _ _ _ => ⟨rfl, rfl⟩), (fun _ _ _ _ => ⟨rfl, rfl⟩), (fun _ _ _ _ => ⟨rfl, rfl⟩), (fun _ _ _ _ => ⟨rfl, rfl⟩), (fun _ _ _ _ => ⟨rfl, rfl⟩), trivial⟩
    case hstep_yg81 =>
     refine ⟨?_, ?_, ?_, ?_, ?_, ?_, ?_, ?_, ?_, ?_, ?_, ?_, ?_, ?_, ?_, ?_, trivial⟩
     ·intro o ho a w yg81 M Hb hv hO hS
      obtain rfl := someE ho
      exact Stp.mono (o_evs [] (.int .u64 y78) none [] Hb rfl (by kernel_rfl) (fun q e => by cases e)) fun _ _ hq => ⟨gL [], fun _ _ => hq.1, (hS.below hq.2.below).sel [] rfl⟩
     ·intro o ho a w yg81 M Hb hv hO hS
      obtain rfl := someE ho
      exact Stp.mono (o_evs [] (.int .u64 (Int.fdiv y78 (2 ^ 24))) (some (fun _ => (0 : Int) ≤ 24)) [] ((Hb).add (hv 0 (by decide) (by decide) 84 rfl)) rfl (by kernel_rfl) (fun q e => by cases e; exact (by show (0 : Int) ≤ 24; decide))) fun _ _ hq => ⟨gL [], fun _ _ => hq.1, (hS.below hq.2.below).sel [] rfl⟩
     ·intro o ho a w yg81 M Hb hv hO hS
      obtain rfl := someE ho
      exact Stp.mono (o_evs [] (vU (wu8 (Int.fdiv y78 (2 ^ 24)))) none [] ((Hb).add (hv 1 (by decide) (by decide) 85 rfl)) rfl (by kernel_rfl) (fun q e => by cases e)) fun _ _ hq => ⟨gL [], fun _ _ => hq.1, (hS.below hq.2.below).sel [] rfl⟩
     ·intro o ho a w yg81 M Hb hv hO hS
      obtain rfl := someE ho
      exact Stp.mono (o_evs [] (.int .u64 y78) none [] Hb rfl (by kernel_rfl) (fun q e => by cases e)) fun _ _ hq => ⟨gL [], fun _ _ => hq.1, (hS.below hq.2.below).sel [] rfl⟩
     ·intro o ho a w yg81 M Hb hv hO hS
      obtain rfl := someE ho
      exact Stp.mono (o_evs [] (.int .u64 (Int.fdiv y78 (2 ^ 16))) (some (fun _ => (0 : Int) ≤ 16)) [] ((Hb).add (hv 3 (by decide) (by decide) 87 rfl)) rfl (by kernel_rfl) (fun q e => by cases e; exact (by show (0 : Int) ≤ 16; decide))) fun _ _ hq => ⟨gL [], fun _ _ => hq.1, (hS.below hq.2.below).sel [] rfl⟩
     ·intro o ho a w yg81 M Hb hv hO hS
      obtain rfl := someE ho
      exact Stp.mono (o_evs [] (vU (wu8 (Int.fdiv y78 (2 ^ 16)))) none [] ((Hb).add (hv 4 (by decide) (by decide) 88 rfl)) rfl (by kernel_rfl) (fun q e => by cases e)) fun _ _ hq => ⟨gL [], fun _ _ => hq.1, (hS.below hq.2.below).sel [] rfl⟩
     ·intro o ho a w yg81 M Hb hv hO hS
      obtain rfl := someE ho
      exact Stp.mono (o_evs [] (.int .u64 y78) none [] Hb rfl (by kernel_rfl) (fun q e => by cases e)) fun _ _ hq => ⟨gL [], fun _ _ => hq.1, (hS.below hq.2.below).sel [] rfl⟩
     ·intro o ho a w yg81 M Hb hv hO hS
      obtain rfl := someE ho
      exact Stp.mono (o_evs [] (.int .u64 (Int.fdiv y78 (2 ^ 8))) (some (fun _ => (0 : Int) ≤ 8)) [] ((Hb).add (hv 6 (by decide) (by decide) 90 rfl)) rfl (by kernel_rfl) (fun q e => by cases e; exact (by show (0 : Int) ≤ 8; decide))) fun _ _ hq => ⟨gL [], fun _ _ => hq.1, (hS.below hq.2.below).sel [] rfl⟩
     ·intro o ho a w yg81 M Hb hv hO hS
      obtain rfl := someE ho
      exact Stp.mono (o_evs [] (vU (wu8 (Int.fdiv y78 (2 ^ 8)))) none [] ((Hb).add (hv 7 (by decide) (by decide) 91 rfl)) rfl (by kernel_rfl) (fun q e => by cases e)) fun _ _ hq => ⟨gL [], fun _ _ => hq.1, (hS.below hq.2.below).sel [] rfl⟩
     ·intro o ho a w yg81 M Hb hv hO hS
      obtain rfl := someE ho
      exact Stp.mono (o_evs [] (.int .u64 y78) none [] Hb rfl (by kernel_rfl) (fun q e => by cases e)) fun _ _ hq => ⟨gL [], fun _ _ => hq.1, (hS.below hq.2.below).sel [] rfl⟩
     ·intro o ho a w yg81 M Hb hv hO hS
      obtain rfl := someE ho
      exact Stp.mono (o_evs [] (vU (wu8 y78)) none [] ((Hb).add (hv 9 (by decide) (by decide) 93 rfl)) rfl (by kernel_rfl) (fun q e => by cases e)) fun _ _ hq => ⟨gL [], fun _ _ => hq.1, (hS.below hq.2.below).sel [] rfl⟩
     ·intro o ho a w yg81 M Hb hv hO hS
      obtain rfl := someE ho
      exact Stp.mono (o_evs [] (vG [vU (wu8 (Int.fdiv y78 (2 ^ 24))), vU (wu8 (Int.fdiv y78 (2 ^ 16))), vU (wu8 (Int.fdiv y78 (2 ^ 8))), vU (wu8 y78)]) none [] (((((Hb).add (hv 2 (by decide) (by decide) 86 rfl)).add (hv 5 (by decide) (by decide) 89 rfl)).add (hv 8 (by decide) (by decide) 92 rfl)).add (hv 10 (by decide) (by decide) 94 rfl)) rfl (by kernel_rfl) (fun q e => by cases e)) fun _ _ hq => ⟨gL [], fun _ _ => hq.1, (hS.below hq.2.below).sel [] rfl⟩
     ·intro o ho a w yg81 M Hb hv hO hS
      obtain rfl := someE ho
      exact Stp.mono (o_evs [] (.nilIface) none [] Hb rfl (by kernel_rfl) (fun q e => by cases e)) fun _ _ hq => ⟨gL [], fun _ _ => hq.1, (hS.below hq.2.below).sel [] rfl⟩
     ·intro o ho a w yg81 M Hb hv hO hS
      obtain rfl := someE ho
      exact Stp.mono (o_evs [] (vT) none [] ((Hb).add (hv 12 (by decide) (by decide) 96 rfl)) rfl (by kernel_rfl) (fun q e => by cases e)) fun _ _ hq => ⟨gL [], fun _ _ => hq.1, (hS.below hq.2.below).sel [] rfl⟩
     ·intro o ho a w yg81 M Hb hv hO hS0
      obtain rfl := someE ho
      have H : Fr 98 ([(95, [], vG [vU (wu8 (Int.fdiv y78 (2 ^ 24))), vU (wu8 (Int.fdiv y78 (2 ^ 16))), vU (wu8 (Int.fdiv y78 (2 ^ 8))), vU (wu8 y78)])] ++ (fS [2, 9, 10] [vP b1, .int .u64 y78, .nilIface])) _ := (Hb).add (hv 11 (by decide) (by decide) 95 rfl)
      obtain ⟨X, hX⟩ : ∃ X, X = fpl [eB b1 [vU 0, vU 0, vU 0, vU 0]] := ⟨_, rfl⟩
      have hS : SH M X w [eB b1 [vU 0, vU 0, vU 0, vU 0]] w := by rw [hX]; exact hS0
      have hd := hS.hand [0] [] rfl rfl
      refine Stp.mono (o_store [vU (wu8 (Int.fdiv y78 (2 ^ 24))), vU (wu8 (Int.fdiv y78 (2 ^ 16))), vU (wu8 (Int.fdiv y78 (2 ^ 8))), vU (wu8 y78)] H hd rfl rfl (by kernel_rfl) rfl rfl rfl) ?_
      rintro v w2 hq
      replace hS : SH M X w [eB b1 [vU (wu8 (Int.fdiv y78 (2 ^ 24))), vU (wu8 (Int.fdiv y78 (2 ^ 16))), vU (wu8 (Int.fdiv y78 (2 ^ 8))), vU (wu8 y78)]] _ := hS.join [0] [] rfl rfl hq
      clear hq
      rw [hX] at hS
      exact ⟨gL [], (fun _ h => by cases h), hS.sel [0] rfl⟩
     ·intro o ho a w yg81 M Hb hv hO hS
      obtain rfl := someE ho
      exact Stp.mono (o_evs [] (vT) none [] ((Hb).add (hv 13 (by decide) (by decide) 97 rfl)) rfl (by kernel_rfl) (fun q e => by cases e)) fun _ _ hq => ⟨gL [], fun _ _ => hq.1, (hS.below hq.2.below).sel [] rfl⟩
    have H84 : Fr 98 (fS [3, 2] [vT, vP b1]) _ := (FrG.add (FrG.keep (ks := [2]) H83 (by kernel_rfl)) (hv 15 3 rfl))
    replace hS : SH M X w [eB b1 [vU (wu8 (Int.fdiv y78 (2 ^ 24))), vU (wu8 (Int.fdiv y78 (2 ^ 16))), vU (wu8 (Int.fdiv y78 (2 ^ 8))), vU (wu8 y78)]] _ := hS
    clear hv H83
    apply w_ret
    obtain rfl := someE hm
    exact retR2 H84 rfl (oneRes_agg rfl (hS.bk 0 rfl) Tryz.underlying26 rfl (by kernel_rfl)) rfl ⟨_, rfl, rfl, (hS.sel [] rfl)⟩
theorem parseval_hash_ok  (m : Nat) (s : Str) (r : TColor × Bool) (hm : parseval_hash m s = some r) : Ret Tryz.prog 49 ⟨[vS s]⟩ (vW [vG (cC r.1), vB r.2]) := retP_of (Tryz.call49 _) (fun w h => parseval_hash_w F0 m   s r hm w h)

theorem parseval_rgb_1_w {b_u0 : Nat} {b_u1 : Nat} {g_u1 : Gh} (M : Av) (t_ : TToken) (u0 : Str) (u1 : List Int) (r : Str × (List Int)) (hm : parseval_rgb_1 t_ u0 u1 = some r) (w : World) (hS : S0 M [eB b_u0 [vS u0], eB b_u1 [vL g_u1 u1], eO 2 (tI .i64) u1 g_u1] w) : Calls Tryz.prog 71 ⟨[vG (cT t_), vP b_u0, vP b_u1]⟩ w (fun e w' => ∃ v, e = .returned v ∧ ∃ (g901 : Gh), v = vW [] ∧ SH M (fpl [eB b_u0 [vS u0], eB b_u1 [vL g_u1 u1], eO 2 (tI .i64) u1 g_u1]) w [eB b_u0 [vS r.1], eB b_u1 [vL g901 r.2], eO 2 (tI .i64) r.2 g901] w') := by
 rw [parseval_rgb_1] at hm
 have hS0 : SH M (fpl [eB b_u0 [vS u0], eB b_u1 [vL g_u1 u1], eO 2 (tI .i64) u1 g_u1]) w [eB b_u0 [vS u0], eB b_u1 [vL g_u1 u1], eO 2 (tI .i64) u1 g_u1] w := hS
 generalize hX : fpl [eB b_u0 [vS u0], eB b_u1 [vL g_u1 u1], eO 2 (tI .i64) u1 g_u1] = X at hS0 ⊢
 clear hS hX
 have hS := hS0
 clear hS0
 refine calls_entryP Tryz.func71 rfl Tryz.ntmps71 rfl fun _ H => ?_
 apply w_seq
 apply wl_start
 have hd := hS.hand [] [0, 1, 2] rfl rfl
 refine m_stp [3, 1, 2] (fS [1, 2] [vP b_u0, vP b_u1]) H rfl rfl rfl rfl (o_box (cT t_) H hd rfl rfl) (fun _ => rfl) fun _ _ v H3 hq => ?_
 clear H hd
 obtain ⟨b1, rfl, hq⟩ := hq
 replace hS : SH M X w [eB b1 (cT t_), eB b_u0 [vS u0], eB b_u1 [vL g_u1 u1], eO 2 (tI .i64) u1 g_u1] _ := hS.join [] [0, 1, 2] rfl rfl hq
 clear hq
 apply wl_end rfl
 apply w_block
 refine s_reg [(vU t_.Kind)] [1, 2, 3, 6] (fS [1, 2, 3, 6] [vP b_u0, vP b_u1, vP b1, vB (t_.Kind == 13)]) [rA b1 0 (vU t_.Kind)] H3 (by kernel_rfl) ⟨((hS.bk 0 rfl).at1 rfl), trivial⟩ fun _ _ H5 hb => ?_
 replace hS := hS.below hb
 clear H3 hb
 refine w_if H5 rfl (fun hc => ?c49) (fun hc => ?_)
 case c49 =>
  replace hm := bT hc hm
  apply w_skip
  obtain rfl := someE hm
  try dsimp only
  exact retR0 H5 rfl ⟨_, rfl, g_u1, rfl, (hS.sel [1, 2, 3] rfl)⟩
 replace hm := bF hc hm
 refine s_reg [(vU t_.Kind)] [1, 2, 3, 10] (fS [1, 2, 3, 10] [vP b_u0, vP b_u1, vP b1, vB (t_.Kind == 10)]) [rA b1 0 (vU t_.Kind)] H5 (by kernel_rfl) ⟨((hS.bk 0 rfl).at1 rfl), trivial⟩ fun _ _ H7 hb => ?_
 replace hS := hS.below hb
 clear H5 hb
 refine w_if H7 rfl (fun hc => ?c48) (fun hc => ?_)
 case c48 =>
  replace hm := bT hc hm
  apply w_seq
  apply wl_start
  obtain ⟨ho8, hm⟩ := chkE hm
  refine wl_batch 0 2 [(vS u0)] [1, 2, 3, 15] (fS [1, 2, 3, 15] [vP b_u0, vP b_u1, vP b1, vS (u0 ++ [110])]) [rA b_u0 0 (vS u0), fun _ => ln u0 + ln [110] ≤ 9223372036854775807] H7 (by decide) (by kernel_rfl) ⟨((hS.bk 1 rfl).at1 rfl), ho8, trivial⟩ fun _ _ H10 hb => ?_
  replace hS := hS.below hb
  clear H7 hb
  have hd := hS.hand [1] [0, 2, 3] rfl rfl
  refine m_stp0 [2, 3] (fS [2, 3] [vP b_u1, vP b1]) H10 rfl rfl rfl (o_store [vS (u0 ++ [110])] H10 hd rfl rfl (by kernel_rfl) rfl rfl rfl) rfl fun _ _ H12 hq => ?_
  clear H10 hd
  obtain ⟨_, hq⟩ := hq
  replace hS : SH M X w [eB b_u0 [vS (u0 ++ [110])], eB b1 (cT t_), eB b_u1 [vL g_u1 u1], eO 2 (tI .i64) u1 g_u1] _ := hS.join [1] [0, 2, 3] rfl rfl hq
  clear hq
  apply wl_end rfl
  apply wl_start
  refine wl_batch 0 3 [(vL g_u1 u1), (vI t_.Num)] [2, 16, 18] (fS [2, 16, 18] [vP b_u1, vL g_u1 u1, vI t_.Num]) [rA b_u1 0 (vL g_u1 u1), rA b1 2 (vI t_.Num)] H12 (by decide) (by kernel_rfl) ⟨((hS.bk 2 rfl).at1 rfl), ((hS.bk 1 rfl).at1 rfl), trivial⟩ fun _ _ H14 hb => ?_
  replace hS := hS.below hb
  clear H12 hb
  have hd := hS.hand [] [0, 1, 2, 3] rfl rfl
  refine m_stp [19, 2, 16] (fS [2, 16] [vP b_u1, vL g_u1 u1]) H14 rfl rfl rfl rfl (o_lit (T := (tI .i64)) (E := 2) (zv := vI 0) [vI t_.Num] ([t_.Num] : List Int) [gL []] _ H14 hd rfl (by kernel_rfl) (by kernel_rfl) (by kernel_rfl) (by kernel_rfl) (by kernel_rfl) (by kernel_rfl) (by kernel_rfl) rfl (InnL.cons trivial InnL.nil)) (fun _ => rfl) fun _ _ v H18 hq => ?_
  clear H14 hd
  obtain ⟨g15, rfl, hq⟩ := hq
  replace hS : SH M X w [eO 2 (tI .i64) ([t_.Num] : List Int) g15, eB b_u0 [vS (u0 ++ [110])], eB b1 (cT t_), eB b_u1 [vL g_u1 u1], eO 2 (tI .i64) u1 g_u1] _ := hS.join [] [0, 1, 2, 3] rfl rfl hq
  clear hq
  obtain ⟨ho19, hm⟩ := chkE hm
  obtain ⟨q20, hq20, hm⟩ := letE hm
  have hd := hS.hand [4, 0] [1, 2, 3] rfl rfl
  refine m_stp [20, 2] [(2, [], vP b_u1)] H18 rfl rfl rfl rfl (o_app2 (T := (tI .i64)) (zv := vI 0) (g1 := g_u1) (g2 := g15) (l1 := u1) (l2 := ([t_.Num] : List Int)) q20 hq20.symm H18 hd rfl rfl rfl rfl rfl rfl rfl (by kernel_rfl) (by kernel_rfl) rfl rfl ho19) (fun _ => rfl) fun _ _ v H22 hq => ?_
  clear H18 hd
  obtain ⟨g23, rfl, hq⟩ := hq
  replace hS : SH M X w [eO 2 (tI .i64) q20 g23, eO 2 (tI .i64) ([t_.Num] : List Int) g15, eB b_u0 [vS (u0 ++ [110])], eB b1 (cT t_), eB b_u1 [vL g_u1 u1]] _ := hS.join [4, 0] [1, 2, 3] rfl rfl hq
  clear hq
  have hd := hS.hand [4] [0, 1, 2, 3] rfl rfl
  refine m_stp0 [] [] H22 rfl rfl rfl (o_store [vL g23 q20] H22 hd rfl rfl (by kernel_rfl) rfl rfl rfl) rfl fun _ _ H25 hq => ?_
  clear H22 hd
  obtain ⟨_, hq⟩ := hq
  replace hS : SH M X w [eB b_u1 [vL g23 q20], eO 2 (tI .i64) q20 g23, eO 2 (tI .i64) ([t_.Num] : List Int) g15, eB b_u0 [vS (u0 ++ [110])], eB b1 (cT t_)] _ := hS.join [4] [0, 1, 2, 3] rfl rfl hq
  clear hq
  apply wl_end rfl
  replace hS : SH M X w [eB b_u1 [vL g23 q20], eO 2 (tI .i64) q20 g23, eB b_u0 [vS (u0 ++ [110])]] _ := hS.sel [0, 1, 3] rfl
  obtain rfl := someE hm
  try dsimp only
  exact retR0 H25 rfl ⟨_, rfl, g23, rfl, (hS.sel [2, 0, 1] rfl)⟩
 replace hm := bF hc hm
 refine s_reg [(vU t_.Kind)] [1, 3, 21] (fS [1, 3, 21] [vP b_u0, vP b1, vB (t_.Kind == 18)]) [rA b1 0 (vU t_.Kind)] H7 (by kernel_rfl) ⟨((hS.bk 0 rfl).at1 rfl), trivial⟩ fun _ _ H27 hb => ?_
 replace hS := hS.below hb
 clear H7 hb
 refine w_if H27 rfl (fun hc => ?c47) (fun hc => ?_)
 case c47 =>
  replace hm := bT hc hm
  apply wl_start
  obtain ⟨ho28, hm⟩ := chkE hm
  refine wl_batch 0 2 [(vS u0)] [1, 26] (fS [1, 26] [vP b_u0, vS (u0 ++ [44])]) [rA b_u0 0 (vS u0), fun _ => ln u0 + ln [44] ≤ 9223372036854775807] H27 (by decide) (by kernel_rfl) ⟨((hS.bk 1 rfl).at1 rfl), ho28, trivial⟩ fun _ _ H30 hb => ?_
  replace hS := hS.below hb
  clear H27 hb
  have hd := hS.hand [1] [0, 2, 3] rfl rfl
  refine m_stp0 [] [] H30 rfl rfl rfl (o_store [vS (u0 ++ [44])] H30 hd rfl rfl (by kernel_rfl) rfl rfl rfl) rfl fun _ _ H32 hq => ?_
  clear H30 hd
  obtain ⟨_, hq⟩ := hq
  replace hS : SH M X w [eB b_u0 [vS (u0 ++ [44])], eB b1 (cT t_), eB b_u1 [vL g_u1 u1], eO 2 (tI .i64) u1 g_u1] _ := hS.join [1] [0, 2, 3] rfl rfl hq
  clear hq
  apply wl_end rfl
  replace hS : SH M X w [eB b_u0 [vS (u0 ++ [44])], eB b_u1 [vL g_u1 u1], eO 2 (tI .i64) u1 g_u1] _ := hS.sel [0, 2, 3] rfl
  obtain rfl := someE hm
  try dsimp only
  exact retR0 H32 rfl ⟨_, rfl, g_u1, rfl, (hS.sel [0, 1, 2] rfl)⟩
 replace hm := bF hc hm
 obtain ⟨x33, hx33, hm⟩ := letE hm
 refine s_reg [(vU t_.Kind), (vS t_.Text)] [1, 27] (fS [1, 27] [vP b_u0, vB x33]) [rA b1 0 (vU t_.Kind), fun wz => ((t_.Kind == 9) = true ∧ True → V.at1 ⟨b1, 1, none⟩ (vS t_.Text) wz)] H27 (by subst hx33; kernel_rfl) ⟨((hS.bk 0 rfl).at1 rfl), fun hg => (hS.bk 0 rfl).at1 rfl, trivial⟩ fun _ _ H35 hb => ?_
 replace hS := hS.below hb
 clear H27 hb
 replace hS : SH M X w [eB b_u0 [vS u0], eB b_u1 [vL g_u1 u1], eO 2 (tI .i64) u1 g_u1] _ := hS.sel [1, 2, 3] rfl
 refine w_if H35 rfl (fun hc => ?_) (fun hc => ?c46)
 case c46 =>
  replace hm := bF hc hm
  apply wl_start
  obtain ⟨ho41, hm⟩ := chkE hm
  refine wl_batch 0 2 [(vS u0)] [1, 5] (fS [1, 5] [vP b_u0, vS (u0 ++ [120])]) [rA b_u0 0 (vS u0), fun _ => ln u0 + ln [120] ≤ 9223372036854775807] H35 (by decide) (by kernel_rfl) ⟨((hS.bk 0 rfl).at1 rfl), ho41, trivial⟩ fun _ _ H43 hb => ?_
  replace hS := hS.below hb
  clear H35 hb
  have hd := hS.hand [0] [1, 2] rfl rfl
  refine m_stp0 [] [] H43 rfl rfl rfl (o_store [vS (u0 ++ [120])] H43 hd rfl rfl (by kernel_rfl) rfl rfl rfl) rfl fun _ _ H45 hq => ?_
  clear H43 hd
  obtain ⟨_, hq⟩ := hq
  replace hS : SH M X w [eB b_u0 [vS (u0 ++ [120])], eB b_u1 [vL g_u1 u1], eO 2 (tI .i64) u1 g_u1] _ := hS.join [0] [1, 2] rfl rfl hq
  clear hq
  apply wl_end rfl
  obtain rfl := someE hm
  try dsimp only
  exact retR0 H45 rfl ⟨_, rfl, g_u1, rfl, (hS.sel [0, 1, 2] rfl)⟩
 replace hm := bT hc hm
 apply wl_start
 obtain ⟨ho36, hm⟩ := chkE hm
 refine wl_batch 0 2 [(vS u0)] [1, 37] (fS [1, 37] [vP b_u0, vS (u0 ++ [47])]) [rA b_u0 0 (vS u0), fun _ => ln u0 + ln [47] ≤ 9223372036854775807] H35 (by decide) (by kernel_rfl) ⟨((hS.bk 0 rfl).at1 rfl), ho36, trivial⟩ fun _ _ H38 hb => ?_
 replace hS := hS.below hb
 clear H35 hb
 have hd := hS.hand [0] [1, 2] rfl rfl
 refine m_stp0 [] [] H38 rfl rfl rfl (o_store [vS (u0 ++ [47])] H38 hd rfl rfl (by kernel_rfl) rfl rfl rfl) rfl fun _ _ H40 hq => ?_
 clear H38 hd
 obtain ⟨_, hq⟩ := hq
 replace hS : SH M X w [eB b_u0 [vS (u0 ++ [47])], eB b_u1 [vL g_u1 u1], eO 2 (tI .i64) u1 g_u1] _ := hS.join [0] [1, 2] rfl rfl hq
 clear hq
 apply wl_end rfl
 obtain rfl := someE hm
 try dsimp only
 exact retR0 H40 rfl ⟨_, rfl, g_u1, rfl, (hS.sel [0, 1, 2] rfl)⟩
theorem parseval_rgb_1_ok {b_u0 : Nat} {b_u1 : Nat} {g_u1 : Gh} (t_ : TToken) (u0 : Str) (u1 : List Int) (r : Str × (List Int)) (hm : parseval_rgb_1 t_ u0 u1 = some r) (M : Av) (w : World) (hS : S0 M [eB b_u0 [vS u0], eB b_u1 [vL g_u1 u1], eO 2 (tI .i64) u1 g_u1] w) : DoesX Tryz.prog 71 ⟨[vG (cT t_), vP b_u0, vP b_u1]⟩ w (fun v w' => ∃ (g901 : Gh), v = vW [] ∧ SH M (fpl [eB b_u0 [vS u0], eB b_u1 [vL g_u1 u1], eO 2 (tI .i64) u1 g_u1]) w [eB b_u0 [vS r.1], eB b_u1 [vL g901 r.2], eO 2 (tI .i64) r.2 g901] w') := ⟨Tryz.call71 _, parseval_rgb_1_w M   t_ u0 u1 r hm w hS⟩

theorem parseval_rgb_2_w {b_u0 : Nat} {g_u0 : Gh} (M : Av) (i : Int) (u0 : List Int) (r : Int) (hm : parseval_rgb_2 i u0 = some r) (w : World) (hS : S0 M [Ent.ro b_u0 [vL g_u0 u0], eI (tI .i64) u0 g_u0] w) : Calls Tryz.prog 72 ⟨[vI i, vP b_u0]⟩ w (fun e w' => ∃ v, e = .returned v ∧ v = vU r ∧ SH M (fpl [Ent.ro b_u0 [vL g_u0 u0], eI (tI .i64) u0 g_u0]) w [] w') := by
 rw [parseval_rgb_2] at hm
 have hS0 : SH M (fpl [Ent.ro b_u0 [vL g_u0 u0], eI (tI .i64) u0 g_u0]) w [Ent.ro b_u0 [vL g_u0 u0], eI (tI .i64) u0 g_u0] w := hS
 generalize hX : fpl [Ent.ro b_u0 [vL g_u0 u0], eI (tI .i64) u0 g_u0] = X at hS0 ⊢
 clear hS hX
 have hS := hS0
 clear hS0
 refine calls_entryP Tryz.func72 rfl Tryz.ntmps72 rfl fun _ H => ?_
 refine s_reg [] [0, 1] (fS [0, 1] [vI i, vP b_u0]) [] H (by kernel_rfl) trivial fun _ _ H2 hb => ?_
 replace hS := hS.below hb
 clear H hb
 obtain ⟨ho3, hm⟩ := chkE hm
 obtain ⟨x4, hx4, hm⟩ := letE hm
 refine s_reg [(vL g_u0 u0), (vI (gi u0 i))] [3] [(3, [], vU (wu8 (if 0 < x4 then x4 else 0)))] [rA b_u0 0 (vL g_u0 u0), fun _ => oka g_u0.a ∧ 0 ≤ i ∧ i < ln u0, fun wz => V.at1 ⟨ab g_u0.a, ao g_u0.a + (i).toNat * 1, none⟩ (vI (gi u0 i)) wz, fun _ => (1000 : Int) ≠ 0] H2 (by subst hx4; kernel_rfl) ⟨((hS.ro 0 rfl).at1 rfl), ((hS.im 1 rfl).oki ho3), ((hS.im 1 rfl).at1 ho3 0 rfl), (by show (1000 : Int) ≠ 0; decide), trivial⟩ fun _ _ H6 hb => ?_
 replace hS := hS.below hb
 clear H2 hb
 replace hS : SH M X w [] _ := hS.sel [] rfl
 apply w_ret
 obtain rfl := someE hm
 exact retR1 H6 rfl rfl ⟨_, rfl, rfl, (hS.sel [] rfl)⟩
theorem parseval_rgb_2_ok {b_u0 : Nat} {g_u0 : Gh} (i : Int) (u0 : List Int) (r : Int) (hm : parseval_rgb_2 i u0 = some r) (w : World) (hL : S0 F0 [Ent.ro b_u0 [vL g_u0 u0], eI (tI .i64) u0 g_u0] w ∧ fpl [Ent.ro b_u0 [vL g_u0 u0], eI (tI .i64) u0 g_u0] = []) : RetB Tryz.prog 72 ⟨[vI i, vP b_u0]⟩ (vU r) w := retB_of hL (Tryz.call72 _) (fun w' h => parseval_rgb_2_w F0   i u0 r hm w' h)

theorem parseval_rgb_w {g_l_ : Gh} (M : Av) (m : Nat) (l_ : List TValue) (r : TColor × Bool) (hm : parseval_rgb m l_ = some r) (w : World) (hS : S0 M [eI tyValue l_ g_l_] w) : Calls Tryz.prog 50 ⟨[vL g_l_ l_]⟩ w (fun e w' => ∃ v, e = .returned v ∧ v = vW [vG (cC r.1), vB r.2] ∧ SH M (fpl [eI tyValue l_ g_l_]) w [] w') := by
 rw [parseval_rgb] at hm
 have hS0 : SH M (fpl [eI tyValue l_ g_l_]) w [eI tyValue l_ g_l_] w := hS
 generalize hX : fpl [eI tyValue l_ g_l_] = X at hS0 ⊢
 clear hS hX
 have hS := hS0
 clear hS0
 refine calls_entryP Tryz.func50 rfl Tryz.ntmps50 rfl fun _ H => ?_
 apply w_seq
 apply wl_start
 have hd := hS.hand [] [0] rfl rfl
 refine m_stp [2, 0] [(0, [], vL g_l_ l_)] H rfl rfl rfl rfl (o_alloc [vU 0, vU 0, vU 0, vU 0] (z := vG [vU 0, vU 0, vU 0, vU 0]) hd (by kernel_rfl) rfl) (fun _ => rfl) fun _ _ v H3 hq => ?_
 clear H hd
 obtain ⟨b1, rfl, hq⟩ := hq
 replace hS : SH M X w [eB b1 [vU 0, vU 0, vU 0, vU 0], eI tyValue l_ g_l_] _ := hS.join [] [0] rfl rfl hq
 clear hq
 refine wl_batch 1 2 [] [0, 2] (fS [0, 2] [vL g_l_ l_, vP b1]) [] H3 (by decide) (by kernel_rfl) trivial fun _ _ H5 hb => ?_
 replace hS := hS.below hb
 clear H3 hb
 apply wl_end rfl
 apply w_seq
 apply wl_start
 have hd := hS.hand [] [0, 1] rfl rfl
 refine m_stp [4, 0, 2] (fS [0, 2] [vL g_l_ l_, vP b1]) H5 rfl rfl rfl rfl (o_alloc [vN] (z := vN) hd (by kernel_rfl) rfl) (fun _ => rfl) fun _ _ v H8 hq => ?_
 clear H5 hd
 obtain ⟨b6, rfl, hq⟩ := hq
 replace hS : SH M X w [eB b6 [vN], eB b1 [vU 0, vU 0, vU 0, vU 0], eI tyValue l_ g_l_] _ := hS.join [] [0, 1] rfl rfl hq
 clear hq
 have hd := hS.hand [0] [1, 2] rfl rfl
 refine m_stp0 [0, 2, 4] (fS [0, 2, 4] [vL g_l_ l_, vP b1, vP b6]) H8 rfl rfl rfl (o_store [vN] H8 hd rfl rfl (by kernel_rfl) rfl rfl rfl) rfl fun _ _ H10 hq => ?_
 clear H8 hd
 obtain ⟨_, hq⟩ := hq
 replace hS : SH M X w [eB b6 [vN], eB b1 [vU 0, vU 0, vU 0, vU 0], eI tyValue l_ g_l_] _ := hS.join [0] [1, 2] rfl rfl hq
 clear hq
 apply wl_end rfl
 apply w_seq
 apply wl_start
 have hd := hS.hand [] [0, 1, 2] rfl rfl
 refine m_stp [5, 0, 2, 4] (fS [0, 2, 4] [vL g_l_ l_, vP b1, vP b6]) H10 rfl rfl rfl rfl (o_alloc [vO] (z := vO) hd (by kernel_rfl) rfl) (fun _ => rfl) fun _ _ v H13 hq => ?_
 clear H10 hd
 obtain ⟨b11, rfl, hq⟩ := hq
 replace hS : SH M X w [eB b11 [vO], eB b6 [vN], eB b1 [vU 0, vU 0, vU 0, vU 0], eI tyValue l_ g_l_] _ := hS.join [] [0, 1, 2] rfl rfl hq
 clear hq
 apply wl_end rfl
 refine s_reg [] [0, 2, 4, 5, 6] (fS [0, 2, 4, 5, 6] [vL g_l_ l_, vP b1, vP b6, vP b11, .func (.func 71) ⟨[]⟩ ⟨[vP b6, vP b11]⟩]) [] H13 (by kernel_rfl) trivial fun _ _ H15 hb => ?_
 replace hS := hS.below hb
 clear H13 hb
 obtain ⟨z16, hz, hm⟩ := bindE hm
 refine w_cut (fun a' w' => ∃ (g45 : Gh), Fr 49 (fS [2, 4, 5] [vP b1, vP b6, vP b11]) a' ∧ SH M X w [eO 2 (tI .i64) z16.2 g45, eB b11 [vL g45 z16.2], eB b6 [vS z16.1], eB b1 [vU 0, vU 0, vU 0, vU 0], eI tyValue l_ g_l_] w') ?_ ?_
 ·replace hm := hz
  refine s_reg [] [2, 4, 5, 6, 11, 12, 13] (fS [2, 4, 5, 6, 11, 12, 13] [vP b1, vP b6, vP b11, .func (.func 71) ⟨[]⟩ ⟨[vP b6, vP b11]⟩, vL g_l_ l_, vI (ln l_), vI 0]) [] H15 (by kernel_rfl) trivial fun _ _ H18 hb => ?_
  replace hS := hS.below hb
  clear H15 hb
  apply w_block
  replace hS : SH M X w [eO 2 (tI .i64) ([] : List Int) (.nil), eB b11 [vO], eB b6 [vN], eB b1 [vU 0, vU 0, vU 0, vU 0], eI tyValue l_ g_l_] _ := hS.addNil 2 (tI .i64)
  refine w_loop (fun kk a' w' => ∃ (v20 : Int) (v21 : List Int) (v23 : Str) (g22 : Gh), parseval_rgb_L1 m l_ kk v20 v21 v23 = some _ ∧ Fr 49 (fS [2, 4, 5, 6, 11, 12, 13] [vP b1, vP b6, vP b11, .func (.func 71) ⟨[]⟩ ⟨[vP b6, vP b11]⟩, vL g_l_ l_, vI (ln l_), vI v20]) a' ∧ SH M X w [eO 2 (tI .i64) v21 g22, eB b11 [vL g22 v21], eB b6 [vS v23], eB b1 [vU 0, vU 0, vU 0, vU 0], eI tyValue l_ g_l_] w') ⟨_, 0, ([] : List Int), [], Gh.nil, hm, FrG.keep (ks := [2, 4, 5, 6, 11, 12, 13]) H18 (by kernel_rfl), hS⟩ ?_
  clear hm H18 hS
  rintro kk _ _ ⟨v20, v21, v23, g22, hm, H, hS⟩
  cases kk with
  | zero => exact noneE hm
  | succ kk =>
   rw [parseval_rgb_L1] at hm
   refine s_reg [] [2, 4, 5, 6, 11, 12, 13, 14] (fS [2, 4, 5, 6, 11, 12, 13, 14] [vP b1, vP b6, vP b11, .func (.func 71) ⟨[]⟩ ⟨[vP b6, vP b11]⟩, vL g_l_ l_, vI (ln l_), vI v20, vB (decide (v20 < (ln l_)))]) [] H (by kernel_rfl) trivial fun _ _ H25 hb => ?_
   replace hS := hS.below hb
   clear H hb
   apply w_seq
   refine w_if H25 rfl (fun hc => ?_) (fun hc => ?c43)
   case c43 =>
    replace hm := bF hc hm
    apply w_exit rfl
    obtain rfl := someE hm
    exact ⟨g22, FrG.keep (ks := [2, 4, 5]) H25 (by kernel_rfl), hS⟩
   replace hm := bT hc hm
   apply w_skip
   apply w_seq
   apply w_block
   apply w_seq
   apply wl_start
   obtain ⟨ho26, hm⟩ := chkE hm
   refine wl_batch 0 2 [(vG [vU ((gi l_ v20).Token.Kind), vS (gi l_ v20).Token.Text, vI ((gi l_ v20).Token.Num), vS (gi l_ v20).Token.Unit, vB ((gi l_ v20).Token.Flag), .slice (g_l_.s (v20).toNat 0).a (((gi l_ v20).List_).length) (g_l_.s (v20).toNat 0).c])] [2, 4, 5, 6, 11, 12, 13, 16] (fS [2, 4, 5, 6, 11, 12, 13, 16] [vP b1, vP b6, vP b11, .func (.func 71) ⟨[]⟩ ⟨[vP b6, vP b11]⟩, vL g_l_ l_, vI (ln l_), vI v20, vG [vU ((gi l_ v20).Token.Kind), vS (gi l_ v20).Token.Text, vI ((gi l_ v20).Token.Num), vS (gi l_ v20).Token.Unit, vB ((gi l_ v20).Token.Flag), .slice (g_l_.s (v20).toNat 0).a (((gi l_ v20).List_).length) (g_l_.s (v20).toNat 0).c]]) [fun _ => oka g_l_.a ∧ 0 ≤ v20 ∧ v20 < ln l_, fun wz => V.atN (ab g_l_.a) (ao g_l_.a + (v20).toNat * 6) [vU ((gi l_ v20).Token.Kind), vS (gi l_ v20).Token.Text, vI ((gi l_ v20).Token.Num), vS (gi l_ v20).Token.Unit, vB ((gi l_ v20).Token.Flag), .slice (g_l_.s (v20).toNat 0).a (((gi l_ v20).List_).length) (g_l_.s (v20).toNat 0).c] 0 wz] H25 (by decide) (by kernel_rfl) ⟨((hS.im 4 rfl).oki ho26), ((hS.im 4 rfl).atA ho26 0 rfl), trivial⟩ fun _ _ H28 hb => ?_
   replace hS := hS.below hb
   clear H25 hb
   have hd := hS.hand [] [0, 1, 2, 3, 4] rfl rfl
   refine m_stp [8, 2, 4, 5, 6, 11, 12, 13, 16] (fS [2, 4, 5, 6, 11, 12, 13, 16] [vP b1, vP b6, vP b11, .func (.func 71) ⟨[]⟩ ⟨[vP b6, vP b11]⟩, vL g_l_ l_, vI (ln l_), vI v20, vG [vU ((gi l_ v20).Token.Kind), vS (gi l_ v20).Token.Text, vI ((gi l_ v20).Token.Num), vS (gi l_ v20).Token.Unit, vB ((gi l_ v20).Token.Flag), .slice (g_l_.s (v20).toNat 0).a (((gi l_ v20).List_).length) (g_l_.s (v20).toNat 0).c]]) H28 rfl rfl rfl rfl (o_alloc [vU 0, vN, vI 0, vN, vF, vO] (z := vG [vU 0, vN, vI 0, vN, vF, vO]) hd (by kernel_rfl) rfl) (fun _ => rfl) fun _ _ v H31 hq => ?_
   clear H28 hd
   obtain ⟨b29, rfl, hq⟩ := hq
   replace hS : SH M X w [eB b29 [vU 0, vN, vI 0, vN, vF, vO], eO 2 (tI .i64) v21 g22, eB b11 [vL g22 v21], eB b6 [vS v23], eB b1 [vU 0, vU 0, vU 0, vU 0], eI tyValue l_ g_l_] _ := hS.join [] [0, 1, 2, 3, 4] rfl rfl hq
   clear hq
   have hd := hS.hand [0] [1, 2, 3, 4, 5] rfl rfl
   refine m_stp0 [2, 4, 5, 6, 8, 11, 12, 13] (fS [2, 4, 5, 6, 8, 11, 12, 13] [vP b1, vP b6, vP b11, .func (.func 71) ⟨[]⟩ ⟨[vP b6, vP b11]⟩, vP b29, vL g_l_ l_, vI (ln l_), vI v20]) H31 rfl rfl rfl (o_store [vU ((gi l_ v20).Token.Kind), vS (gi l_ v20).Token.Text, vI ((gi l_ v20).Token.Num), vS (gi l_ v20).Token.Unit, vB ((gi l_ v20).Token.Flag), .slice (g_l_.s (v20).toNat 0).a (((gi l_ v20).List_).length) (g_l_.s (v20).toNat 0).c] H31 hd rfl rfl (by kernel_rfl) rfl rfl rfl) rfl fun _ _ H33 hq => ?_
   clear H31 hd
   obtain ⟨_, hq⟩ := hq
   replace hS : SH M X w [eB b29 [vU ((gi l_ v20).Token.Kind), vS (gi l_ v20).Token.Text, vI ((gi l_ v20).Token.Num), vS (gi l_ v20).Token.Unit, vB ((gi l_ v20).Token.Flag), .slice (g_l_.s (v20).toNat 0).a (((gi l_ v20).List_).length) (g_l_.s (v20).toNat 0).c], eO 2 (tI .i64) v21 g22, eB b11 [vL g22 v21], eB b6 [vS v23], eB b1 [vU 0, vU 0, vU 0, vU 0], eI tyValue l_ g_l_] _ := hS.join [0] [1, 2, 3, 4, 5] rfl rfl hq
   clear hq
   apply wl_end rfl
   apply wl_start
   refine wl_batch 0 3 [(vG [vU ((gi l_ v20).Token.Kind), vS (gi l_ v20).Token.Text, vI ((gi l_ v20).Token.Num), vS (gi l_ v20).Token.Unit, vB ((gi l_ v20).Token.Flag)])] [2, 4, 5, 6, 11, 12, 13, 17, 19] (fS [2, 4, 5, 6, 11, 12, 13, 17, 19] [vP b1, vP b6, vP b11, .func (.func 71) ⟨[]⟩ ⟨[vP b6, vP b11]⟩, vL g_l_ l_, vI (ln l_), vI v20, .func (.func 71) ⟨[]⟩ ⟨[vP b6, vP b11]⟩, vG [vU ((gi l_ v20).Token.Kind), vS (gi l_ v20).Token.Text, vI ((gi l_ v20).Token.Num), vS (gi l_ v20).Token.Unit, vB ((gi l_ v20).Token.Flag)]]) [rN b29 0 [vU ((gi l_ v20).Token.Kind), vS (gi l_ v20).Token.Text, vI ((gi l_ v20).Token.Num), vS (gi l_ v20).Token.Unit, vB ((gi l_ v20).Token.Flag)]] H33 (by decide) (by kernel_rfl) ⟨((hS.bk 0 rfl).atD rfl), trivial⟩ fun _ _ H35 hb => ?_
   replace hS := hS.below hb
   clear H33 hb
   obtain ⟨y36, hy36, hm⟩ := bindE hm
   have hd := hS.hand [3, 2, 1] [0, 4, 5] rfl rfl
   refine m_stp [20, 2, 4, 5, 6, 11, 12, 13] (fS [2, 4, 5, 6, 11, 12, 13] [vP b1, vP b6, vP b11, .func (.func 71) ⟨[]⟩ ⟨[vP b6, vP b11]⟩, vL g_l_ l_, vI (ln l_), vI v20]) H35 rfl rfl rfl rfl (o_callx H35 rfl rfl (parseval_rgb_1_ok (b_u0 := b6) (b_u1 := b11) (g_u1 := g22) _ _ _ _ hy36 _ _ hd)) (fun _ => rfl) fun _ _ v H40 hq => ?_
   clear H35 hd
   obtain ⟨g37, rfl, hq⟩ := hq
   replace hS : SH M X w [eB b6 [vS y36.1], eB b11 [vL g37 y36.2], eO 2 (tI .i64) y36.2 g37, eB b29 [vU ((gi l_ v20).Token.Kind), vS (gi l_ v20).Token.Text, vI ((gi l_ v20).Token.Num), vS (gi l_ v20).Token.Unit, vB ((gi l_ v20).Token.Flag), .slice (g_l_.s (v20).toNat 0).a (((gi l_ v20).List_).length) (g_l_.s (v20).toNat 0).c], eB b1 [vU 0, vU 0, vU 0, vU 0], eI tyValue l_ g_l_] _ := hS.join [3, 2, 1] [0, 4, 5] rfl rfl hq
   clear hq
   apply wl_end rfl
   replace hS : SH M X w [eB b6 [vS y36.1], eB b11 [vL g37 y36.2], eO 2 (tI .i64) y36.2 g37, eB b1 [vU 0, vU 0, vU 0, vU 0], eI tyValue l_ g_l_] _ := hS.sel [0, 1, 2, 4, 5] rfl
   refine w_reg [] [2, 4, 5, 6, 11, 12, 13] (fS [2, 4, 5, 6, 11, 12, 13] [vP b1, vP b6, vP b11, .func (.func 71) ⟨[]⟩ ⟨[vP b6, vP b11]⟩, vL g_l_ l_, vI (ln l_), vI (w64 (v20 + 1))]) [] H40 (by kernel_rfl) trivial fun _ _ H42 hb => ?_
   replace hS := hS.below hb
   clear H40 hb
   replace hS : SH M X w [eO 2 (tI .i64) y36.2 g37, eB b11 [vL g37 y36.2], eB b6 [vS y36.1], eB b1 [vU 0, vU 0, vU 0, vU 0], eI tyValue l_ g_l_] _ := hS.sel [2, 1, 0, 3, 4] rfl
   exact ⟨_, Nat.lt_succ_self _, w64 (v20 + 1), y36.2, y36.1, g37, hm, FrG.keep (ks := [2, 4, 5, 6, 11, 12, 13]) H42 (by kernel_rfl), hS⟩
 ·rintro _ _ ⟨g45, H, hS⟩
  replace hS : SH M X w [eO 2 (tI .i64) z16.2 g45, eB b11 [vL g45 z16.2], eB b6 [vS z16.1], eB b1 [vU 0, vU 0, vU 0, vU 0]] _ := hS.sel [0, 1, 2, 3] rfl
  obtain ⟨z47, hz, hm_z47⟩ := bindE hm
  refine w_cut (fun a' w' => ∃ s_z47 : List Int, z47 = Sum.inr s_z47 ∧ ∃ (g86 : Gh), Fr 49 (fS [2, 5] [vP b1, vP b11]) a' ∧ SH M X w [eO 2 (tI .i64) s_z47 g86, eB b11 [vL g86 s_z47], eB b6 [vS z16.1], eB b1 [vU 0, vU 0, vU 0, vU 0]] w') ?_ ?_
  ·replace hm := hz
   refine s_reg [(vS z16.1)] [2, 5, 22] (fS [2, 5, 22] [vP b1, vP b11, vS z16.1]) [rA b6 0 (vS z16.1)] H (by kernel_rfl) ⟨((hS.bk 2 rfl).at1 rfl), trivial⟩ fun _ _ H49 hb => ?_
   replace hS := hS.below hb
   clear H hb
   apply w_block
   obtain ⟨z50, hz, hm⟩ := bindE hm
   refine w_cut (fun a' w' => Fr 49 (fS [2, 5, 22, 24] [vP b1, vP b11, vS z16.1, vB z50]) a' ∧ SH M X w [eO 2 (tI .i64) z16.2 g45, eB b11 [vL g45 z16.2], eB b6 [vS z16.1], eB b1 [vU 0, vU 0, vU 0, vU 0]] w') ?_ ?_
   ·replace hm := hz
    refine s_reg [] [2, 5, 22, 24] (fS [2, 5, 22, 24] [vP b1, vP b11, vS z16.1, vB (z16.1 == [110, 110, 110])]) [] H49 (by kernel_rfl) trivial fun _ _ H52 hb => ?_
    replace hS := hS.below hb
    clear H49 hb
    refine w_if H52 rfl (fun hc => ?c55) (fun hc => ?_)
    case c55 =>
     replace hm := bT hc hm
     apply w_skip
     obtain rfl := someE hm
     exact ⟨FrG.keep (ks := [2, 5, 22, 24]) H52 (by kernel_rfl), hS⟩
    replace hm := bF hc hm
    refine w_reg [] [2, 5, 22, 24] (fS [2, 5, 22, 24] [vP b1, vP b11, vS z16.1, vB (z16.1 == [110, 44, 110, 44, 110])]) [] H52 (by kernel_rfl) trivial fun _ _ H54 hb => ?_
    replace hS := hS.below hb
    clear H52 hb
    obtain rfl := someE hm
    exact ⟨FrG.keep (ks := [2, 5, 22, 24]) H54 (by kernel_rfl), hS⟩
   ·rintro _ _ ⟨H, hS⟩
    refine w_if H rfl (fun hc => ?c84) (fun hc => ?_)
    case c84 =>
     replace hm := bT hc hm
     apply wl_start
     refine wl_batch 0 1 [(vL g45 z16.2)] [2, 5, 27] (fS [2, 5, 27] [vP b1, vP b11, vL g45 z16.2]) [rA b11 0 (vL g45 z16.2)] H (by decide) (by kernel_rfl) ⟨((hS.bk 1 rfl).at1 rfl), trivial⟩ fun _ _ H57 hb => ?_
     replace hS := hS.below hb
     clear H hb
     have hd := hS.hand [] [0, 1, 2, 3] rfl rfl
     refine m_stp [28, 2, 5, 27] (fS [2, 5, 27] [vP b1, vP b11, vL g45 z16.2]) H57 rfl rfl rfl rfl (o_lit (T := (tI .i64)) (E := 2) (zv := vI 0) [vI 1000] ([1000] : List Int) [gL []] _ H57 hd rfl (by kernel_rfl) (by kernel_rfl) (by kernel_rfl) (by kernel_rfl) (by kernel_rfl) (by kernel_rfl) (by kernel_rfl) rfl (InnL.cons trivial InnL.nil)) (fun _ => rfl) fun _ _ v H61 hq => ?_
     clear H57 hd
     obtain ⟨g58, rfl, hq⟩ := hq
     replace hS : SH M X w [eO 2 (tI .i64) ([1000] : List Int) g58, eO 2 (tI .i64) z16.2 g45, eB b11 [vL g45 z16.2], eB b6 [vS z16.1], eB b1 [vU 0, vU 0, vU 0, vU 0]] _ := hS.join [] [0, 1, 2, 3] rfl rfl hq
     clear hq
     obtain ⟨ho62, hm⟩ := chkE hm
     obtain ⟨q63, hq63, hm⟩ := letE hm
     have hd := hS.hand [1, 0] [2, 3, 4] rfl rfl
     refine m_stp [29, 2, 5] (fS [2, 5] [vP b1, vP b11]) H61 rfl rfl rfl rfl (o_app2 (T := (tI .i64)) (zv := vI 0) (g1 := g45) (g2 := g58) (l1 := z16.2) (l2 := ([1000] : List Int)) q63 hq63.symm H61 hd rfl rfl rfl rfl rfl rfl rfl (by kernel_rfl) (by kernel_rfl) rfl rfl ho62) (fun _ => rfl) fun _ _ v H65 hq => ?_
     clear H61 hd
     obtain ⟨g66, rfl, hq⟩ := hq
     replace hS : SH M X w [eO 2 (tI .i64) q63 g66, eO 2 (tI .i64) ([1000] : List Int) g58, eB b11 [vL g45 z16.2], eB b6 [vS z16.1], eB b1 [vU 0, vU 0, vU 0, vU 0]] _ := hS.join [1, 0] [2, 3, 4] rfl rfl hq
     clear hq
     have hd := hS.hand [2] [0, 1, 3, 4] rfl rfl
     refine m_stp0 [2, 5] (fS [2, 5] [vP b1, vP b11]) H65 rfl rfl rfl (o_store [vL g66 q63] H65 hd rfl rfl (by kernel_rfl) rfl rfl rfl) rfl fun _ _ H68 hq => ?_
     clear H65 hd
     obtain ⟨_, hq⟩ := hq
     replace hS : SH M X w [eB b11 [vL g66 q63], eO 2 (tI .i64) q63 g66, eO 2 (tI .i64) ([1000] : List Int) g58, eB b6 [vS z16.1], eB b1 [vU 0, vU 0, vU 0, vU 0]] _ := hS.join [2] [0, 1, 3, 4] rfl rfl hq
     clear hq
     apply wl_end rfl
     replace hS : SH M X w [eB b11 [vL g66 q63], eO 2 (tI .i64) q63 g66, eB b6 [vS z16.1], eB b1 [vU 0, vU 0, vU 0, vU 0]] _ := hS.sel [0, 1, 3, 4] rfl
     obtain rfl := someE hm
     replace hS : SH M X w [eO 2 (tI .i64) q63 g66, eB b11 [vL g66 q63], eB b6 [vS z16.1], eB b1 [vU 0, vU 0, vU 0, vU 0]] _ := hS.sel [1, 0, 2, 3] rfl
     exact ⟨_, rfl, g66, FrG.keep (ks := [2, 5]) H68 (by kernel_rfl), hS⟩
    replace hm := bF hc hm
    obtain ⟨z69, hz, hm⟩ := bindE hm
    refine w_cut (fun a' w' => Fr 49 (fS [2, 5, 30] [vP b1, vP b11, vB z69]) a' ∧ SH M X w [eO 2 (tI .i64) z16.2 g45, eB b11 [vL g45 z16.2], eB b6 [vS z16.1], eB b1 [vU 0, vU 0, vU 0, vU 0]] w') ?_ ?_
    ·replace hm := hz
     refine s_reg [] [2, 5, 22, 30] (fS [2, 5, 22, 30] [vP b1, vP b11, vS z16.1, vB (z16.1 == [110, 110, 110, 47, 110])]) [] H (by kernel_rfl) trivial fun _ _ H71 hb => ?_
     replace hS := hS.below hb
     clear H hb
     refine w_if H71 rfl (fun hc => ?c75) (fun hc => ?_)
     case c75 =>
      replace hm := bT hc hm
      apply w_skip
      obtain rfl := someE hm
      exact ⟨FrG.keep (ks := [2, 5, 30]) H71 (by kernel_rfl), hS⟩
     replace hm := bF hc hm
     obtain ⟨x72, hx72, hm⟩ := letE hm
     refine w_reg [] [2, 5, 30] (fS [2, 5, 30] [vP b1, vP b11, vB x72]) [] H71 (by subst hx72; kernel_rfl) trivial fun _ _ H74 hb => ?_
     replace hS := hS.below hb
     clear H71 hb
     obtain rfl := someE hm
     exact ⟨FrG.keep (ks := [2, 5, 30]) H74 (by kernel_rfl), hS⟩
    ·rintro _ _ ⟨H, hS⟩
     refine w_if H rfl (fun hc => ?c82) (fun hc => ?_)
     case c82 =>
      replace hm := bT hc hm
      apply w_skip
      obtain rfl := someE hm
      exact ⟨_, rfl, g45, FrG.keep (ks := [2, 5]) H (by kernel_rfl), hS⟩
     replace hm := bF hc hm
     apply w_seq
     apply wl_start
     refine wl_batch 0 1 [] [2, 23] (fS [2, 23] [vP b1, vG [vU 0, vU 0, vU 0, vU 0]]) [] H (by decide) (by kernel_rfl) trivial fun _ _ H77 hb => ?_
     replace hS := hS.below hb
     clear H hb
     have hd := hS.hand [3] [0, 1, 2] rfl rfl
     refine m_stp0 [2] [(2, [], vP b1)] H77 rfl rfl rfl (o_store [vU 0, vU 0, vU 0, vU 0] H77 hd rfl rfl (by kernel_rfl) rfl rfl rfl) rfl fun _ _ H79 hq => ?_
     clear H77 hd
     obtain ⟨_, hq⟩ := hq
     replace hS : SH M X w [eB b1 [vU 0, vU 0, vU 0, vU 0], eO 2 (tI .i64) z16.2 g45, eB b11 [vL g45 z16.2], eB b6 [vS z16.1]] _ := hS.join [3] [0, 1, 2] rfl rfl hq
     clear hq
     refine wl_batch 2 3 [] [2, 3] (fS [2, 3] [vP b1, vF]) [] H79 (by decide) (by kernel_rfl) trivial fun _ _ H81 hb => ?_
     replace hS := hS.below hb
     clear H79 hb
     apply wl_end rfl
     apply w_ret
     obtain rfl := someE hm
     have hm := hm_z47
     obtain rfl := someE hm
     exact retR2 H81 rfl (oneRes_agg rfl (hS.bk 0 rfl) Tryz.underlying26 rfl (by kernel_rfl)) rfl ⟨_, rfl, rfl, (hS.sel [] rfl)⟩
  ·rintro _ _ ⟨s_z47, hz, g86, H, hS⟩
   subst hz
   replace hm := sumR hm_z47
   replace hS : SH M X w [eO 2 (tI .i64) s_z47 g86, eB b11 [vL g86 s_z47], eB b1 [vU 0, vU 0, vU 0, vU 0]] _ := hS.sel [0, 1, 3] rfl
   refine s_reg [] [2, 5, 9] (fS [2, 5, 9] [vP b1, vP b11, .func (.func 72) ⟨[]⟩ ⟨[vP b11]⟩]) [] H (by kernel_rfl) trivial fun _ _ H88 hb => ?_
   replace hS := hS.below hb
   clear H hb
   obtain ⟨y90, hy90, hm⟩ := bindE hm
   obtain ⟨y91, hy91, hm⟩ := bindE hm
   obtain ⟨y92, hy92, hm⟩ := bindE hm
   obtain ⟨ho93, hm⟩ := chkE hm
   obtain ⟨x94, hx94, hm⟩ := letE hm
   obtain ⟨x95, hx95, hm⟩ := letE hm
   refine s_drawS (base := (fS [2, 5, 9] [vP b1, vP b11, .func (.func 72) ⟨[]⟩ ⟨[vP b11]⟩])) (L := [eO 2 (tI .i64) s_z47 g86, eB b11 [vL g86 s_z47], eB b1 [vU 0, vU 0, vU 0, vU 0]]) 17 3 (fun yg89 => [.func (.func 72) ⟨[]⟩ ⟨[vP b11]⟩, vU y90, .func (.func 72) ⟨[]⟩ ⟨[vP b11]⟩, vU y91, .func (.func 72) ⟨[]⟩ ⟨[vP b11]⟩, vU y92, vL g86 s_z47, .pointer (some ⟨ab g86.a, ao g86.a + ((3 : Int)).toNat * 1, none⟩), vI (gi s_z47 (3 : Int)), vI x94, vI (if 0 < x94 then x94 else 0), vI (w64 ((if 0 < x94 then x94 else 0) * 255)), vI x95, vU (wu8 x95), vG [vU y90, vU y91, vU y92, vU (wu8 x95)], undef, vT]) (fun yg89 => [[], [], [], [], [], [], [], [], [], [], [], [], [], [], [], [eB b1 [vU y90, vU y91, vU y92, vU (wu8 x95)]], []]) [[], [17, 18], [], [17, 18], [], [17, 18], [17, 18], [17], [17], [], [], [], [], [], [], [19], []] [[], [], [], [], [], [], [], [], [], [], [], [], [], [], [], [19], []] [[0], [0, 1], [2], [2, 3], [4], [4, 5], [6], [6, 7], [6, 7, 8], [6, 7, 8, 9], [6, 7, 8, 9, 10], [6, 7, 8, 9, 10, 11], [6, 7, 8, 9, 10, 11, 12], [6, 7, 8, 9, 10, 11, 12, 13], [0, 1, 2, 3, 4, 5, 6, 7, 8, 9, 10, 11, 12, 13, 14], [0, 1, 2, 3, 4, 5, 6, 7, 8, 9, 10, 11, 12, 13, 14, 15], [16]] [] (FrG.keep (ks := [2, 5, 9]) H88 (by kernel_rfl)) (fun _ _ h => by cases h) (by kernel_rfl) hS (by kernel_rfl) rfl rfl (by kernel_rfl) (by kernel_rfl) (by kernel_rfl) (gd_none (by kernel_rfl) _ _) ?hloc_yg89 ?hstep_yg89 fun _ _ yg89 H97 hv hS => ?hK_yg89
   case hloc_yg89 => exact ⟨(fun _ _ _ _ => ⟨rfl, rfl⟩), (fun _ _ _ _ => ⟨rfl, rfl⟩), (fun _ _ _ _ => ⟨rfl, rfl⟩), (fun _ _ _ _ => ⟨rfl, rfl⟩), (fun _ _ _ _ => ⟨rfl, rfl⟩), (fun _ _ _ _ => ⟨rfl, rfl⟩), (fun _ _ _ _ => ⟨rfl, rfl⟩), (fun _ _ _ _ => ⟨rfl, rfl⟩), (fun _ _ _ _ => ⟨rfl, rfl⟩), (fun _ _ _ _ => ⟨rfl, rfl⟩), (fun _ _ _ _ => ⟨rfl, rfl⟩), (fun _ _ _ _ => ⟨rfl, rfl⟩), (fun _ _ _ _ => ⟨rfl, rfl⟩), (fun _ _ _ _ => ⟨rfl, rfl⟩), (fun _ _ _ _ => ⟨rfl, rfl⟩), (fun _ _ _ _ => ⟨rfl, rfl⟩), (fun _ _ _ _ => ⟨rfl, rfl⟩), trivial⟩
   case hstep_yg89 =>
    refine ⟨?_, ?_, ?_, ?_, ?_, ?_, ?_, ?_, ?_, ?_, ?_, ?_, ?_, ?_, ?_, ?_, ?_, trivial⟩
    ·intro o ho a w yg89 M Hb hv hO hS
     obtain rfl := someE ho
     exact Stp.mono (o_evs [] (.func (.func 72) ⟨[]⟩ ⟨[vP b11]⟩) none [] Hb rfl (by kernel_rfl) (fun q e => by cases e)) fun _ _ hq => ⟨gL [], fun _ _ => hq.1, (hS.below hq.2.below).sel [] rfl⟩
    ·intro o ho a w yg89 M Hb hv hO hS
     obtain rfl := someE ho
     exact Stp.mono (o_evs [(vU y90)] (vU y90) (some (rB 72 [vI 0, vP b11] (vU y90))) [] ((Hb).add (hv 0 (by decide) (by decide) 34 rfl)) rfl (by kernel_rfl) (fun q e => by cases e; exact (parseval_rgb_2_ok (b_u0 := b11) (g_u0 := g86) _ _ _ hy90 _ (s0ro (s0im s0nil (hS.osl 0 rfl)) (hS.bk 1 rfl))))) fun _ _ hq => ⟨gL [], fun _ _ => hq.1, (hS.below hq.2.below).sel [0, 1] rfl⟩
    ·intro o ho a w yg89 M Hb hv hO hS
     obtain rfl := someE ho
     exact Stp.mono (o_evs [] (.func (.func 72) ⟨[]⟩ ⟨[vP b11]⟩) none [] Hb rfl (by kernel_rfl) (fun q e => by cases e)) fun _ _ hq => ⟨gL [], fun _ _ => hq.1, (hS.below hq.2.below).sel [] rfl⟩
    ·intro o ho a w yg89 M Hb hv hO hS
     obtain rfl := someE ho
     exact Stp.mono (o_evs [(vU y91)] (vU y91) (some (rB 72 [vI 1, vP b11] (vU y91))) [] ((Hb).add (hv 2 (by decide) (by decide) 36 rfl)) rfl (by kernel_rfl) (fun q e => by cases e; exact (parseval_rgb_2_ok (b_u0 := b11) (g_u0 := g86) _ _ _ hy91 _ (s0ro (s0im s0nil (hS.osl 0 rfl)) (hS.bk 1 rfl))))) fun _ _ hq => ⟨gL [], fun _ _ => hq.1, (hS.below hq.2.below).sel [0, 1] rfl⟩
    ·intro o ho a w yg89 M Hb hv hO hS
     obtain rfl := someE ho
     exact Stp.mono (o_evs [] (.func (.func 72) ⟨[]⟩ ⟨[vP b11]⟩) none [] Hb rfl (by kernel_rfl) (fun q e => by cases e)) fun _ _ hq => ⟨gL [], fun _ _ => hq.1, (hS.below hq.2.below).sel [] rfl⟩
    ·intro o ho a w yg89 M Hb hv hO hS
     obtain rfl := someE ho
     exact Stp.mono (o_evs [(vU y92)] (vU y92) (some (rB 72 [vI 2, vP b11] (vU y92))) [] ((Hb).add (hv 4 (by decide) (by decide) 38 rfl)) rfl (by kernel_rfl) (fun q e => by cases e; exact (parseval_rgb_2_ok (b_u0 := b11) (g_u0 := g86) _ _ _ hy92 _ (s0ro (s0im s0nil (hS.osl 0 rfl)) (hS.bk 1 rfl))))) fun _ _ hq => ⟨gL [], fun _ _ => hq.1, (hS.below hq.2.below).sel [0, 1] rfl⟩
    ·intro o ho a w yg89 M Hb hv hO hS
     obtain rfl := someE ho
     exact Stp.mono (o_evs [(vL g86 s_z47)] (vL g86 s_z47) (some (rA b11 0 (vL g86 s_z47))) [] Hb rfl (by kernel_rfl) (fun q e => by cases e; exact ((hS.bk 1 rfl).at1 rfl))) fun _ _ hq => ⟨gL [], fun _ _ => hq.1, (hS.below hq.2.below).sel [0, 1] rfl⟩
    ·intro o ho a w yg89 M Hb hv hO hS
     obtain rfl := someE ho
     exact Stp.mono (o_evs [] (.pointer (some ⟨ab g86.a, ao g86.a + ((3 : Int)).toNat * 1, none⟩)) (some (fun _ => oka g86.a ∧ 0 ≤ (3 : Int) ∧ (3 : Int) < ln s_z47)) [] ((Hb).add (hv 6 (by decide) (by decide) 40 rfl)) rfl (by kernel_rfl) (fun q e => by cases e; exact ((hS.osl 0 rfl).oki ho93))) fun _ _ hq => ⟨gL [], fun _ _ => hq.1, (hS.below hq.2.below).sel [0] rfl⟩
    ·intro o ho a w yg89 M Hb hv hO hS
     obtain rfl := someE ho
     exact Stp.mono (o_evs [(vI (gi s_z47 (3 : Int)))] (vI (gi s_z47 (3 : Int))) (some (fun wz => V.at1 ⟨ab g86.a, ao g86.a + ((3 : Int)).toNat * 1, none⟩ (vI (gi s_z47 (3 : Int))) wz)) [] ((Hb).add (hv 7 (by decide) (by decide) 41 rfl)) rfl (by kernel_rfl) (fun q e => by cases e; exact ((hS.osl 0 rfl).at1 ho93 0 rfl))) fun _ _ hq => ⟨gL [], fun _ _ => hq.1, (hS.below hq.2.below).sel [0] rfl⟩
    ·intro o ho a w yg89 M Hb hv hO hS
     obtain rfl := someE ho
     exact Stp.mono (o_evs [] (vI x94) none [] ((Hb).add (hv 8 (by decide) (by decide) 42 rfl)) rfl (by subst hx94; kernel_rfl) (fun q e => by cases e)) fun _ _ hq => ⟨gL [], fun _ _ => hq.1, (hS.below hq.2.below).sel [] rfl⟩
    ·intro o ho a w yg89 M Hb hv hO hS
     obtain rfl := someE ho
     exact Stp.mono (o_evs [] (vI (if 0 < x94 then x94 else 0)) none [] ((Hb).add (hv 9 (by decide) (by decide) 43 rfl)) rfl (by kernel_rfl) (fun q e => by cases e)) fun _ _ hq => ⟨gL [], fun _ _ => hq.1, (hS.below hq.2.below).sel [] rfl⟩
    ·intro o ho a w yg89 M Hb hv hO hS
     obtain rfl := someE ho
     exact Stp.mono (o_evs [] (vI (w64 ((if 0 < x94 then x94 else 0) * 255))) none [] ((Hb).add (hv 10 (by decide) (by decide) 44 rfl)) rfl (by kernel_rfl) (fun q e => by cases e)) fun _ _ hq => ⟨gL [], fun _ _ => hq.1, (hS.below hq.2.below).sel [] rfl⟩
    ·intro o ho a w yg89 M Hb hv hO hS
     obtain rfl := someE ho
     exact Stp.mono (o_evs [] (vI x95) (some (fun _ => (1000 : Int) ≠ 0)) [] ((Hb).add (hv 11 (by decide) (by decide) 45 rfl)) rfl (by subst hx95; kernel_rfl) (fun q e => by cases e; exact (by show (1000 : Int) ≠ 0; decide))) fun _ _ hq => ⟨gL [], fun _ _ => hq.1, (hS.below hq.2.below).sel [] rfl⟩
    ·intro o ho a w yg89 M Hb hv hO hS
     obtain rfl := someE ho
     exact Stp.mono (o_evs [] (vU (wu8 x95)) none [] ((Hb).add (hv 12 (by decide) (by decide) 46 rfl)) rfl (by kernel_rfl) (fun q e => by cases e)) fun _ _ hq => ⟨gL [], fun _ _ => hq.1, (hS.below hq.2.below).sel [] rfl⟩
    ·intro o ho a w yg89 M Hb hv hO hS
     obtain rfl := someE ho
     exact Stp.mono (o_evs [] (vG [vU y90, vU y91, vU y92, vU (wu8 x95)]) none [] (((((Hb).add (hv 1 (by decide) (by decide) 35 rfl)).add (hv 3 (by decide) (by decide) 37 rfl)).add (hv 5 (by decide) (by decide) 39 rfl)).add (hv 13 (by decide) (by decide) 47 rfl)) rfl (by kernel_rfl) (fun q e => by cases e)) fun _ _ hq => ⟨gL [], fun _ _ => hq.1, (hS.below hq.2.below).sel [] rfl⟩
    ·intro o ho a w yg89 M Hb hv hO hS0
     obtain rfl := someE ho
     have H : Fr 49 ([(48, [], vG [vU y90, vU y91, vU y92, vU (wu8 x95)])] ++ (fS [2, 5, 9] [vP b1, vP b11, .func (.func 72) ⟨[]⟩ ⟨[vP b11]⟩])) _ := (Hb).add (hv 14 (by decide) (by decide) 48 rfl)
     obtain ⟨X, hX⟩ : ∃ X, X = fpl [eB b1 [vU 0, vU 0, vU 0, vU 0]] := ⟨_, rfl⟩
     have hS : SH M X w [eB b1 [vU 0, vU 0, vU 0, vU 0]] w := by rw [hX]; exact hS0
     have hd := hS.hand [0] [] rfl rfl
     refine Stp.mono (o_store [vU y90, vU y91, vU y92, vU (wu8 x95)] H hd rfl rfl (by kernel_rfl) rfl rfl rfl) ?_
     rintro v w2 hq
     replace hS : SH M X w [eB b1 [vU y90, vU y91, vU y92, vU (wu8 x95)]] _ := hS.join [0] [] rfl rfl hq
     clear hq
     rw [hX] at hS
     exact ⟨gL [], (fun _ h => by cases h), hS.sel [0] rfl⟩
    ·intro o ho a w yg89 M Hb hv hO hS
     obtain rfl := someE ho
     exact Stp.mono (o_evs [] (vT) none [] Hb rfl (by kernel_rfl) (fun q e => by cases e)) fun _ _ hq => ⟨gL [], fun _ _ => hq.1, (hS.below hq.2.below).sel [] rfl⟩
   have H98 : Fr 49 (fS [3, 2] [vT, vP b1]) _ := (FrG.add (FrG.keep (ks := [2]) H97 (by kernel_rfl)) (hv 16 3 rfl))
   replace hS : SH M X w [eB b1 [vU y90, vU y91, vU y92, vU (wu8 x95)], eO 2 (tI .i64) s_z47 g86, eB b11 [vL g86 s_z47]] _ := hS
   clear hv H97
   replace hS : SH M X w [eB b1 [vU y90, vU y91, vU y92, vU (wu8 x95)]] _ := hS.sel [0] rfl
   apply w_ret
   obtain rfl := someE hm
   exact retR2 H98 rfl (oneRes_agg rfl (hS.bk 0 rfl) Tryz.underlying26 rfl (by kernel_rfl)) rfl ⟨_, rfl, rfl, (hS.sel [] rfl)⟩
theorem parseval_rgb_ok {g_l_ : Gh} (m : Nat) (l_ : List TValue) (r : TColor × Bool) (hm : parseval_rgb m l_ = some r) (w : World) (hL : S0 F0 [eI tyValue l_ g_l_] w ∧ fpl [eI tyValue l_ g_l_] = []) : RetB Tryz.prog 50 ⟨[vL g_l_ l_]⟩ (vW [vG (cC r.1), vB r.2]) w := retB_of hL (Tryz.call50 _) (fun w' h => parseval_rgb_w F0 m   l_ r hm w' h)

theorem parseval_color_w {g_v__0 : Gh} (M : Av) (m : Nat) (v_ : TValue) (r : TColor × Bool) (hm : parseval_color m v_ = some r) (w : World) (hS : S0 M [eI tyValue v_.List_ g_v__0] w) : Calls Tryz.prog 31 ⟨[vG [vU v_.Token.Kind, vS v_.Token.Text, vI v_.Token.Num, vS v_.Token.Unit, vB v_.Token.Flag, vL g_v__0 v_.List_]]⟩ w (fun e w' => ∃ v, e = .returned v ∧ v = vW [vG (cC r.1), vB r.2] ∧ SH M (fpl [eI tyValue v_.List_ g_v__0]) w [] w') := by
 rw [parseval_color] at hm
 have hS0 : SH M (fpl [eI tyValue v_.List_ g_v__0]) w [eI tyValue v_.List_ g_v__0] w := hS
 generalize hX : fpl [eI tyValue v_.List_ g_v__0] = X at hS0 ⊢
 clear hS hX
 have hS := hS0
 clear hS0
 refine calls_entryP Tryz.func31 rfl Tryz.ntmps31 rfl fun _ H => ?_
 apply w_seq
 apply wl_start
 have hd := hS.hand [] [0] rfl rfl
 refine m_stp [1] [] H rfl rfl rfl rfl (o_box [vU v_.Token.Kind, vS v_.Token.Text, vI v_.Token.Num, vS v_.Token.Unit, vB v_.Token.Flag, vL g_v__0 v_.List_] H hd rfl rfl) (fun _ => rfl) fun _ _ v H3 hq => ?_
 clear H hd
 obtain ⟨b1, rfl, hq⟩ := hq
 replace hS : SH M X w [eB b1 [vU v_.Token.Kind, vS v_.Token.Text, vI v_.Token.Num, vS v_.Token.Unit, vB v_.Token.Flag, vL g_v__0 v_.List_], eI tyValue v_.List_ g_v__0] _ := hS.join [] [0] rfl rfl hq
 clear hq
 have hd := hS.hand [] [0, 1] rfl rfl
 refine m_stp [2, 1] [(1, [], vP b1)] H3 rfl rfl rfl rfl (o_alloc [vU 0, vU 0, vU 0, vU 0] (z := vG [vU 0, vU 0, vU 0, vU 0]) hd (by kernel_rfl) rfl) (fun _ => rfl) fun _ _ v H6 hq => ?_
 clear H3 hd
 obtain ⟨b4, rfl, hq⟩ := hq
 replace hS : SH M X w [eB b4 [vU 0, vU 0, vU 0, vU 0], eB b1 [vU v_.Token.Kind, vS v_.Token.Text, vI v_.Token.Num, vS v_.Token.Unit, vB v_.Token.Flag, vL g_v__0 v_.List_], eI tyValue v_.List_ g_v__0] _ := hS.join [] [0, 1] rfl rfl hq
 clear hq
 refine wl_batch 2 3 [] [1, 2] (fS [1, 2] [vP b1, vP b4]) [] H6 (by decide) (by kernel_rfl) trivial fun _ _ H8 hb => ?_
 replace hS := hS.below hb
 clear H6 hb
 apply wl_end rfl
 obtain ⟨z9, hz, hm_z9⟩ := bindE hm
 refine w_cut (fun a' w' => ∃ s_z9 : Unit, z9 = Sum.inr s_z9 ∧ Fr 48 [(2, [], vP b4)] a' ∧ SH M X w [eB b4 [vU 0, vU 0, vU 0, vU 0], eB b1 [vU v_.Token.Kind, vS v_.Token.Text, vI v_.Token.Num, vS v_.Token.Unit, vB v_.Token.Flag, vL g_v__0 v_.List_], eI tyValue v_.List_ g_v__0] w') ?_ ?_
 ·replace hm := hz
  refine s_reg [(vU v_.Token.Kind)] [1, 2, 9] (fS [1, 2, 9] [vP b1, vP b4, vU v_.Token.Kind]) [rA b1 0 (vU v_.Token.Kind)] H8 (by kernel_rfl) ⟨((hS.bk 1 rfl).at1 rfl), trivial⟩ fun _ _ H11 hb => ?_
  replace hS := hS.below hb
  clear H8 hb
  apply w_block
  refine s_reg [] [1, 2, 9, 10] (fS [1, 2, 9, 10] [vP b1, vP b4, vU v_.Token.Kind, vB (v_.Token.Kind == 1)]) [] H11 (by kernel_rfl) trivial fun _ _ H13 hb => ?_
  replace hS := hS.below hb
  clear H11 hb
  refine w_if H13 rfl (fun hc => ?c57) (fun hc => ?_)
  case c57 =>
   replace hm := bT hc hm
   apply w_seq
   apply wl_start
   obtain ⟨y14, hy14, hm⟩ := bindE hm
   refine wl_batch 0 7 [(vS v_.Token.Text), (vW [vG (cC y14.1), vI y14.2])] [2, 17, 18] (fS [2, 17, 18] [vP b4, vG (cC y14.1), vI y14.2]) [rA b1 1 (vS v_.Token.Text), rB 22 [vS v_.Token.Text] (vW [vG (cC y14.1), vI y14.2])] H13 (by decide) (by kernel_rfl) ⟨((hS.bk 1 rfl).at1 rfl), ((parseval_Named_ok m _ _ hy14).b), trivial⟩ fun _ _ H16 hb => ?_
   replace hS := hS.below hb
   clear H13 hb
   have hd := hS.hand [] [0, 1, 2] rfl rfl
   refine m_stp [4, 2, 17, 18] (fS [2, 17, 18] [vP b4, vG (cC y14.1), vI y14.2]) H16 rfl rfl rfl rfl (o_alloc [vU 0, vU 0, vU 0, vU 0] (z := vG [vU 0, vU 0, vU 0, vU 0]) hd (by kernel_rfl) rfl) (fun _ => rfl) fun _ _ v H19 hq => ?_
   clear H16 hd
   obtain ⟨b17, rfl, hq⟩ := hq
   replace hS : SH M X w [eB b17 [vU 0, vU 0, vU 0, vU 0], eB b4 [vU 0, vU 0, vU 0, vU 0], eB b1 [vU v_.Token.Kind, vS v_.Token.Text, vI v_.Token.Num, vS v_.Token.Unit, vB v_.Token.Flag, vL g_v__0 v_.List_], eI tyValue v_.List_ g_v__0] _ := hS.join [] [0, 1, 2] rfl rfl hq
   clear hq
   have hd := hS.hand [0] [1, 2, 3] rfl rfl
   refine m_stp0 [2, 4, 18] (fS [2, 4, 18] [vP b4, vP b17, vI y14.2]) H19 rfl rfl rfl (o_store (cC y14.1) H19 hd rfl rfl (by kernel_rfl) rfl rfl rfl) rfl fun _ _ H21 hq => ?_
   clear H19 hd
   obtain ⟨_, hq⟩ := hq
   replace hS : SH M X w [eB b17 (cC y14.1), eB b4 [vU 0, vU 0, vU 0, vU 0], eB b1 [vU v_.Token.Kind, vS v_.Token.Text, vI v_.Token.Num, vS v_.Token.Unit, vB v_.Token.Flag, vL g_v__0 v_.List_], eI tyValue v_.List_ g_v__0] _ := hS.join [0] [1, 2, 3] rfl rfl hq
   clear hq
   refine wl_batch 9 10 [] [2, 4, 5] (fS [2, 4, 5] [vP b4, vP b17, vI y14.2]) [] H21 (by decide) (by kernel_rfl) trivial fun _ _ H23 hb => ?_
   replace hS := hS.below hb
   clear H21 hb
   apply wl_end rfl
   apply w_seq
   apply wl_start
   refine wl_batch 0 3 [(vG (cC y14.1))] [2, 19, 21] (fS [2, 19, 21] [vP b4, vG (cC y14.1), vB (y14.2 == 0)]) [rN b17 0 (cC y14.1)] H23 (by decide) (by kernel_rfl) ⟨((hS.bk 0 rfl).atD rfl), trivial⟩ fun _ _ H25 hb => ?_
   replace hS := hS.below hb
   clear H23 hb
   have hd := hS.hand [1] [0, 2, 3] rfl rfl
   refine m_stp0 [2, 21] (fS [2, 21] [vP b4, vB (y14.2 == 0)]) H25 rfl rfl rfl (o_store (cC y14.1) H25 hd rfl rfl (by kernel_rfl) rfl rfl rfl) rfl fun _ _ H27 hq => ?_
   clear H25 hd
   obtain ⟨_, hq⟩ := hq
   replace hS : SH M X w [eB b4 (cC y14.1), eB b17 (cC y14.1), eB b1 [vU v_.Token.Kind, vS v_.Token.Text, vI v_.Token.Num, vS v_.Token.Unit, vB v_.Token.Flag, vL g_v__0 v_.List_], eI tyValue v_.List_ g_v__0] _ := hS.join [1] [0, 2, 3] rfl rfl hq
   clear hq
   refine wl_batch 4 5 [] [2, 3] (fS [2, 3] [vP b4, vB (y14.2 == 0)]) [] H27 (by decide) (by kernel_rfl) trivial fun _ _ H29 hb => ?_
   replace hS := hS.below hb
   clear H27 hb
   apply wl_end rfl
   replace hS : SH M X w [eB b4 (cC y14.1), eB b1 [vU v_.Token.Kind, vS v_.Token.Text, vI v_.Token.Num, vS v_.Token.Unit, vB v_.Token.Flag, vL g_v__0 v_.List_], eI tyValue v_.List_ g_v__0] _ := hS.sel [0, 2, 3] rfl
   apply w_ret
   obtain rfl := someE hm
   have hm := hm_z9
   obtain rfl := someE hm
   exact retR2 H29 rfl (oneRes_agg rfl (hS.bk 0 rfl) Tryz.underlying26 rfl (by kernel_rfl)) rfl ⟨_, rfl, rfl, (hS.sel [] rfl)⟩
  replace hm := bF hc hm
  refine s_reg [] [1, 2, 9, 22] (fS [1, 2, 9, 22] [vP b1, vP b4, vU v_.Token.Kind, vB (v_.Token.Kind == 4)]) [] H13 (by kernel_rfl) trivial fun _ _ H31 hb => ?_
  replace hS := hS.below hb
  clear H13 hb
  refine w_if H31 rfl (fun hc => ?c56) (fun hc => ?_)
  case c56 =>
   replace hm := bT hc hm
   apply w_seq
   apply wl_start
   obtain ⟨y32, hy32, hm⟩ := bindE hm
   refine wl_batch 0 6 [(vS v_.Token.Text), (vW [vG (cC y32.1), vB y32.2])] [2, 28, 29] (fS [2, 28, 29] [vP b4, vG (cC y32.1), vB y32.2]) [rA b1 1 (vS v_.Token.Text), rB 49 [vS v_.Token.Text] (vW [vG (cC y32.1), vB y32.2])] H31 (by decide) (by kernel_rfl) ⟨((hS.bk 1 rfl).at1 rfl), ((parseval_hash_ok m _ _ hy32).b), trivial⟩ fun _ _ H34 hb => ?_
   replace hS := hS.below hb
   clear H31 hb
   have hd := hS.hand [0] [1, 2] rfl rfl
   refine m_stp0 [2, 29] (fS [2, 29] [vP b4, vB y32.2]) H34 rfl rfl rfl (o_store (cC y32.1) H34 hd rfl rfl (by kernel_rfl) rfl rfl rfl) rfl fun _ _ H36 hq => ?_
   clear H34 hd
   obtain ⟨_, hq⟩ := hq
   replace hS : SH M X w [eB b4 (cC y32.1), eB b1 [vU v_.Token.Kind, vS v_.Token.Text, vI v_.Token.Num, vS v_.Token.Unit, vB v_.Token.Flag, vL g_v__0 v_.List_], eI tyValue v_.List_ g_v__0] _ := hS.join [0] [1, 2] rfl rfl hq
   clear hq
   refine wl_batch 7 8 [] [2, 3] (fS [2, 3] [vP b4, vB y32.2]) [] H36 (by decide) (by kernel_rfl) trivial fun _ _ H38 hb => ?_
   replace hS := hS.below hb
   clear H36 hb
   apply wl_end rfl
   apply w_ret
   obtain rfl := someE hm
   have hm := hm_z9
   obtain rfl := someE hm
   exact retR2 H38 rfl (oneRes_agg rfl (hS.bk 0 rfl) Tryz.underlying26 rfl (by kernel_rfl)) rfl ⟨_, rfl, rfl, (hS.sel [] rfl)⟩
  replace hm := bF hc hm
  refine s_reg [] [1, 2, 30] (fS [1, 2, 30] [vP b1, vP b4, vB (v_.Token.Kind == 2)]) [] H31 (by kernel_rfl) trivial fun _ _ H40 hb => ?_
  replace hS := hS.below hb
  clear H31 hb
  refine w_if H40 rfl (fun hc => ?_) (fun hc => ?c55)
  case c55 =>
   replace hm := bF hc hm
   apply w_skip
   obtain rfl := someE hm
   exact ⟨_, rfl, FrG.keep (ks := [2]) H40 (by kernel_rfl), hS⟩
  replace hm := bT hc hm
  obtain ⟨y41, hy41, hm⟩ := bindE hm
  refine s_reg [(vS v_.Token.Text), (vS y41)] [1, 2, 6] (fS [1, 2, 6] [vP b1, vP b4, vS y41]) [rA b1 1 (vS v_.Token.Text), rB 37 [vS v_.Token.Text] (vS y41)] H40 (by kernel_rfl) ⟨((hS.bk 1 rfl).at1 rfl), ((parseval_small_ok m _ _ hy41).b), trivial⟩ fun _ _ H43 hb => ?_
  replace hS := hS.below hb
  clear H40 hb
  obtain ⟨x44, hx44, hm⟩ := letE hm
  refine s_reg [] [1, 2, 41] (fS [1, 2, 41] [vP b1, vP b4, vB x44]) [] H43 (by subst hx44; kernel_rfl) trivial fun _ _ H46 hb => ?_
  replace hS := hS.below hb
  clear H43 hb
  refine w_if H46 rfl (fun hc => ?_) (fun hc => ?c54)
  case c54 =>
   replace hm := bF hc hm
   apply w_skip
   obtain rfl := someE hm
   exact ⟨_, rfl, FrG.keep (ks := [2]) H46 (by kernel_rfl), hS⟩
  replace hm := bT hc hm
  apply w_seq
  apply wl_start
  obtain ⟨y47, hy47, hm⟩ := bindE hm
  refine wl_batch 0 5 [(vL g_v__0 v_.List_), (vW [vG (cC y47.1), vB y47.2])] [2, 45, 46] (fS [2, 45, 46] [vP b4, vG (cC y47.1), vB y47.2]) [rA b1 5 (vL g_v__0 v_.List_), rB 50 [vL g_v__0 v_.List_] (vW [vG (cC y47.1), vB y47.2])] H46 (by decide) (by kernel_rfl) ⟨((hS.bk 1 rfl).at1 rfl), (parseval_rgb_ok (g_l_ := g_v__0) m _ _ hy47 _ (s0im s0nil (hS.im 2 rfl))), trivial⟩ fun _ _ H49 hb => ?_
  replace hS := hS.below hb
  clear H46 hb
  have hd := hS.hand [0] [1, 2] rfl rfl
  refine m_stp0 [2, 46] (fS [2, 46] [vP b4, vB y47.2]) H49 rfl rfl rfl (o_store (cC y47.1) H49 hd rfl rfl (by kernel_rfl) rfl rfl rfl) rfl fun _ _ H51 hq => ?_
  clear H49 hd
  obtain ⟨_, hq⟩ := hq
  replace hS : SH M X w [eB b4 (cC y47.1), eB b1 [vU v_.Token.Kind, vS v_.Token.Text, vI v_.Token.Num, vS v_.Token.Unit, vB v_.Token.Flag, vL g_v__0 v_.List_], eI tyValue v_.List_ g_v__0] _ := hS.join [0] [1, 2] rfl rfl hq
  clear hq
  refine wl_batch 6 7 [] [2, 3] (fS [2, 3] [vP b4, vB y47.2]) [] H51 (by decide) (by kernel_rfl) trivial fun _ _ H53 hb => ?_
  replace hS := hS.below hb
  clear H51 hb
  apply wl_end rfl
  apply w_ret
  obtain rfl := someE hm
  have hm := hm_z9
  obtain rfl := someE hm
  exact retR2 H53 rfl (oneRes_agg rfl (hS.bk 0 rfl) Tryz.underlying26 rfl (by kernel_rfl)) rfl ⟨_, rfl, rfl, (hS.sel [] rfl)⟩
 ·rintro _ _ ⟨s_z9, hz, H, hS⟩
  subst hz
  replace hm := sumR hm_z9
  replace hS : SH M X w [eB b4 [vU 0, vU 0, vU 0, vU 0]] _ := hS.sel [0] rfl
  apply w_seq
  apply wl_start
  refine wl_batch 0 1 [] [2, 47] (fS [2, 47] [vP b4, vG [vU 0, vU 0, vU 0, vU 0]]) [] H (by decide) (by kernel_rfl) trivial fun _ _ H59 hb => ?_
  replace hS := hS.below hb
  clear H hb
  have hd := hS.hand [0] [] rfl rfl
  refine m_stp0 [2] [(2, [], vP b4)] H59 rfl rfl rfl (o_store [vU 0, vU 0, vU 0, vU 0] H59 hd rfl rfl (by kernel_rfl) rfl rfl rfl) rfl fun _ _ H61 hq => ?_
  clear H59 hd
  obtain ⟨_, hq⟩ := hq
  replace hS : SH M X w [eB b4 [vU 0, vU 0, vU 0, vU 0]] _ := hS.join [0] [] rfl rfl hq
  clear hq
  refine wl_batch 2 3 [] [2, 3] (fS [2, 3] [vP b4, vF]) [] H61 (by decide) (by kernel_rfl) trivial fun _ _ H63 hb => ?_
  replace hS := hS.below hb
  clear H61 hb
  apply wl_end rfl
  apply w_ret
  obtain rfl := someE hm
  exact retR2 H63 rfl (oneRes_agg rfl (hS.bk 0 rfl) Tryz.underlying26 rfl (by kernel_rfl)) rfl ⟨_, rfl, rfl, (hS.sel [] rfl)⟩
theorem parseval_color_ok {g_v__0 : Gh} (m : Nat) (v_ : TValue) (r : TColor × Bool) (hm : parseval_color m v_ = some r) (w : World) (hL : S0 F0 [eI tyValue v_.List_ g_v__0] w ∧ fpl [eI tyValue v_.List_ g_v__0] = []) : RetB Tryz.prog 31 ⟨[vG [vU v_.Token.Kind, vS v_.Token.Text, vI v_.Token.Num, vS v_.Token.Unit, vB v_.Token.Flag, vL g_v__0 v_.List_]]⟩ (vW [vG (cC r.1), vB r.2]) w := retB_of hL (Tryz.call31 _) (fun w' h => parseval_color_w F0 m   v_ r hm w' h)

theorem parseval_Color_w {g_l_ : Gh} (M : Av) (m : Nat) (l_ : List TValue) (r : TColor × Int) (hm : parseval_Color m l_ = some r) (w : World) (hS : S0 M [eI tyValue l_ g_l_] w) : Calls Tryz.prog 14 ⟨[vL g_l_ l_]⟩ w (fun e w' => ∃ v, e = .returned v ∧ v = vW [vG (cC r.1), vI r.2] ∧ SH M (fpl [eI tyValue l_ g_l_]) w [] w') := by
 rw [parseval_Color] at hm
 have hS0 : SH M (fpl [eI tyValue l_ g_l_]) w [eI tyValue l_ g_l_] w := hS
 generalize hX : fpl [eI tyValue l_ g_l_] = X at hS0 ⊢
 clear hS hX
 have hS := hS0
 clear hS0
 refine calls_entryP Tryz.func14 rfl Tryz.ntmps14 rfl fun _ H => ?_
 apply w_seq
 apply wl_start
 have hd := hS.hand [] [0] rfl rfl
 refine m_stp [2, 0] [(0, [], vL g_l_ l_)] H rfl rfl rfl rfl (o_alloc [vU 0, vU 0, vU 0, vU 0] (z := vG [vU 0, vU 0, vU 0, vU 0]) hd (by kernel_rfl) rfl) (fun _ => rfl) fun _ _ v H3 hq => ?_
 clear H hd
 obtain ⟨b1, rfl, hq⟩ := hq
 replace hS : SH M X w [eB b1 [vU 0, vU 0, vU 0, vU 0], eI tyValue l_ g_l_] _ := hS.join [] [0] rfl rfl hq
 clear hq
 refine wl_batch 1 2 [] [0, 2] (fS [0, 2] [vL g_l_ l_, vP b1]) [] H3 (by decide) (by kernel_rfl) trivial fun _ _ H5 hb => ?_
 replace hS := hS.below hb
 clear H3 hb
 apply wl_end rfl
 apply w_seq
 refine s_reg [] [0, 2, 8] (fS [0, 2, 8] [vL g_l_ l_, vP b1, vB ((ln l_) != 1)]) [] H5 (by kernel_rfl) trivial fun _ _ H7 hb => ?_
 replace hS := hS.below hb
 clear H5 hb
 refine w_if H7 rfl (fun hc => ?c40) (fun hc => ?_)
 case c40 =>
  replace hm := bT hc hm
  apply w_seq
  apply wl_start
  refine wl_batch 0 1 [] [2, 9] (fS [2, 9] [vP b1, vG [vU 0, vU 0, vU 0, vU 0]]) [] H7 (by decide) (by kernel_rfl) trivial fun _ _ H9 hb => ?_
  replace hS := hS.below hb
  clear H7 hb
  have hd := hS.hand [0] [1] rfl rfl
  refine m_stp0 [2] [(2, [], vP b1)] H9 rfl rfl rfl (o_store [vU 0, vU 0, vU 0, vU 0] H9 hd rfl rfl (by kernel_rfl) rfl rfl rfl) rfl fun _ _ H11 hq => ?_
  clear H9 hd
  obtain ⟨_, hq⟩ := hq
  replace hS : SH M X w [eB b1 [vU 0, vU 0, vU 0, vU 0], eI tyValue l_ g_l_] _ := hS.join [0] [1] rfl rfl hq
  clear hq
  refine wl_batch 2 3 [] [2, 3] (fS [2, 3] [vP b1, vI 12]) [] H11 (by decide) (by kernel_rfl) trivial fun _ _ H13 hb => ?_
  replace hS := hS.below hb
  clear H11 hb
  apply wl_end rfl
  replace hS : SH M X w [eB b1 [vU 0, vU 0, vU 0, vU 0]] _ := hS.sel [0] rfl
  apply w_ret
  obtain rfl := someE hm
  exact retR2 H13 rfl (oneRes_agg rfl (hS.bk 0 rfl) Tryz.underlying26 rfl (by kernel_rfl)) rfl ⟨_, rfl, rfl, (hS.sel [] rfl)⟩
 replace hm := bF hc hm
 apply w_skip
 apply w_seq
 apply wl_start
 obtain ⟨ho14, hm⟩ := chkE hm
 obtain ⟨y15, hy15, hm⟩ := bindE hm
 refine wl_batch 0 7 [(vG [vU ((gi l_ (0 : Int)).Token.Kind), vS (gi l_ (0 : Int)).Token.Text, vI ((gi l_ (0 : Int)).Token.Num), vS (gi l_ (0 : Int)).Token.Unit, vB ((gi l_ (0 : Int)).Token.Flag), .slice (g_l_.s ((0 : Int)).toNat 0).a (((gi l_ (0 : Int)).List_).length) (g_l_.s ((0 : Int)).toNat 0).c]), (vW [vG (cC y15.1), vB y15.2])] [2, 15, 16] (fS [2, 15, 16] [vP b1, vG (cC y15.1), vB y15.2]) [fun _ => oka g_l_.a ∧ 0 ≤ (0 : Int) ∧ (0 : Int) < ln l_, fun wz => V.atN (ab g_l_.a) (ao g_l_.a + ((0 : Int)).toNat * 6) [vU ((gi l_ (0 : Int)).Token.Kind), vS (gi l_ (0 : Int)).Token.Text, vI ((gi l_ (0 : Int)).Token.Num), vS (gi l_ (0 : Int)).Token.Unit, vB ((gi l_ (0 : Int)).Token.Flag), .slice (g_l_.s ((0 : Int)).toNat 0).a (((gi l_ (0 : Int)).List_).length) (g_l_.s ((0 : Int)).toNat 0).c] 0 wz, rB 31 [vG [vU ((gi l_ (0 : Int)).Token.Kind), vS (gi l_ (0 : Int)).Token.Text, vI ((gi l_ (0 : Int)).Token.Num), vS (gi l_ (0 : Int)).Token.Unit, vB ((gi l_ (0 : Int)).Token.Flag), .slice (g_l_.s ((0 : Int)).toNat 0).a (((gi l_ (0 : Int)).List_).length) (g_l_.s ((0 : Int)).toNat 0).c]] (vW [vG (cC y15.1), vB y15.2])] H7 (by decide) (by kernel_rfl) ⟨((hS.im 1 rfl).oki ho14), ((hS.im 1 rfl).atA ho14 0 rfl), (parseval_color_ok (g_v__0 := (g_l_.s ((0 : Int)).toNat 0)) m _ _ hy15 _ (s0im s0nil (tyValue_i0 ((hS.im 1 rfl).el ho14)))), trivial⟩ fun _ _ H17 hb => ?_
 replace hS := hS.below hb
 clear H7 hb
 have hd := hS.hand [] [0, 1] rfl rfl
 refine m_stp [4, 2, 15, 16] (fS [2, 15, 16] [vP b1, vG (cC y15.1), vB y15.2]) H17 rfl rfl rfl rfl (o_alloc [vU 0, vU 0, vU 0, vU 0] (z := vG [vU 0, vU 0, vU 0, vU 0]) hd (by kernel_rfl) rfl) (fun _ => rfl) fun _ _ v H20 hq => ?_
 clear H17 hd
 obtain ⟨b18, rfl, hq⟩ := hq
 replace hS : SH M X w [eB b18 [vU 0, vU 0, vU 0, vU 0], eB b1 [vU 0, vU 0, vU 0, vU 0], eI tyValue l_ g_l_] _ := hS.join [] [0, 1] rfl rfl hq
 clear hq
 have hd := hS.hand [0] [1, 2] rfl rfl
 refine m_stp0 [2, 4, 16] (fS [2, 4, 16] [vP b1, vP b18, vB y15.2]) H20 rfl rfl rfl (o_store (cC y15.1) H20 hd rfl rfl (by kernel_rfl) rfl rfl rfl) rfl fun _ _ H22 hq => ?_
 clear H20 hd
 obtain ⟨_, hq⟩ := hq
 replace hS : SH M X w [eB b18 (cC y15.1), eB b1 [vU 0, vU 0, vU 0, vU 0], eI tyValue l_ g_l_] _ := hS.join [0] [1, 2] rfl rfl hq
 clear hq
 refine wl_batch 9 10 [] [2, 4, 5] (fS [2, 4, 5] [vP b1, vP b18, vB y15.2]) [] H22 (by decide) (by kernel_rfl) trivial fun _ _ H24 hb => ?_
 replace hS := hS.below hb
 clear H22 hb
 apply wl_end rfl
 replace hS : SH M X w [eB b18 (cC y15.1), eB b1 [vU 0, vU 0, vU 0, vU 0]] _ := hS.sel [0, 1] rfl
 apply w_seq
 refine s_reg [] [2, 4, 18] (fS [2, 4, 18] [vP b1, vP b18, vB (!y15.2)]) [] H24 (by kernel_rfl) trivial fun _ _ H26 hb => ?_
 replace hS := hS.below hb
 clear H24 hb
 refine w_if H26 rfl (fun hc => ?c39) (fun hc => ?_)
 case c39 =>
  replace hm := bT hc hm
  apply w_seq
  apply wl_start
  refine wl_batch 0 1 [] [2, 19] (fS [2, 19] [vP b1, vG [vU 0, vU 0, vU 0, vU 0]]) [] H26 (by decide) (by kernel_rfl) trivial fun _ _ H28 hb => ?_
  replace hS := hS.below hb
  clear H26 hb
  have hd := hS.hand [1] [0] rfl rfl
  refine m_stp0 [2] [(2, [], vP b1)] H28 rfl rfl rfl (o_store [vU 0, vU 0, vU 0, vU 0] H28 hd rfl rfl (by kernel_rfl) rfl rfl rfl) rfl fun _ _ H30 hq => ?_
  clear H28 hd
  obtain ⟨_, hq⟩ := hq
  replace hS : SH M X w [eB b1 [vU 0, vU 0, vU 0, vU 0], eB b18 (cC y15.1)] _ := hS.join [1] [0] rfl rfl hq
  clear hq
  refine wl_batch 2 3 [] [2, 3] (fS [2, 3] [vP b1, vI 12]) [] H30 (by decide) (by kernel_rfl) trivial fun _ _ H32 hb => ?_
  replace hS := hS.below hb
  clear H30 hb
  apply wl_end rfl
  replace hS : SH M X w [eB b1 [vU 0, vU 0, vU 0, vU 0]] _ := hS.sel [0] rfl
  apply w_ret
  obtain rfl := someE hm
  exact retR2 H32 rfl (oneRes_agg rfl (hS.bk 0 rfl) Tryz.underlying26 rfl (by kernel_rfl)) rfl ⟨_, rfl, rfl, (hS.sel [] rfl)⟩
 replace hm := bF hc hm
 apply w_skip
 apply w_seq
 apply wl_start
 refine wl_batch 0 1 [(vG (cC y15.1))] [2, 20] (fS [2, 20] [vP b1, vG (cC y15.1)]) [rN b18 0 (cC y15.1)] H26 (by decide) (by kernel_rfl) ⟨((hS.bk 0 rfl).atD rfl), trivial⟩ fun _ _ H34 hb => ?_
 replace hS := hS.below hb
 clear H26 hb
 have hd := hS.hand [1] [0] rfl rfl
 refine m_stp0 [2] [(2, [], vP b1)] H34 rfl rfl rfl (o_store (cC y15.1) H34 hd rfl rfl (by kernel_rfl) rfl rfl rfl) rfl fun _ _ H36 hq => ?_
 clear H34 hd
 obtain ⟨_, hq⟩ := hq
 replace hS : SH M X w [eB b1 (cC y15.1), eB b18 (cC y15.1)] _ := hS.join [1] [0] rfl rfl hq
 clear hq
 refine wl_batch 2 3 [] [2, 3] (fS [2, 3] [vP b1, vI 0]) [] H36 (by decide) (by kernel_rfl) trivial fun _ _ H38 hb => ?_
 replace hS := hS.below hb
 clear H36 hb
 apply wl_end rfl
 replace hS : SH M X w [eB b1 (cC y15.1)] _ := hS.sel [0] rfl
 apply w_ret
 obtain rfl := someE hm
 exact retR2 H38 rfl (oneRes_agg rfl (hS.bk 0 rfl) Tryz.underlying26 rfl (by kernel_rfl)) rfl ⟨_, rfl, rfl, (hS.sel [] rfl)⟩
theorem parseval_Color_ok {g_l_ : Gh} (m : Nat) (l_ : List TValue) (r : TColor × Int) (hm : parseval_Color m l_ = some r) (w : World) (hL : S0 F0 [eI tyValue l_ g_l_] w ∧ fpl [eI tyValue l_ g_l_] = []) : RetB Tryz.prog 14 ⟨[vL g_l_ l_]⟩ (vW [vG (cC r.1), vI r.2]) w := retB_of hL (Tryz.call14 _) (fun w' h => parseval_Color_w F0 m   l_ r hm w' h)

def tyVal : Ty TVal where
  z := 7
  enc := fun x g => (cV x)
  inn := fun _ _ _ _ => True
  len := fun _ _ => rfl
  one := fun _ _ => rfl
  kp := fun _ _ _ => trivial
  anti := fun _ _ => trivial
  fresh := fun _ => trivial
theorem parseval_maybe_w {g_v__0 : Gh} (M : Av) (m : Nat) (v_ : TValue) (r : List TVal) (hm : parseval_maybe m v_ = some r) (w : World) (hS : S0 M [eI tyValue v_.List_ g_v__0] w) : Calls Tryz.prog 27 ⟨[vG [vU v_.Token.Kind, vS v_.Token.Text, vI v_.Token.Num, vS v_.Token.Unit, vB v_.Token.Flag, vL g_v__0 v_.List_]]⟩ w (fun e w' => ∃ v, e = .returned v ∧ ∃ (g901 : Gh), v = vL g901 r ∧ SH M (fpl [eI tyValue v_.List_ g_v__0]) w [eO 28 tyVal r g901] w') := by
 rw [parseval_maybe] at hm
 have hS0 : SH M (fpl [eI tyValue v_.List_ g_v__0]) w [eI tyValue v_.List_ g_v__0] w := hS
 generalize hX : fpl [eI tyValue v_.List_ g_v__0] = X at hS0 ⊢
 clear hS hX
 have hS := hS0
 clear hS0
 refine calls_entryP Tryz.func27 rfl Tryz.ntmps27 rfl fun _ H => ?_
 apply w_seq
 apply wl_start
 have hd := hS.hand [] [0] rfl rfl
 refine m_stp [1] [] H rfl rfl rfl rfl (o_box [vU v_.Token.Kind, vS v_.Token.Text, vI v_.Token.Num, vS v_.Token.Unit, vB v_.Token.Flag, vL g_v__0 v_.List_] H hd rfl rfl) (fun _ => rfl) fun _ _ v H3 hq => ?_
 clear H hd
 obtain ⟨b1, rfl, hq⟩ := hq
 replace hS : SH M X w [eB b1 [vU v_.Token.Kind, vS v_.Token.Text, vI v_.Token.Num, vS v_.Token.Unit, vB v_.Token.Flag, vL g_v__0 v_.List_], eI tyValue v_.List_ g_v__0] _ := hS.join [] [0] rfl rfl hq
 clear hq
 refine wl_batch 1 2 [] [1] [(1, [], vP b1)] [] H3 (by decide) (by kernel_rfl) trivial fun _ _ H5 hb => ?_
 replace hS := hS.below hb
 clear H3 hb
 apply wl_end rfl
 apply w_seq
 apply wl_start
 refine wl_batch 0 2 [(vG (cT v_.Token))] [1, 10] (fS [1, 10] [vP b1, vG (cT v_.Token)]) [rN b1 0 (cT v_.Token)] H5 (by decide) (by kernel_rfl) ⟨((hS.bk 0 rfl).atD rfl), trivial⟩ fun _ _ H7 hb => ?_
 replace hS := hS.below hb
 clear H5 hb
 have hd := hS.hand [] [0, 1] rfl rfl
 refine m_stp [3, 1, 10] (fS [1, 10] [vP b1, vG (cT v_.Token)]) H7 rfl rfl rfl rfl (o_alloc [vU 0, vN, vI 0, vN, vF] (z := vG [vU 0, vN, vI 0, vN, vF]) hd (by kernel_rfl) rfl) (fun _ => rfl) fun _ _ v H10 hq => ?_
 clear H7 hd
 obtain ⟨b8, rfl, hq⟩ := hq
 replace hS : SH M X w [eB b8 [vU 0, vN, vI 0, vN, vF], eB b1 [vU v_.Token.Kind, vS v_.Token.Text, vI v_.Token.Num, vS v_.Token.Unit, vB v_.Token.Flag, vL g_v__0 v_.List_], eI tyValue v_.List_ g_v__0] _ := hS.join [] [0, 1] rfl rfl hq
 clear hq
 have hd := hS.hand [0] [1, 2] rfl rfl
 refine m_stp0 [1, 3] (fS [1, 3] [vP b1, vP b8]) H10 rfl rfl rfl (o_store (cT v_.Token) H10 hd rfl rfl (by kernel_rfl) rfl rfl rfl) rfl fun _ _ H12 hq => ?_
 clear H10 hd
 obtain ⟨_, hq⟩ := hq
 replace hS : SH M X w [eB b8 (cT v_.Token), eB b1 [vU v_.Token.Kind, vS v_.Token.Text, vI v_.Token.Num, vS v_.Token.Unit, vB v_.Token.Flag, vL g_v__0 v_.List_], eI tyValue v_.List_ g_v__0] _ := hS.join [0] [1, 2] rfl rfl hq
 clear hq
 apply wl_end rfl
 refine s_reg [] [1, 3, 4] (fS [1, 3, 4] [vP b1, vP b8, vO]) [] H12 (by kernel_rfl) trivial fun _ _ H14 hb => ?_
 replace hS := hS.below hb
 clear H12 hb
 obtain ⟨z15, hz, hm⟩ := bindE hm
 refine w_cut (fun a' w' => ∃ (g44 : Gh), Fr 82 (fS [3, 4] [vP b8, vL g44 z15]) a' ∧ SH M X w [eO 28 tyVal z15 g44, eB b8 (cT v_.Token), eB b1 [vU v_.Token.Kind, vS v_.Token.Text, vI v_.Token.Num, vS v_.Token.Unit, vB v_.Token.Flag, vL g_v__0 v_.List_], eI tyValue v_.List_ g_v__0] w') ?_ ?_
 ·replace hm := hz
  apply w_seq
  apply wl_start
  obtain ⟨y16, hy16, hm⟩ := bindE hm
  refine wl_batch 0 5 [(vG [vU v_.Token.Kind, vS v_.Token.Text, vI v_.Token.Num, vS v_.Token.Unit, vB v_.Token.Flag, vL g_v__0 v_.List_]), (vW [vG (cC y16.1), vB y16.2])] [3, 4, 14, 15] (fS [3, 4, 14, 15] [vP b8, vO, vG (cC y16.1), vB y16.2]) [rN b1 0 [vU v_.Token.Kind, vS v_.Token.Text, vI v_.Token.Num, vS v_.Token.Unit, vB v_.Token.Flag, vL g_v__0 v_.List_], rB 31 [vG [vU v_.Token.Kind, vS v_.Token.Text, vI v_.Token.Num, vS v_.Token.Unit, vB v_.Token.Flag, vL g_v__0 v_.List_]] (vW [vG (cC y16.1), vB y16.2])] H14 (by decide) (by kernel_rfl) ⟨((hS.bk 1 rfl).atD rfl), (parseval_color_ok (g_v__0 := g_v__0) m _ _ hy16 _ (s0im s0nil (hS.im 2 rfl))), trivial⟩ fun _ _ H18 hb => ?_
  replace hS := hS.below hb
  clear H14 hb
  have hd := hS.hand [] [0, 1, 2] rfl rfl
  refine m_stp [5, 3, 4, 14, 15] (fS [3, 4, 14, 15] [vP b8, vO, vG (cC y16.1), vB y16.2]) H18 rfl rfl rfl rfl (o_alloc [vU 0, vU 0, vU 0, vU 0] (z := vG [vU 0, vU 0, vU 0, vU 0]) hd (by kernel_rfl) rfl) (fun _ => rfl) fun _ _ v H21 hq => ?_
  clear H18 hd
  obtain ⟨b19, rfl, hq⟩ := hq
  replace hS : SH M X w [eB b19 [vU 0, vU 0, vU 0, vU 0], eB b8 (cT v_.Token), eB b1 [vU v_.Token.Kind, vS v_.Token.Text, vI v_.Token.Num, vS v_.Token.Unit, vB v_.Token.Flag, vL g_v__0 v_.List_], eI tyValue v_.List_ g_v__0] _ := hS.join [] [0, 1, 2] rfl rfl hq
  clear hq
  have hd := hS.hand [0] [1, 2, 3] rfl rfl
  refine m_stp0 [3, 4, 5, 15] (fS [3, 4, 5, 15] [vP b8, vO, vP b19, vB y16.2]) H21 rfl rfl rfl (o_store (cC y16.1) H21 hd rfl rfl (by kernel_rfl) rfl rfl rfl) rfl fun _ _ H23 hq => ?_
  clear H21 hd
  obtain ⟨_, hq⟩ := hq
  replace hS : SH M X w [eB b19 (cC y16.1), eB b8 (cT v_.Token), eB b1 [vU v_.Token.Kind, vS v_.Token.Text, vI v_.Token.Num, vS v_.Token.Unit, vB v_.Token.Flag, vL g_v__0 v_.List_], eI tyValue v_.List_ g_v__0] _ := hS.join [0] [1, 2, 3] rfl rfl hq
  clear hq
  refine wl_batch 7 8 [] [3, 4, 5, 6] (fS [3, 4, 5, 6] [vP b8, vO, vP b19, vB y16.2]) [] H23 (by decide) (by kernel_rfl) trivial fun _ _ H25 hb => ?_
  replace hS := hS.below hb
  clear H23 hb
  apply wl_end rfl
  refine s_reg [] [3, 4, 5, 16] (fS [3, 4, 5, 16] [vP b8, vO, vP b19, vB y16.2]) [] H25 (by kernel_rfl) trivial fun _ _ H27 hb => ?_
  replace hS := hS.below hb
  clear H25 hb
  refine w_if H27 rfl (fun hc => ?_) (fun hc => ?c43)
  case c43 =>
   replace hm := bF hc hm
   apply w_skip
   obtain rfl := someE hm
   replace hS : SH M X w [eO 28 tyVal ([] : List TVal) (.nil), eB b19 (cC y16.1), eB b8 (cT v_.Token), eB b1 [vU v_.Token.Kind, vS v_.Token.Text, vI v_.Token.Num, vS v_.Token.Unit, vB v_.Token.Flag, vL g_v__0 v_.List_], eI tyValue v_.List_ g_v__0] _ := hS.addNil 28 tyVal
   replace hS : SH M X w [eO 28 tyVal ([] : List TVal) (.nil), eB b8 (cT v_.Token), eB b1 [vU v_.Token.Kind, vS v_.Token.Text, vI v_.Token.Num, vS v_.Token.Unit, vB v_.Token.Flag, vL g_v__0 v_.List_], eI tyValue v_.List_ g_v__0] _ := hS.sel [0, 2, 3, 4] rfl
   exact ⟨Gh.nil, FrG.keep (ks := [3, 4]) H27 (by kernel_rfl), hS⟩
  replace hm := bT hc hm
  apply wl_start
  refine wl_batch 0 3 [(vG (cC y16.1))] [3, 17, 19] (fS [3, 17, 19] [vP b8, vO, vG [vU 7, vN, vI 0, vU y16.1.Red, vU y16.1.Green, vU y16.1.Blue, vU y16.1.Alpha]]) [rN b19 0 (cC y16.1)] H27 (by decide) (by kernel_rfl) ⟨((hS.bk 0 rfl).atD rfl), trivial⟩ fun _ _ H29 hb => ?_
  replace hS := hS.below hb
  clear H27 hb
  have hd := hS.hand [] [0, 1, 2, 3] rfl rfl
  refine m_stp [20, 3, 17] (fS [3, 17] [vP b8, vO]) H29 rfl rfl rfl rfl (o_lit (T := tyVal) (E := 28) (zv := vG [vU 0, vN, vI 0, vU 0, vU 0, vU 0, vU 0]) [vU 7, vN, vI 0, vU y16.1.Red, vU y16.1.Green, vU y16.1.Blue, vU y16.1.Alpha] ([(TVal.mk 7 [] 0 y16.1)] : List TVal) [gL []] _ H29 hd rfl (by kernel_rfl) (by kernel_rfl) (by kernel_rfl) (by kernel_rfl) (by kernel_rfl) (by kernel_rfl) (by kernel_rfl) rfl (InnL.cons trivial InnL.nil)) (fun _ => rfl) fun _ _ v H33 hq => ?_
  clear H29 hd
  obtain ⟨g30, rfl, hq⟩ := hq
  replace hS : SH M X w [eO 28 tyVal ([(TVal.mk 7 [] 0 y16.1)] : List TVal) g30, eB b19 (cC y16.1), eB b8 (cT v_.Token), eB b1 [vU v_.Token.Kind, vS v_.Token.Text, vI v_.Token.Num, vS v_.Token.Unit, vB v_.Token.Flag, vL g_v__0 v_.List_], eI tyValue v_.List_ g_v__0] _ := hS.join [] [0, 1, 2, 3] rfl rfl hq
  clear hq
  replace hS : SH M X w [eO 28 tyVal ([] : List TVal) (.nil), eO 28 tyVal ([(TVal.mk 7 [] 0 y16.1)] : List TVal) g30, eB b19 (cC y16.1), eB b8 (cT v_.Token), eB b1 [vU v_.Token.Kind, vS v_.Token.Text, vI v_.Token.Num, vS v_.Token.Unit, vB v_.Token.Flag, vL g_v__0 v_.List_], eI tyValue v_.List_ g_v__0] _ := hS.addNil 28 tyVal
  obtain ⟨ho35, hm⟩ := chkE hm
  obtain ⟨q36, hq36, hm⟩ := letE hm
  have hd := hS.hand [0, 1] [2, 3, 4, 5] rfl rfl
  refine m_stp [21, 3] [(3, [], vP b8)] H33 rfl rfl rfl rfl (o_app2 (T := tyVal) (zv := vG [vU 0, vN, vI 0, vU 0, vU 0, vU 0, vU 0]) (g1 := Gh.nil) (g2 := g30) (l1 := ([] : List TVal)) (l2 := ([(TVal.mk 7 [] 0 y16.1)] : List TVal)) q36 hq36.symm H33 hd rfl rfl rfl rfl rfl rfl rfl (by kernel_rfl) (by kernel_rfl) rfl rfl ho35) (fun _ => rfl) fun _ _ v H38 hq => ?_
  clear H33 hd
  obtain ⟨g39, rfl, hq⟩ := hq
  replace hS : SH M X w [eO 28 tyVal q36 g39, eO 28 tyVal ([(TVal.mk 7 [] 0 y16.1)] : List TVal) g30, eB b19 (cC y16.1), eB b8 (cT v_.Token), eB b1 [vU v_.Token.Kind, vS v_.Token.Text, vI v_.Token.Num, vS v_.Token.Unit, vB v_.Token.Flag, vL g_v__0 v_.List_], eI tyValue v_.List_ g_v__0] _ := hS.join [0, 1] [2, 3, 4, 5] rfl rfl hq
  clear hq
  refine wl_batch 5 6 [] [3, 4] (fS [3, 4] [vP b8, vL g39 q36]) [] H38 (by decide) (by kernel_rfl) trivial fun _ _ H41 hb => ?_
  replace hS := hS.below hb
  clear H38 hb
  apply wl_end rfl
  replace hS : SH M X w [eO 28 tyVal q36 g39, eB b8 (cT v_.Token), eB b1 [vU v_.Token.Kind, vS v_.Token.Text, vI v_.Token.Num, vS v_.Token.Unit, vB v_.Token.Flag, vL g_v__0 v_.List_], eI tyValue v_.List_ g_v__0] _ := hS.sel [0, 3, 4, 5] rfl
  obtain rfl := someE hm
  exact ⟨g39, FrG.keep (ks := [3, 4]) H41 (by kernel_rfl), hS⟩
 ·rintro _ _ ⟨g44, H, hS⟩
  replace hS : SH M X w [eO 28 tyVal z15 g44, eB b8 (cT v_.Token)] _ := hS.sel [0, 1] rfl
  obtain ⟨z46, hz, hm⟩ := bindE hm
  refine w_cut (fun a' w' => ∃ (g173 : Gh), Fr 82 [(4, [], vL g173 z46)] a' ∧ SH M X w [eO 28 tyVal z46 g173, eB b8 (cT v_.Token)] w') ?_ ?_
  ·replace hm := hz
   refine s_reg [(vU v_.Token.Kind)] [3, 4, 23] (fS [3, 4, 23] [vP b8, vL g44 z15, vU v_.Token.Kind]) [rA b8 0 (vU v_.Token.Kind)] H (by kernel_rfl) ⟨((hS.bk 1 rfl).at1 rfl), trivial⟩ fun _ _ H48 hb => ?_
   replace hS := hS.below hb
   clear H hb
   apply w_block
   refine s_reg [] [3, 4, 23, 24] (fS [3, 4, 23, 24] [vP b8, vL g44 z15, vU v_.Token.Kind, vB (v_.Token.Kind == 1)]) [] H48 (by kernel_rfl) trivial fun _ _ H50 hb => ?_
   replace hS := hS.below hb
   clear H48 hb
   refine w_if H50 rfl (fun hc => ?c172) (fun hc => ?_)
   case c172 =>
    replace hm := bT hc hm
    obtain ⟨y51, hy51, hm⟩ := bindE hm
    refine s_reg [(vS v_.Token.Text), (vS y51)] [4, 7] (fS [4, 7] [vL g44 z15, vS y51]) [rA b8 1 (vS v_.Token.Text), rB 37 [vS v_.Token.Text] (vS y51)] H50 (by kernel_rfl) ⟨((hS.bk 1 rfl).at1 rfl), ((parseval_small_ok m _ _ hy51).b), trivial⟩ fun _ _ H53 hb => ?_
    replace hS := hS.below hb
    clear H50 hb
    apply w_seq
    apply wl_start
    refine wl_batch 0 3 [] [7, 29, 31] (fS [7, 29, 31] [vS y51, vL g44 z15, vG [vU 1, vS y51, vI 0, vU 0, vU 0, vU 0, vU 0]]) [] H53 (by decide) (by kernel_rfl) trivial fun _ _ H55 hb => ?_
    replace hS := hS.below hb
    clear H53 hb
    have hd := hS.hand [] [0, 1] rfl rfl
    refine m_stp [32, 7, 29] (fS [7, 29] [vS y51, vL g44 z15]) H55 rfl rfl rfl rfl (o_lit (T := tyVal) (E := 28) (zv := vG [vU 0, vN, vI 0, vU 0, vU 0, vU 0, vU 0]) [vU 1, vS y51, vI 0, vU 0, vU 0, vU 0, vU 0] ([(TVal.mk 1 y51 0 (TColor.mk 0 0 0 0))] : List TVal) [gL []] _ H55 hd rfl (by kernel_rfl) (by kernel_rfl) (by kernel_rfl) (by kernel_rfl) (by kernel_rfl) (by kernel_rfl) (by kernel_rfl) rfl (InnL.cons trivial InnL.nil)) (fun _ => rfl) fun _ _ v H59 hq => ?_
    clear H55 hd
    obtain ⟨g56, rfl, hq⟩ := hq
    replace hS : SH M X w [eO 28 tyVal ([(TVal.mk 1 y51 0 (TColor.mk 0 0 0 0))] : List TVal) g56, eO 28 tyVal z15 g44, eB b8 (cT v_.Token)] _ := hS.join [] [0, 1] rfl rfl hq
    clear hq
    obtain ⟨ho60, hm⟩ := chkE hm
    obtain ⟨q61, hq61, hm⟩ := letE hm
    have hd := hS.hand [1, 0] [2] rfl rfl
    refine m_stp [33, 7] [(7, [], vS y51)] H59 rfl rfl rfl rfl (o_app2 (T := tyVal) (zv := vG [vU 0, vN, vI 0, vU 0, vU 0, vU 0, vU 0]) (g1 := g44) (g2 := g56) (l1 := z15) (l2 := ([(TVal.mk 1 y51 0 (TColor.mk 0 0 0 0))] : List TVal)) q61 hq61.symm H59 hd rfl rfl rfl rfl rfl rfl rfl (by kernel_rfl) (by kernel_rfl) rfl rfl ho60) (fun _ => rfl) fun _ _ v H63 hq => ?_
    clear H59 hd
    obtain ⟨g64, rfl, hq⟩ := hq
    replace hS : SH M X w [eO 28 tyVal q61 g64, eO 28 tyVal ([(TVal.mk 1 y51 0 (TColor.mk 0 0 0 0))] : List TVal) g56, eB b8 (cT v_.Token)] _ := hS.join [1, 0] [2] rfl rfl hq
    clear hq
    refine wl_batch 5 6 [] [4, 7] (fS [4, 7] [vL g64 q61, vS y51]) [] H63 (by decide) (by kernel_rfl) trivial fun _ _ H66 hb => ?_
    replace hS := hS.below hb
    clear H63 hb
    apply wl_end rfl
    replace hS : SH M X w [eO 28 tyVal q61 g64, eB b8 (cT v_.Token)] _ := hS.sel [0, 2] rfl
    obtain ⟨x67, hx67, hm⟩ := letE hm
    refine s_reg [] [4, 35] (fS [4, 35] [vL g64 q61, vB x67]) [] H66 (by subst hx67; kernel_rfl) trivial fun _ _ H69 hb => ?_
    replace hS := hS.below hb
    clear H66 hb
    refine w_if H69 rfl (fun hc => ?_) (fun hc => ?c83)
    case c83 =>
     replace hm := bF hc hm
     apply w_skip
     obtain rfl := someE hm
     exact ⟨g64, FrG.keep (ks := [4]) H69 (by kernel_rfl), hS⟩
    replace hm := bT hc hm
    apply wl_start
    refine wl_batch 0 2 [] [36, 37] (fS [36, 37] [vL g64 q61, vG [vU 8, vN, vI 0, vU 0, vU 0, vU 0, vU 0]]) [] H69 (by decide) (by kernel_rfl) trivial fun _ _ H71 hb => ?_
    replace hS := hS.below hb
    clear H69 hb
    have hd := hS.hand [] [0, 1] rfl rfl
    refine m_stp [38, 36] [(36, [], vL g64 q61)] H71 rfl rfl rfl rfl (o_lit (T := tyVal) (E := 28) (zv := vG [vU 0, vN, vI 0, vU 0, vU 0, vU 0, vU 0]) [vU 8, vN, vI 0, vU 0, vU 0, vU 0, vU 0] ([(TVal.mk 8 [] 0 (TColor.mk 0 0 0 0))] : List TVal) [gL []] _ H71 hd rfl (by kernel_rfl) (by kernel_rfl) (by kernel_rfl) (by kernel_rfl) (by kernel_rfl) (by kernel_rfl) (by kernel_rfl) rfl (InnL.cons trivial InnL.nil)) (fun _ => rfl) fun _ _ v H75 hq => ?_
    clear H71 hd
    obtain ⟨g72, rfl, hq⟩ := hq
    replace hS : SH M X w [eO 28 tyVal ([(TVal.mk 8 [] 0 (TColor.mk 0 0 0 0))] : List TVal) g72, eO 28 tyVal q61 g64, eB b8 (cT v_.Token)] _ := hS.join [] [0, 1] rfl rfl hq
    clear hq
    obtain ⟨ho76, hm⟩ := chkE hm
    obtain ⟨q77, hq77, hm⟩ := letE hm
    have hd := hS.hand [1, 0] [2] rfl rfl
    refine m_stp [39] [] H75 rfl rfl rfl rfl (o_app2 (T := tyVal) (zv := vG [vU 0, vN, vI 0, vU 0, vU 0, vU 0, vU 0]) (g1 := g64) (g2 := g72) (l1 := q61) (l2 := ([(TVal.mk 8 [] 0 (TColor.mk 0 0 0 0))] : List TVal)) q77 hq77.symm H75 hd rfl rfl rfl rfl rfl rfl rfl (by kernel_rfl) (by kernel_rfl) rfl rfl ho76) (fun _ => rfl) fun _ _ v H79 hq => ?_
    clear H75 hd
    obtain ⟨g80, rfl, hq⟩ := hq
    replace hS : SH M X w [eO 28 tyVal q77 g80, eO 28 tyVal ([(TVal.mk 8 [] 0 (TColor.mk 0 0 0 0))] : List TVal) g72, eB b8 (cT v_.Token)] _ := hS.join [1, 0] [2] rfl rfl hq
    clear hq
    refine wl_batch 4 5 [] [4] [(4, [], vL g80 q77)] [] H79 (by decide) (by kernel_rfl) trivial fun _ _ H82 hb => ?_
    replace hS := hS.below hb
    clear H79 hb
    apply wl_end rfl
    replace hS : SH M X w [eO 28 tyVal q77 g80, eB b8 (cT v_.Token)] _ := hS.sel [0, 2] rfl
    obtain rfl := someE hm
    exact ⟨g80, FrG.keep (ks := [4]) H82 (by kernel_rfl), hS⟩
   replace hm := bF hc hm
   refine s_reg [] [3, 4, 23, 40] (fS [3, 4, 23, 40] [vP b8, vL g44 z15, vU v_.Token.Kind, vB (v_.Token.Kind == 12)]) [] H50 (by kernel_rfl) trivial fun _ _ H85 hb => ?_
   replace hS := hS.below hb
   clear H50 hb
   refine w_if H85 rfl (fun hc => ?c171) (fun hc => ?_)
   case c171 =>
    replace hm := bT hc hm
    apply w_seq
    apply wl_start
    have hd := hS.hand [] [0, 1] rfl rfl
    refine m_stp [42, 3, 4] (fS [3, 4] [vP b8, vL g44 z15]) H85 rfl rfl rfl rfl (o_mkmap hd) (fun _ => rfl) fun _ _ v H88 hq => ?_
    clear H85 hd
    obtain ⟨b86, rfl, hq⟩ := hq
    replace hS : SH M X w [Ent.mpo b86 [], eO 28 tyVal z15 g44, eB b8 (cT v_.Token)] _ := hS.join [] [0, 1] rfl rfl hq
    clear hq
    have hd := hS.hand [0] [1, 2] rfl rfl
    refine m_stp0 [3, 4, 42] (fS [3, 4, 42] [vP b8, vL g44 z15, .map (some b86)]) H88 rfl rfl rfl (o_ins (kt := 9) (et := 5) H88 hd rfl rfl rfl (by kernel_rfl) (by kernel_rfl) rfl) rfl fun _ _ H90 hq => ?_
    clear H88 hd
    obtain ⟨_, hq⟩ := hq
    replace hS : SH M X w [Ent.mpo b86 [([112, 120], vU 2)], eO 28 tyVal z15 g44, eB b8 (cT v_.Token)] _ := hS.join [0] [1, 2] rfl rfl hq
    clear hq
    have hd := hS.hand [0] [1, 2] rfl rfl
    refine m_stp0 [3, 4, 42] (fS [3, 4, 42] [vP b8, vL g44 z15, .map (some b86)]) H90 rfl rfl rfl (o_ins (kt := 9) (et := 5) H90 hd rfl rfl rfl (by kernel_rfl) (by kernel_rfl) rfl) rfl fun _ _ H92 hq => ?_
    clear H90 hd
    obtain ⟨_, hq⟩ := hq
    replace hS : SH M X w [Ent.mpo b86 [([112, 120], vU 2), ([101, 109], vU 3)], eO 28 tyVal z15 g44, eB b8 (cT v_.Token)] _ := hS.join [0] [1, 2] rfl rfl hq
    clear hq
    have hd := hS.hand [0] [1, 2] rfl rfl
    refine m_stp0 [3, 4, 42] (fS [3, 4, 42] [vP b8, vL g44 z15, .map (some b86)]) H92 rfl rfl rfl (o_ins (kt := 9) (et := 5) H92 hd rfl rfl rfl (by kernel_rfl) (by kernel_rfl) rfl) rfl fun _ _ H94 hq => ?_
    clear H92 hd
    obtain ⟨_, hq⟩ := hq
    replace hS : SH M X w [Ent.mpo b86 [([112, 120], vU 2), ([101, 109], vU 3), ([114, 101, 109], vU 4)], eO 28 tyVal z15 g44, eB b8 (cT v_.Token)] _ := hS.join [0] [1, 2] rfl rfl hq
    clear hq
    obtain ⟨y95, hy95, hm⟩ := bindE hm
    refine wl_batch 4 8 [(vS v_.Token.Unit), (vS y95)] [3, 4, 43, 46] (fS [3, 4, 43, 46] [vP b8, vL g44 z15, .map (some b86), vS y95]) [rA b8 3 (vS v_.Token.Unit), rB 37 [vS v_.Token.Unit] (vS y95)] H94 (by decide) (by kernel_rfl) ⟨((hS.bk 2 rfl).at1 rfl), ((parseval_small_ok m _ _ hy95).b), trivial⟩ fun _ _ H97 hb => ?_
    replace hS := hS.below hb
    clear H94 hb
    obtain ⟨x98, hx98, hm⟩ := letE hm
    have hd := hS.hand [0] [1, 2] rfl rfl
    refine m_stp [47, 3, 4] (fS [3, 4] [vP b8, vL g44 z15]) H97 rfl rfl rfl rfl (o_look (kt := 9) (et := 5) (z := vU 0) (ix := x98) (fun q => vU (gi kL3 q)) (vU (gi kL3 x98)) H97 hd hx98 rfl rfl rfl (by kernel_rfl) (by kernel_rfl) (by kernel_rfl) rfl) (fun _ => rfl) fun _ _ v H100 hq => ?_
    clear H97 hd
    obtain ⟨rfl, hq⟩ := hq
    replace hS : SH M X w [Ent.mpo b86 [([112, 120], vU 2), ([101, 109], vU 3), ([114, 101, 109], vU 4)], eO 28 tyVal z15 g44, eB b8 (cT v_.Token)] _ := hS.join [0] [1, 2] rfl rfl hq
    clear hq
    refine wl_batch 9 10 [] [3, 4, 8] (fS [3, 4, 8] [vP b8, vL g44 z15, vU (gi kL3 x98)]) [] H100 (by decide) (by kernel_rfl) trivial fun _ _ H102 hb => ?_
    replace hS := hS.below hb
    clear H100 hb
    apply wl_end rfl
    replace hS : SH M X w [eO 28 tyVal z15 g44, eB b8 (cT v_.Token)] _ := hS.sel [1, 2] rfl
    obtain ⟨x103, hx103, hm⟩ := letE hm
    refine s_reg [] [3, 4, 8, 49] (fS [3, 4, 8, 49] [vP b8, vL g44 z15, vU (gi kL3 x98), vB x103]) [] H102 (by subst hx103; kernel_rfl) trivial fun _ _ H105 hb => ?_
    replace hS := hS.below hb
    clear H102 hb
    refine w_if H105 rfl (fun hc => ?_) (fun hc => ?c119)
    case c119 =>
     replace hm := bF hc hm
     apply w_skip
     obtain rfl := someE hm
     exact ⟨g44, FrG.keep (ks := [4]) H105 (by kernel_rfl), hS⟩
    replace hm := bT hc hm
    apply wl_start
    refine wl_batch 0 5 [(vI v_.Token.Num)] [50, 54] (fS [50, 54] [vL g44 z15, vG [vU (gi kL3 x98), vN, vI v_.Token.Num, vU 0, vU 0, vU 0, vU 0]]) [rA b8 2 (vI v_.Token.Num)] H105 (by decide) (by kernel_rfl) ⟨((hS.bk 1 rfl).at1 rfl), trivial⟩ fun _ _ H107 hb => ?_
    replace hS := hS.below hb
    clear H105 hb
    have hd := hS.hand [] [0, 1] rfl rfl
    refine m_stp [55, 50] [(50, [], vL g44 z15)] H107 rfl rfl rfl rfl (o_lit (T := tyVal) (E := 28) (zv := vG [vU 0, vN, vI 0, vU 0, vU 0, vU 0, vU 0]) [vU (gi kL3 x98), vN, vI v_.Token.Num, vU 0, vU 0, vU 0, vU 0] ([(TVal.mk (gi kL3 x98) [] v_.Token.Num (TColor.mk 0 0 0 0))] : List TVal) [gL []] _ H107 hd rfl (by kernel_rfl) (by kernel_rfl) (by kernel_rfl) (by kernel_rfl) (by kernel_rfl) (by kernel_rfl) (by kernel_rfl) rfl (InnL.cons trivial InnL.nil)) (fun _ => rfl) fun _ _ v H111 hq => ?_
    clear H107 hd
    obtain ⟨g108, rfl, hq⟩ := hq
    replace hS : SH M X w [eO 28 tyVal ([(TVal.mk (gi kL3 x98) [] v_.Token.Num (TColor.mk 0 0 0 0))] : List TVal) g108, eO 28 tyVal z15 g44, eB b8 (cT v_.Token)] _ := hS.join [] [0, 1] rfl rfl hq
    clear hq
    obtain ⟨ho112, hm⟩ := chkE hm
    obtain ⟨q113, hq113, hm⟩ := letE hm
    have hd := hS.hand [1, 0] [2] rfl rfl
    refine m_stp [56] [] H111 rfl rfl rfl rfl (o_app2 (T := tyVal) (zv := vG [vU 0, vN, vI 0, vU 0, vU 0, vU 0, vU 0]) (g1 := g44) (g2 := g108) (l1 := z15) (l2 := ([(TVal.mk (gi kL3 x98) [] v_.Token.Num (TColor.mk 0 0 0 0))] : List TVal)) q113 hq113.symm H111 hd rfl rfl rfl rfl rfl rfl rfl (by kernel_rfl) (by kernel_rfl) rfl rfl ho112) (fun _ => rfl) fun _ _ v H115 hq => ?_
    clear H111 hd
    obtain ⟨g116, rfl, hq⟩ := hq
    replace hS : SH M X w [eO 28 tyVal q113 g116, eO 28 tyVal ([(TVal.mk (gi kL3 x98) [] v_.Token.Num (TColor.mk 0 0 0 0))] : List TVal) g108, eB b8 (cT v_.Token)] _ := hS.join [1, 0] [2] rfl rfl hq
    clear hq
    refine wl_batch 7 8 [] [4] [(4, [], vL g116 q113)] [] H115 (by decide) (by kernel_rfl) trivial fun _ _ H118 hb => ?_
    replace hS := hS.below hb
    clear H115 hb
    apply wl_end rfl
    replace hS : SH M X w [eO 28 tyVal q113 g116, eB b8 (cT v_.Token)] _ := hS.sel [0, 2] rfl
    obtain rfl := someE hm
    exact ⟨g116, FrG.keep (ks := [4]) H118 (by kernel_rfl), hS⟩
   replace hm := bF hc hm
   refine s_reg [] [3, 4, 57] (fS [3, 4, 57] [vP b8, vL g44 z15, vB (v_.Token.Kind == 10)]) [] H85 (by kernel_rfl) trivial fun _ _ H121 hb => ?_
   replace hS := hS.below hb
   clear H85 hb
   refine w_if H121 rfl (fun hc => ?_) (fun hc => ?c170)
   case c170 =>
    replace hm := bF hc hm
    apply w_skip
    obtain rfl := someE hm
    exact ⟨g44, FrG.keep (ks := [4]) H121 (by kernel_rfl), hS⟩
   replace hm := bT hc hm
   obtain ⟨z122, hz, hm⟩ := bindE hm
   refine w_cut (fun a' w' => ∃ (g139 : Gh), Fr 82 (fS [3, 4] [vP b8, vL g139 z122]) a' ∧ SH M X w [eO 28 tyVal z122 g139, eB b8 (cT v_.Token)] w') ?_ ?_
   ·replace hm := hz
    refine s_reg [(vB v_.Token.Flag)] [3, 4, 60] (fS [3, 4, 60] [vP b8, vL g44 z15, vB v_.Token.Flag]) [rA b8 4 (vB v_.Token.Flag)] H121 (by kernel_rfl) ⟨((hS.bk 1 rfl).at1 rfl), trivial⟩ fun _ _ H124 hb => ?_
    replace hS := hS.below hb
    clear H121 hb
    refine w_if H124 rfl (fun hc => ?_) (fun hc => ?c138)
    case c138 =>
     replace hm := bF hc hm
     apply w_skip
     obtain rfl := someE hm
     exact ⟨g44, FrG.keep (ks := [3, 4]) H124 (by kernel_rfl), hS⟩
    replace hm := bT hc hm
    apply wl_start
    refine wl_batch 0 5 [(vI v_.Token.Num)] [3, 61, 65] (fS [3, 61, 65] [vP b8, vL g44 z15, vG [vU 6, vN, vI (w64 (Int.tdiv v_.Token.Num 1000)), vU 0, vU 0, vU 0, vU 0]]) [rA b8 2 (vI v_.Token.Num), fun _ => (1000 : Int) ≠ 0] H124 (by decide) (by kernel_rfl) ⟨((hS.bk 1 rfl).at1 rfl), (by show (1000 : Int) ≠ 0; decide), trivial⟩ fun _ _ H126 hb => ?_
    replace hS := hS.below hb
    clear H124 hb
    have hd := hS.hand [] [0, 1] rfl rfl
    refine m_stp [66, 3, 61] (fS [3, 61] [vP b8, vL g44 z15]) H126 rfl rfl rfl rfl (o_lit (T := tyVal) (E := 28) (zv := vG [vU 0, vN, vI 0, vU 0, vU 0, vU 0, vU 0]) [vU 6, vN, vI (w64 (Int.tdiv v_.Token.Num 1000)), vU 0, vU 0, vU 0, vU 0] ([(TVal.mk 6 [] (w64 (Int.tdiv v_.Token.Num 1000)) (TColor.mk 0 0 0 0))] : List TVal) [gL []] _ H126 hd rfl (by kernel_rfl) (by kernel_rfl) (by kernel_rfl) (by kernel_rfl) (by kernel_rfl) (by kernel_rfl) (by kernel_rfl) rfl (InnL.cons trivial InnL.nil)) (fun _ => rfl) fun _ _ v H130 hq => ?_
    clear H126 hd
    obtain ⟨g127, rfl, hq⟩ := hq
    replace hS : SH M X w [eO 28 tyVal ([(TVal.mk 6 [] (w64 (Int.tdiv v_.Token.Num 1000)) (TColor.mk 0 0 0 0))] : List TVal) g127, eO 28 tyVal z15 g44, eB b8 (cT v_.Token)] _ := hS.join [] [0, 1] rfl rfl hq
    clear hq
    obtain ⟨ho131, hm⟩ := chkE hm
    obtain ⟨q132, hq132, hm⟩ := letE hm
    have hd := hS.hand [1, 0] [2] rfl rfl
    refine m_stp [67, 3] [(3, [], vP b8)] H130 rfl rfl rfl rfl (o_app2 (T := tyVal) (zv := vG [vU 0, vN, vI 0, vU 0, vU 0, vU 0, vU 0]) (g1 := g44) (g2 := g127) (l1 := z15) (l2 := ([(TVal.mk 6 [] (w64 (Int.tdiv v_.Token.Num 1000)) (TColor.mk 0 0 0 0))] : List TVal)) q132 hq132.symm H130 hd rfl rfl rfl rfl rfl rfl rfl (by kernel_rfl) (by kernel_rfl) rfl rfl ho131) (fun _ => rfl) fun _ _ v H134 hq => ?_
    clear H130 hd
    obtain ⟨g135, rfl, hq⟩ := hq
    replace hS : SH M X w [eO 28 tyVal q132 g135, eO 28 tyVal ([(TVal.mk 6 [] (w64 (Int.tdiv v_.Token.Num 1000)) (TColor.mk 0 0 0 0))] : List TVal) g127, eB b8 (cT v_.Token)] _ := hS.join [1, 0] [2] rfl rfl hq
    clear hq
    refine wl_batch 7 8 [] [3, 4] (fS [3, 4] [vP b8, vL g135 q132]) [] H134 (by decide) (by kernel_rfl) trivial fun _ _ H137 hb => ?_
    replace hS := hS.below hb
    clear H134 hb
    apply wl_end rfl
    replace hS : SH M X w [eO 28 tyVal q132 g135, eB b8 (cT v_.Token)] _ := hS.sel [0, 2] rfl
    obtain rfl := someE hm
    exact ⟨g135, FrG.keep (ks := [3, 4]) H137 (by kernel_rfl), hS⟩
   ·rintro _ _ ⟨g139, H, hS⟩
    apply w_seq
    apply wl_start
    refine wl_batch 0 4 [(vI v_.Token.Num)] [3, 68, 71] (fS [3, 68, 71] [vP b8, vL g139 z122, vG [vU 5, vN, vI v_.Token.Num, vU 0, vU 0, vU 0, vU 0]]) [rA b8 2 (vI v_.Token.Num)] H (by decide) (by kernel_rfl) ⟨((hS.bk 1 rfl).at1 rfl), trivial⟩ fun _ _ H141 hb => ?_
    replace hS := hS.below hb
    clear H hb
    have hd := hS.hand [] [0, 1] rfl rfl
    refine m_stp [72, 3, 68] (fS [3, 68] [vP b8, vL g139 z122]) H141 rfl rfl rfl rfl (o_lit (T := tyVal) (E := 28) (zv := vG [vU 0, vN, vI 0, vU 0, vU 0, vU 0, vU 0]) [vU 5, vN, vI v_.Token.Num, vU 0, vU 0, vU 0, vU 0] ([(TVal.mk 5 [] v_.Token.Num (TColor.mk 0 0 0 0))] : List TVal) [gL []] _ H141 hd rfl (by kernel_rfl) (by kernel_rfl) (by kernel_rfl) (by kernel_rfl) (by kernel_rfl) (by kernel_rfl) (by kernel_rfl) rfl (InnL.cons trivial InnL.nil)) (fun _ => rfl) fun _ _ v H145 hq => ?_
    clear H141 hd
    obtain ⟨g142, rfl, hq⟩ := hq
    replace hS : SH M X w [eO 28 tyVal ([(TVal.mk 5 [] v_.Token.Num (TColor.mk 0 0 0 0))] : List TVal) g142, eO 28 tyVal z122 g139, eB b8 (cT v_.Token)] _ := hS.join [] [0, 1] rfl rfl hq
    clear hq
    obtain ⟨ho146, hm⟩ := chkE hm
    obtain ⟨q147, hq147, hm⟩ := letE hm
    have hd := hS.hand [1, 0] [2] rfl rfl
    refine m_stp [73, 3] [(3, [], vP b8)] H145 rfl rfl rfl rfl (o_app2 (T := tyVal) (zv := vG [vU 0, vN, vI 0, vU 0, vU 0, vU 0, vU 0]) (g1 := g139) (g2 := g142) (l1 := z122) (l2 := ([(TVal.mk 5 [] v_.Token.Num (TColor.mk 0 0 0 0))] : List TVal)) q147 hq147.symm H145 hd rfl rfl rfl rfl rfl rfl rfl (by kernel_rfl) (by kernel_rfl) rfl rfl ho146) (fun _ => rfl) fun _ _ v H149 hq => ?_
    clear H145 hd
    obtain ⟨g150, rfl, hq⟩ := hq
    replace hS : SH M X w [eO 28 tyVal q147 g150, eO 28 tyVal ([(TVal.mk 5 [] v_.Token.Num (TColor.mk 0 0 0 0))] : List TVal) g142, eB b8 (cT v_.Token)] _ := hS.join [1, 0] [2] rfl rfl hq
    clear hq
    refine wl_batch 6 7 [] [3, 4] (fS [3, 4] [vP b8, vL g150 q147]) [] H149 (by decide) (by kernel_rfl) trivial fun _ _ H152 hb => ?_
    replace hS := hS.below hb
    clear H149 hb
    apply wl_end rfl
    replace hS : SH M X w [eO 28 tyVal q147 g150, eB b8 (cT v_.Token)] _ := hS.sel [0, 2] rfl
    refine s_reg [(vI v_.Token.Num)] [4, 76] (fS [4, 76] [vL g150 q147, vB (v_.Token.Num == 0)]) [rA b8 2 (vI v_.Token.Num)] H152 (by kernel_rfl) ⟨((hS.bk 1 rfl).at1 rfl), trivial⟩ fun _ _ H154 hb => ?_
    replace hS := hS.below hb
    clear H152 hb
    refine w_if H154 rfl (fun hc => ?_) (fun hc => ?c168)
    case c168 =>
     replace hm := bF hc hm
     apply w_skip
     obtain rfl := someE hm
     exact ⟨g150, FrG.keep (ks := [4]) H154 (by kernel_rfl), hS⟩
    replace hm := bT hc hm
    apply wl_start
    refine wl_batch 0 2 [] [77, 78] (fS [77, 78] [vL g150 q147, vG [vU 2, vN, vI 0, vU 0, vU 0, vU 0, vU 0]]) [] H154 (by decide) (by kernel_rfl) trivial fun _ _ H156 hb => ?_
    replace hS := hS.below hb
    clear H154 hb
    have hd := hS.hand [] [0, 1] rfl rfl
    refine m_stp [79, 77] [(77, [], vL g150 q147)] H156 rfl rfl rfl rfl (o_lit (T := tyVal) (E := 28) (zv := vG [vU 0, vN, vI 0, vU 0, vU 0, vU 0, vU 0]) [vU 2, vN, vI 0, vU 0, vU 0, vU 0, vU 0] ([(TVal.mk 2 [] 0 (TColor.mk 0 0 0 0))] : List TVal) [gL []] _ H156 hd rfl (by kernel_rfl) (by kernel_rfl) (by kernel_rfl) (by kernel_rfl) (by kernel_rfl) (by kernel_rfl) (by kernel_rfl) rfl (InnL.cons trivial InnL.nil)) (fun _ => rfl) fun _ _ v H160 hq => ?_
    clear H156 hd
    obtain ⟨g157, rfl, hq⟩ := hq
    replace hS : SH M X w [eO 28 tyVal ([(TVal.mk 2 [] 0 (TColor.mk 0 0 0 0))] : List TVal) g157, eO 28 tyVal q147 g150, eB b8 (cT v_.Token)] _ := hS.join [] [0, 1] rfl rfl hq
    clear hq
    obtain ⟨ho161, hm⟩ := chkE hm
    obtain ⟨q162, hq162, hm⟩ := letE hm
    have hd := hS.hand [1, 0] [2] rfl rfl
    refine m_stp [80] [] H160 rfl rfl rfl rfl (o_app2 (T := tyVal) (zv := vG [vU 0, vN, vI 0, vU 0, vU 0, vU 0, vU 0]) (g1 := g150) (g2 := g157) (l1 := q147) (l2 := ([(TVal.mk 2 [] 0 (TColor.mk 0 0 0 0))] : List TVal)) q162 hq162.symm H160 hd rfl rfl rfl rfl rfl rfl rfl (by kernel_rfl) (by kernel_rfl) rfl rfl ho161) (fun _ => rfl) fun _ _ v H164 hq => ?_
    clear H160 hd
    obtain ⟨g165, rfl, hq⟩ := hq
    replace hS : SH M X w [eO 28 tyVal q162 g165, eO 28 tyVal ([(TVal.mk 2 [] 0 (TColor.mk 0 0 0 0))] : List TVal) g157, eB b8 (cT v_.Token)] _ := hS.join [1, 0] [2] rfl rfl hq
    clear hq
    refine wl_batch 4 5 [] [4] [(4, [], vL g165 q162)] [] H164 (by decide) (by kernel_rfl) trivial fun _ _ H167 hb => ?_
    replace hS := hS.below hb
    clear H164 hb
    apply wl_end rfl
    replace hS : SH M X w [eO 28 tyVal q162 g165, eB b8 (cT v_.Token)] _ := hS.sel [0, 2] rfl
    obtain rfl := someE hm
    exact ⟨g165, FrG.keep (ks := [4]) H167 (by kernel_rfl), hS⟩
  ·rintro _ _ ⟨g173, H, hS⟩
   replace hS : SH M X w [eO 28 tyVal z46 g173] _ := hS.sel [0] rfl
   refine s_reg [] [2] [(2, [], vL g173 z46)] [] H (by kernel_rfl) trivial fun _ _ H175 hb => ?_
   replace hS := hS.below hb
   clear H hb
   apply w_ret
   obtain rfl := someE hm
   exact retR1 H175 rfl rfl ⟨_, rfl, g173, rfl, (hS.sel [0] rfl)⟩
theorem parseval_maybe_ok {g_v__0 : Gh} (m : Nat) (v_ : TValue) (r : List TVal) (hm : parseval_maybe m v_ = some r) (M : Av) (w : World) (hS : S0 M [eI tyValue v_.List_ g_v__0] w) : DoesX Tryz.prog 27 ⟨[vG [vU v_.Token.Kind, vS v_.Token.Text, vI v_.Token.Num, vS v_.Token.Unit, vB v_.Token.Flag, vL g_v__0 v_.List_]]⟩ w (fun v w' => ∃ (g901 : Gh), v = vL g901 r ∧ SH M (fpl [eI tyValue v_.List_ g_v__0]) w [eO 28 tyVal r g901] w') := ⟨Tryz.call27 _, parseval_maybe_w M m   v_ r hm w hS⟩

theorem props_word_w  (M : Av) (s : Str) (r : TVal) (hm : props_word s = r) (w : World) (hS : S0 M [] w) : Calls Tryz.prog 58 ⟨[vS s]⟩ w (fun e w' => ∃ v, e = .returned v ∧ v = vG (cV r) ∧ SH M (fpl []) w [] w') := by
 rw [props_word] at hm
 have hS0 : SH M (fpl []) w [] w := hS
 generalize hX : fpl [] = X at hS0 ⊢
 clear hS hX
 have hS := hS0
 clear hS0
 refine calls_entryP Tryz.func58 rfl Tryz.ntmps58 rfl fun _ H => ?_
 apply w_seq
 apply wl_start
 have hd := hS.hand [] [] rfl rfl
 refine m_stp [2, 0] [(0, [], vS s)] H rfl rfl rfl rfl (o_alloc [vU 0, vN, vI 0, vU 0, vU 0, vU 0, vU 0] (z := vG [vU 0, vN, vI 0, vU 0, vU 0, vU 0, vU 0]) hd (by kernel_rfl) rfl) (fun _ => rfl) fun _ _ v H3 hq => ?_
 clear H hd
 obtain ⟨b1, rfl, hq⟩ := hq
 replace hS : SH M X w [eB b1 [vU 0, vN, vI 0, vU 0, vU 0, vU 0, vU 0]] _ := hS.join [] [] rfl rfl hq
 clear hq
 apply wl_end rfl
 apply w_seq
 apply wl_start
 refine wl_batch 0 2 [] [2, 4] (fS [2, 4] [vP b1, vG [vU 1, vS s, vI 0, vU 0, vU 0, vU 0, vU 0]]) [] H3 (by decide) (by kernel_rfl) trivial fun _ _ H5 hb => ?_
 replace hS := hS.below hb
 clear H3 hb
 have hd := hS.hand [0] [] rfl rfl
 refine m_stp0 [2] [(2, [], vP b1)] H5 rfl rfl rfl (o_store [vU 1, vS s, vI 0, vU 0, vU 0, vU 0, vU 0] H5 hd rfl rfl (by kernel_rfl) rfl rfl rfl) rfl fun _ _ H7 hq => ?_
 clear H5 hd
 obtain ⟨_, hq⟩ := hq
 replace hS : SH M X w [eB b1 [vU 1, vS s, vI 0, vU 0, vU 0, vU 0, vU 0]] _ := hS.join [0] [] rfl rfl hq
 clear hq
 apply wl_end rfl
 apply w_ret
 subst hm
 exact retR1 H7 rfl (oneRes_agg rfl (hS.bk 0 rfl) Tryz.underlying28 rfl (by kernel_rfl)) ⟨_, rfl, rfl, (hS.sel [] rfl)⟩
theorem props_word_ok  (s : Str) : Ret Tryz.prog 58 ⟨[vS s]⟩ (vG (cV (props_word s))) := retP_of (Tryz.call58 _) (fun w h => props_word_w F0   s _ rfl w h)

def tyProp : Ty TProp where
  z := 12
  enc := fun x g => [vS x.Name, vB x.Inherited, vU x.Initial.Kind, vS x.Initial.Word, vI x.Initial.Num, vU x.Initial.Color.Red, vU x.Initial.Color.Green, vU x.Initial.Color.Blue, vU x.Initial.Color.Alpha, .slice (g 0).a x.Words.length (g 0).c, .slice (g 1).a x.Kinds.length (g 1).c, vB x.Least]
  inn := fun M w x g => SlG tS M w x.Words (g 0) ∧ SlG (tI .u8) M w x.Kinds (g 1) ∧ True
  len := fun _ _ => rfl
  one := fun _ _ => rfl
  kp := fun h k hX => ⟨h.1.kp k hX, h.2.1.kp k hX, trivial⟩
  anti := fun h hM => ⟨h.1.anti hM, h.2.1.anti hM, trivial⟩
  fresh := fun h => ⟨h.1.fresh, h.2.1.fresh, trivial⟩
theorem tyProp_i0 {M : Av} {w : World} {x : TProp} {g : Nat → Gh} (h : tyProp.inn M w x g) : SlG tS M w x.Words (g 0) := (show SlG tS M w x.Words (g 0) ∧ SlG (tI .u8) M w x.Kinds (g 1) ∧ True from h).1
theorem tyProp_i1 {M : Av} {w : World} {x : TProp} {g : Nat → Gh} (h : tyProp.inn M w x g) : SlG (tI .u8) M w x.Kinds (g 1) := (show SlG tS M w x.Words (g 0) ∧ SlG (tI .u8) M w x.Kinds (g 1) ∧ True from h).2.1
theorem tyProp_mk {M : Av} {w : World} {x : TProp} {g : Nat → Gh} (h0 : SlG tS M w x.Words (g 0)) (h1 : SlG (tI .u8) M w x.Kinds (g 1)) : tyProp.inn M w x g := show SlG tS M w x.Words (g 0) ∧ SlG (tI .u8) M w x.Kinds (g 1) ∧ True from ⟨h0, h1, trivial⟩
theorem props_color_w  (M : Av) (name_ : Str) (inherited : Bool) (first : TVal) (r : TProp) (hm : props_color name_ inherited first = r) (w : World) (hS : S0 M [] w) : Calls Tryz.prog 59 ⟨[vS name_, vB inherited, vG (cV first)]⟩ w (fun e w' => ∃ v, e = .returned v ∧ ∃ (g901 : Gh) (g903 : Gh), v = vG [vS r.Name, vB r.Inherited, vU r.Initial.Kind, vS r.Initial.Word, vI r.Initial.Num, vU r.Initial.Color.Red, vU r.Initial.Color.Green, vU r.Initial.Color.Blue, vU r.Initial.Color.Alpha, vL g901 r.Words, vL g903 r.Kinds, vB r.Least] ∧ SH M (fpl []) w [eO 9 tS r.Words g901, eO 5 (tI .u8) r.Kinds g903] w') := by
 rw [props_color] at hm
 have hS0 : SH M (fpl []) w [] w := hS
 generalize hX : fpl [] = X at hS0 ⊢
 clear hS hX
 have hS := hS0
 clear hS0
 refine calls_entryP Tryz.func59 rfl Tryz.ntmps59 rfl fun _ H => ?_
 apply w_seq
 apply wl_start
 have hd := hS.hand [] [] rfl rfl
 refine m_stp [5, 0, 1] (fS [0, 1] [vS name_, vB inherited]) H rfl rfl rfl rfl (o_box (cV first) H hd rfl rfl) (fun _ => rfl) fun _ _ v H3 hq => ?_
 clear H hd
 obtain ⟨b1, rfl, hq⟩ := hq
 replace hS : SH M X w [eB b1 (cV first)] _ := hS.join [] [] rfl rfl hq
 clear hq
 have hd := hS.hand [] [0] rfl rfl
 refine m_stp [6, 0, 1, 5] (fS [0, 1, 5] [vS name_, vB inherited, vP b1]) H3 rfl rfl rfl rfl (o_alloc [vN, vF, vU 0, vN, vI 0, vU 0, vU 0, vU 0, vU 0, vO, vO, vF] (z := vG [vN, vF, vU 0, vN, vI 0, vU 0, vU 0, vU 0, vU 0, vO, vO, vF]) hd (by kernel_rfl) rfl) (fun _ => rfl) fun _ _ v H6 hq => ?_
 clear H3 hd
 obtain ⟨b4, rfl, hq⟩ := hq
 replace hS : SH M X w [eB b4 [vN, vF, vU 0, vN, vI 0, vU 0, vU 0, vU 0, vU 0, vO, vO, vF], eB b1 (cV first)] _ := hS.join [] [0] rfl rfl hq
 clear hq
 apply wl_end rfl
 apply w_seq
 apply wl_start
 refine wl_batch 0 3 [(vG (cV first))] [6, 7, 8, 9] (fS [6, 7, 8, 9] [vP b4, vS name_, vB inherited, vG (cV first)]) [rN b1 0 (cV first)] H6 (by decide) (by kernel_rfl) ⟨((hS.bk 1 rfl).atD rfl), trivial⟩ fun _ _ H8 hb => ?_
 replace hS := hS.below hb
 clear H6 hb
 have hd := hS.hand [] [0, 1] rfl rfl
 refine m_stp [10, 6, 7, 8, 9] (fS [6, 7, 8, 9] [vP b4, vS name_, vB inherited, vG (cV first)]) H8 rfl rfl rfl rfl (o_lit (T := (tI .u8)) (E := 5) (zv := vU 0) [vU 7, vU 8] ([7, 8] : List Int) [gL [], gL []] _ H8 hd rfl (by kernel_rfl) (by kernel_rfl) (by kernel_rfl) (by kernel_rfl) (by kernel_rfl) (by kernel_rfl) (by kernel_rfl) rfl (InnL.cons trivial (InnL.cons trivial InnL.nil))) (fun _ => rfl) fun _ _ v H12 hq => ?_
 clear H8 hd
 obtain ⟨g9, rfl, hq⟩ := hq
 replace hS : SH M X w [eO 5 (tI .u8) ([7, 8] : List Int) g9, eB b4 [vN, vF, vU 0, vN, vI 0, vU 0, vU 0, vU 0, vU 0, vO, vO, vF], eB b1 (cV first)] _ := hS.join [] [0, 1] rfl rfl hq
 clear hq
 refine wl_batch 4 5 [] [6, 11] (fS [6, 11] [vP b4, vG [vS name_, vB inherited, vU first.Kind, vS first.Word, vI first.Num, vU first.Color.Red, vU first.Color.Green, vU first.Color.Blue, vU first.Color.Alpha, vO, vK g9 2, vF]]) [] H12 (by decide) (by kernel_rfl) trivial fun _ _ H14 hb => ?_
 replace hS := hS.below hb
 clear H12 hb
 have hd := hS.hand [1] [0, 2] rfl rfl
 refine m_stp0 [6] [(6, [], vP b4)] H14 rfl rfl rfl (o_store [vS name_, vB inherited, vU first.Kind, vS first.Word, vI first.Num, vU first.Color.Red, vU first.Color.Green, vU first.Color.Blue, vU first.Color.Alpha, vO, vK g9 2, vF] H14 hd rfl rfl (by kernel_rfl) rfl rfl rfl) rfl fun _ _ H16 hq => ?_
 clear H14 hd
 obtain ⟨_, hq⟩ := hq
 replace hS : SH M X w [eB b4 [vS name_, vB inherited, vU first.Kind, vS first.Word, vI first.Num, vU first.Color.Red, vU first.Color.Green, vU first.Color.Blue, vU first.Color.Alpha, vO, vK g9 2, vF], eO 5 (tI .u8) ([7, 8] : List Int) g9, eB b1 (cV first)] _ := hS.join [1] [0, 2] rfl rfl hq
 clear hq
 apply wl_end rfl
 replace hS : SH M X w [eB b4 [vS name_, vB inherited, vU first.Kind, vS first.Word, vI first.Num, vU first.Color.Red, vU first.Color.Green, vU first.Color.Blue, vU first.Color.Alpha, vO, vK g9 2, vF], eO 5 (tI .u8) ([7, 8] : List Int) g9] _ := hS.sel [0, 1] rfl
 apply w_ret
 subst hm
 replace hS : SH M X w [eO 9 tS ([] : List Str) (.nil), eB b4 [vS name_, vB inherited, vU first.Kind, vS first.Word, vI first.Num, vU first.Color.Red, vU first.Color.Green, vU first.Color.Blue, vU first.Color.Alpha, vO, vK g9 2, vF], eO 5 (tI .u8) ([7, 8] : List Int) g9] _ := hS.addNil 9 tS
 exact retR1 H16 rfl (oneRes_agg rfl (hS.bk 1 rfl) Tryz.underlying82 rfl (by kernel_rfl)) ⟨_, rfl, Gh.nil, g9, rfl, (hS.sel [0, 2] rfl)⟩
theorem props_color_ok  (name_ : Str) (inherited : Bool) (first : TVal) (r : TProp) (hm : props_color name_ inherited first = r) (M : Av) (w : World) (hS : S0 M [] w) : DoesX Tryz.prog 59 ⟨[vS name_, vB inherited, vG (cV first)]⟩ w (fun v w' => ∃ (g901 : Gh) (g903 : Gh), v = vG [vS r.Name, vB r.Inherited, vU r.Initial.Kind, vS r.Initial.Word, vI r.Initial.Num, vU r.Initial.Color.Red, vU r.Initial.Color.Green, vU r.Initial.Color.Blue, vU r.Initial.Color.Alpha, vL g901 r.Words, vL g903 r.Kinds, vB r.Least] ∧ SH M (fpl []) w [eO 9 tS r.Words g901, eO 5 (tI .u8) r.Kinds g903] w') := ⟨Tryz.call59 _, props_color_w M   name_ inherited first r hm w hS⟩

abbrev gE1 : Ent := eI (tI .u8) gl_strings_asciiSpace (Gh.mk (some ⟨1, 0, none⟩) 256 fun _ _ => .nil)
theorem strings_Fields_w  (M : Av) (m : Nat) (s : Str) (r : List Str) (hm : strings_Fields m s = some r) (w : World) (hS : S0 M [gE1] w) : Calls Tryz.prog 81 ⟨[vS s]⟩ w (fun e w' => ∃ v, e = .returned v ∧ ∃ (g901 : Gh), v = .slice g901.a r.length g901.c ∧ SH M (fpl [gE1]) w [eO 9 tS r g901] w') := by
 rw [strings_Fields] at hm
 have hS0 : SH M (fpl [gE1]) w [gE1] w := hS
 generalize hX : fpl [gE1] = X at hS0 ⊢
 clear hS hX
 have hS := hS0
 clear hS0
 refine calls_entryP Tryz.func81 rfl Tryz.ntmps81 rfl fun _ H => ?_
 refine s_reg [] [0] [(0, [], vS s)] [] H (by kernel_rfl) trivial fun _ _ H2 hb => ?_
 replace hS := hS.below hb
 clear H hb
 refine s_reg [] [0, 3] (fS [0, 3] [vS s, vI 0]) [] H2 (by kernel_rfl) trivial fun _ _ H4 hb => ?_
 replace hS := hS.below hb
 clear H2 hb
 refine s_reg [] [0, 3, 4] (fS [0, 3, 4] [vS s, vI 0, vI 1]) [] H4 (by kernel_rfl) trivial fun _ _ H6 hb => ?_
 replace hS := hS.below hb
 clear H4 hb
 refine s_reg [] [0, 3, 4, 5] (fS [0, 3, 4, 5] [vS s, vI 0, vI 1, vU 0]) [] H6 (by kernel_rfl) trivial fun _ _ H8 hb => ?_
 replace hS := hS.below hb
 clear H6 hb
 obtain ⟨z9, hz, hm⟩ := bindE hm
 refine w_cut (fun a' w' => Fr 106 (fS [0, 3, 5] [vS s, vI z9.1, vU z9.2]) a' ∧ SH M X w [gE1] w') ?_ ?_
 ·replace hm := hz
  refine s_reg [] [0, 3, 4, 5, 6] (fS [0, 3, 4, 5, 6] [vS s, vI 0, vI 1, vU 0, vI 0]) [] H8 (by kernel_rfl) trivial fun _ _ H11 hb => ?_
  replace hS := hS.below hb
  clear H8 hb
  apply w_block
  refine w_loop (fun kk a' w' => ∃ (v12 : Int) (v13 : Int) (v14 : Int) (v15 : Int), strings_Fields_L1 m s kk v12 v13 v14 v15 = some _ ∧ Fr 106 (fS [0, 3, 4, 5, 6] [vS s, vI v12, vI v13, vU v14, vI v15]) a' ∧ SH M X w [gE1] w') ⟨_, 0, 1, 0, 0, hm, FrG.keep (ks := [0, 3, 4, 5, 6]) H11 (by kernel_rfl), hS⟩ ?_
  clear hm H11 hS
  rintro kk _ _ ⟨v12, v13, v14, v15, hm, H, hS⟩
  cases kk with
  | zero => exact noneE hm
  | succ kk =>
   rw [strings_Fields_L1] at hm
   apply w_seq
   refine s_reg [] [0, 3, 4, 5, 6, 16] (fS [0, 3, 4, 5, 6, 16] [vS s, vI v12, vI v13, vU v14, vI v15, vB (decide (v15 < (ln s)))]) [] H (by kernel_rfl) trivial fun _ _ H17 hb => ?_
   replace hS := hS.below hb
   clear H hb
   refine w_if H17 rfl (fun hc => ?_) (fun hc => ?c34)
   case c34 =>
    replace hm := bF hc hm
    apply w_exit rfl
    obtain rfl := someE hm
    exact ⟨FrG.keep (ks := [0, 3, 5]) H17 (by kernel_rfl), hS⟩
   replace hm := bT hc hm
   apply w_skip
   apply w_seq
   apply w_block
   obtain ⟨ho18, hm⟩ := chkE hm
   refine s_reg [] [0, 3, 4, 5, 6, 7] (fS [0, 3, 4, 5, 6, 7] [vS s, vI v12, vI v13, vU v14, vI v15, vU (bat s v15)]) [fun _ => 0 ≤ v15 ∧ v15 < ln s] H17 (by kernel_rfl) ⟨ho18, trivial⟩ fun _ _ H20 hb => ?_
   replace hS := hS.below hb
   clear H17 hb
   refine s_reg [] [0, 3, 4, 5, 6, 7] (fS [0, 3, 4, 5, 6, 7] [vS s, vI v12, vI v13, vU (ibit .or .u8 v14 (bat s v15)), vI v15, vU (bat s v15)]) [] H20 (by kernel_rfl) trivial fun _ _ H22 hb => ?_
   replace hS := hS.below hb
   clear H20 hb
   obtain ⟨ho23, hm⟩ := chkE hm
   obtain ⟨x24, hx24, hm⟩ := letE hm
   refine s_reg [(vU (gi gl_strings_asciiSpace (bat s v15)))] [0, 3, 4, 5, 6, 8] (fS [0, 3, 4, 5, 6, 8] [vS s, vI v12, vI v13, vU (ibit .or .u8 v14 (bat s v15)), vI v15, vI x24]) [fun _ => 0 ≤ (bat s v15) ∧ (bat s v15) < (256 : Int), fun wz => V.at1 ⟨1, 0 + ((bat s v15)).toNat * 1, none⟩ (vU (gi gl_strings_asciiSpace (bat s v15))) wz] H22 (by subst hx24; kernel_rfl) ⟨ho23, ((hS.im 0 rfl).at1 ho23 0 rfl), trivial⟩ fun _ _ H26 hb => ?_
   replace hS := hS.below hb
   clear H22 hb
   obtain ⟨x27, hx27, hm⟩ := letE hm
   refine s_reg [] [0, 3, 5, 6, 8] (fS [0, 3, 5, 6, 8] [vS s, vI (w64 (v12 + x27)), vU (ibit .or .u8 v14 (bat s v15)), vI v15, vI x24]) [] H26 (by subst hx27; kernel_rfl) trivial fun _ _ H29 hb => ?_
   replace hS := hS.below hb
   clear H26 hb
   refine w_reg [] [0, 3, 4, 5, 6] (fS [0, 3, 4, 5, 6] [vS s, vI (w64 (v12 + x27)), vI x24, vU (ibit .or .u8 v14 (bat s v15)), vI v15]) [] H29 (by kernel_rfl) trivial fun _ _ H31 hb => ?_
   replace hS := hS.below hb
   clear H29 hb
   refine w_reg [] [0, 3, 4, 5, 6] (fS [0, 3, 4, 5, 6] [vS s, vI (w64 (v12 + x27)), vI x24, vU (ibit .or .u8 v14 (bat s v15)), vI (w64 (v15 + 1))]) [] H31 (by kernel_rfl) trivial fun _ _ H33 hb => ?_
   replace hS := hS.below hb
   clear H31 hb
   exact ⟨_, Nat.lt_succ_self _, w64 (v12 + x27), x24, ibit .or .u8 v14 (bat s v15), w64 (v15 + 1), hm, FrG.keep (ks := [0, 3, 4, 5, 6]) H33 (by kernel_rfl), hS⟩
 ·rintro _ _ ⟨H, hS⟩
  apply w_seq
  refine s_reg [] [0, 3, 37] (fS [0, 3, 37] [vS s, vI z9.1, vB (decide (128 ≤ z9.2))]) [] H (by kernel_rfl) trivial fun _ _ H37 hb => ?_
  replace hS := hS.below hb
  clear H hb
  refine w_if H37 rfl (fun hc => ?c130) (fun hc => ?_)
  case c130 =>
   replace hm := bT hc hm
   exact noneE hm
  replace hm := bF hc hm
  apply w_skip
  apply w_seq
  apply wl_start
  refine wl_batch 0 1 [] [0, 40] (fS [0, 40] [vS s, vI z9.1]) [] H37 (by decide) (by kernel_rfl) trivial fun _ _ H39 hb => ?_
  replace hS := hS.below hb
  clear H37 hb
  obtain ⟨ho40, hm⟩ := chkE hm
  obtain ⟨q41, hq41, hm⟩ := letE hm
  have hd := hS.hand [] [0] rfl rfl
  refine m_stp [41, 0] [(0, [], vS s)] H39 rfl rfl rfl rfl (o_make (T := tS) (E := 9) (zv := vN) ([] : Str) H39 hd rfl rfl (by kernel_rfl) (by kernel_rfl) rfl rfl (fun _ _ => trivial) ho40) (fun _ => rfl) fun _ _ v H43 hq => ?_
  clear H39 hd
  obtain ⟨g44, rfl, hq⟩ := hq
  rw [← hq41] at hq
  rw [← hq41] at H43
  replace hS : SH M X w [eO 9 tS q41 g44, gE1] _ := hS.join [] [0] rfl rfl hq
  clear hq
  refine wl_batch 2 3 [] [0, 9] (fS [0, 9] [vS s, .slice g44.a q41.length g44.c]) [] H43 (by decide) (by kernel_rfl) trivial fun _ _ H47 hb => ?_
  replace hS := hS.below hb
  clear H43 hb
  apply wl_end rfl
  refine s_reg [] [0, 9, 10] (fS [0, 9, 10] [vS s, .slice g44.a q41.length g44.c, vI 0]) [] H47 (by kernel_rfl) trivial fun _ _ H49 hb => ?_
  replace hS := hS.below hb
  clear H47 hb
  refine s_reg [] [0, 9, 10] (fS [0, 9, 10] [vS s, .slice g44.a q41.length g44.c, vI 0]) [] H49 (by kernel_rfl) trivial fun _ _ H51 hb => ?_
  replace hS := hS.below hb
  clear H49 hb
  refine s_reg [] [0, 9, 10, 12] (fS [0, 9, 10, 12] [vS s, .slice g44.a q41.length g44.c, vI 0, vI 0]) [] H51 (by kernel_rfl) trivial fun _ _ H53 hb => ?_
  replace hS := hS.below hb
  clear H51 hb
  obtain ⟨z54, hz, hm⟩ := bindE hm
  refine w_cut (fun a' w' => Fr 106 (fS [0, 9, 10, 12] [vS s, .slice g44.a q41.length g44.c, vI 0, vI z54]) a' ∧ SH M X w [eO 9 tS q41 g44, gE1] w') ?_ ?_
  ·replace hm := hz
   apply w_block
   refine w_loop (fun kk a' w' => ∃ (v55 : Int), strings_Fields_L2 m s kk v55 = some _ ∧ Fr 106 (fS [0, 9, 10, 12] [vS s, .slice g44.a q41.length g44.c, vI 0, vI v55]) a' ∧ SH M X w [eO 9 tS q41 g44, gE1] w') ⟨_, 0, hm, FrG.keep (ks := [0, 9, 10, 12]) H53 (by kernel_rfl), hS⟩ ?_
   clear hm H53 hS
   rintro kk _ _ ⟨v55, hm, H, hS⟩
   cases kk with
   | zero => exact noneE hm
   | succ kk =>
    rw [strings_Fields_L2] at hm
    apply w_seq
    obtain ⟨ho56, hm⟩ := chkE hm
    obtain ⟨ho57, hm⟩ := chkE hm
    obtain ⟨x58, hx58, hm⟩ := letE hm
    refine s_reg [(vU (gi gl_strings_asciiSpace (bat s v55)))] [0, 9, 10, 12, 53] (fS [0, 9, 10, 12, 53] [vS s, .slice g44.a q41.length g44.c, vI 0, vI v55, vB x58]) [fun _ => ((decide (v55 < (ln s))) = true ∧ True → 0 ≤ v55 ∧ v55 < ln s), fun _ => ((decide (v55 < (ln s))) = true ∧ True → 0 ≤ (bat s v55) ∧ (bat s v55) < (256 : Int)), fun wz => ((decide (v55 < (ln s))) = true ∧ True → V.at1 ⟨1, 0 + ((bat s v55)).toNat * 1, none⟩ (vU (gi gl_strings_asciiSpace (bat s v55))) wz)] H (by subst hx58; kernel_rfl) ⟨fun hg => (ho56 hg.1), fun hg => (ho57 hg.1), fun hg => (hS.im 1 rfl).at1 (ho57 hg.1) 0 rfl, trivial⟩ fun _ _ H60 hb => ?_
    replace hS := hS.below hb
    clear H hb
    refine w_if H60 rfl (fun hc => ?_) (fun hc => ?c63)
    case c63 =>
     replace hm := bF hc hm
     apply w_exit rfl
     obtain rfl := someE hm
     exact ⟨FrG.keep (ks := [0, 9, 10, 12]) H60 (by kernel_rfl), hS⟩
    replace hm := bT hc hm
    apply w_skip
    apply w_block
    refine w_reg [] [0, 9, 10, 12] (fS [0, 9, 10, 12] [vS s, .slice g44.a q41.length g44.c, vI 0, vI (w64 (v55 + 1))]) [] H60 (by kernel_rfl) trivial fun _ _ H62 hb => ?_
    replace hS := hS.below hb
    clear H60 hb
    exact ⟨_, Nat.lt_succ_self _, w64 (v55 + 1), hm, FrG.keep (ks := [0, 9, 10, 12]) H62 (by kernel_rfl), hS⟩
  ·rintro _ _ ⟨H, hS⟩
   refine s_reg [] [0, 9, 10, 11, 12] (fS [0, 9, 10, 11, 12] [vS s, .slice g44.a q41.length g44.c, vI 0, vI z54, vI z54]) [] H (by kernel_rfl) trivial fun _ _ H66 hb => ?_
   replace hS := hS.below hb
   clear H hb
   obtain ⟨z67, hz, hm⟩ := bindE hm
   refine w_cut (fun a' w' => ∃ (g111 : Gh), Fr 106 (fS [0, 9, 10, 11] [vS s, .slice g111.a z67.2.2.length g111.c, vI z67.1, vI z67.2.1]) a' ∧ SH M X w [eO 9 tS z67.2.2 g111, gE1] w') ?_ ?_
   ·replace hm := hz
    apply w_block
    refine w_loop (fun kk a' w' => ∃ (v68 : List Str) (v70 : Int) (v71 : Int) (v72 : Int) (g69 : Gh), strings_Fields_L3 m s kk v68 v70 v71 v72 = some _ ∧ Fr 106 (fS [0, 9, 10, 11, 12] [vS s, .slice g69.a v68.length g69.c, vI v70, vI v71, vI v72]) a' ∧ SH M X w [eO 9 tS v68 g69, gE1] w') ⟨_, q41, 0, z54, z54, g44, hm, FrG.keep (ks := [0, 9, 10, 11, 12]) H66 (by kernel_rfl), hS⟩ ?_
    clear hm H66 hS
    rintro kk _ _ ⟨v68, v70, v71, v72, g69, hm, H, hS⟩
    cases kk with
    | zero => exact noneE hm
    | succ kk =>
     rw [strings_Fields_L3] at hm
     apply w_seq
     refine s_reg [] [0, 9, 10, 11, 12, 60] (fS [0, 9, 10, 11, 12, 60] [vS s, .slice g69.a v68.length g69.c, vI v70, vI v71, vI v72, vB (decide (v72 < (ln s)))]) [] H (by kernel_rfl) trivial fun _ _ H74 hb => ?_
     replace hS := hS.below hb
     clear H hb
     refine w_if H74 rfl (fun hc => ?_) (fun hc => ?c109)
     case c109 =>
      replace hm := bF hc hm
      apply w_exit rfl
      obtain rfl := someE hm
      exact ⟨g69, FrG.keep (ks := [0, 9, 10, 11]) H74 (by kernel_rfl), hS⟩
     replace hm := bT hc hm
     apply w_skip
     apply w_block
     apply w_seq
     obtain ⟨ho75, hm⟩ := chkE hm
     obtain ⟨ho76, hm⟩ := chkE hm
     obtain ⟨x77, hx77, hm⟩ := letE hm
     refine s_reg [(vU (gi gl_strings_asciiSpace (bat s v72)))] [0, 9, 10, 11, 12, 66] (fS [0, 9, 10, 11, 12, 66] [vS s, .slice g69.a v68.length g69.c, vI v70, vI v71, vI v72, vB x77]) [fun _ => 0 ≤ v72 ∧ v72 < ln s, fun _ => 0 ≤ (bat s v72) ∧ (bat s v72) < (256 : Int), fun wz => V.at1 ⟨1, 0 + ((bat s v72)).toNat * 1, none⟩ (vU (gi gl_strings_asciiSpace (bat s v72))) wz] H74 (by subst hx77; kernel_rfl) ⟨ho75, ho76, ((hS.im 1 rfl).at1 ho76 0 rfl), trivial⟩ fun _ _ H79 hb => ?_
     replace hS := hS.below hb
     clear H74 hb
     refine w_if H79 rfl (fun hc => ?c108) (fun hc => ?_)
     case c108 =>
      replace hm := bT hc hm
      refine s_reg [] [0, 9, 10, 11, 12] (fS [0, 9, 10, 11, 12] [vS s, .slice g69.a v68.length g69.c, vI v70, vI v71, vI (w64 (v72 + 1))]) [] H79 (by kernel_rfl) trivial fun _ _ H81 hb => ?_
      replace hS := hS.below hb
      clear H79 hb
      apply w_exit rfl
      exact ⟨_, Nat.lt_succ_self _, v68, v70, v71, w64 (v72 + 1), g69, hm, FrG.keep (ks := [0, 9, 10, 11, 12]) H81 (by kernel_rfl), hS⟩
     replace hm := bF hc hm
     apply w_skip
     apply w_seq
     apply wl_start
     obtain ⟨ho82, hm⟩ := chkE hm
     obtain ⟨ho83, hm⟩ := chkE hm
     refine wl_batch 0 7 [] [0, 9, 10, 12, 74, 75] (fS [0, 9, 10, 12, 74, 75] [vS s, .slice g69.a v68.length g69.c, vI v70, vI v72, vS (sub s v71 v72), .pointer (some ⟨ab g69.a, ao g69.a + (v70).toNat * 1, none⟩)]) [fun _ => 0 ≤ v71 ∧ v71 ≤ v72 ∧ v72 ≤ ln s, fun _ => oka g69.a ∧ 0 ≤ v70 ∧ v70 < ln v68] H79 (by decide) (by kernel_rfl) ⟨ho82, ((hS.osl 0 rfl).oki ho83), trivial⟩ fun _ _ H85 hb => ?_
     replace hS := hS.below hb
     clear H79 hb
     have hd := hS.hand [0] [1] rfl rfl
     refine m_stp0 [0, 9, 10, 12] (fS [0, 9, 10, 12] [vS s, .slice g69.a v68.length g69.c, vI v70, vI v72]) H85 rfl rfl rfl (o_estore (T := tS) (g := g69) (q := v68) (ix := v70) (off := 0) (sub s v71 v72) (gL []) H85 hd rfl rfl rfl rfl (by kernel_rfl) rfl rfl ho83 rfl trivial rfl) rfl fun _ _ H87 hq => ?_
     clear H85 hd
     obtain ⟨_, hq⟩ := hq
     obtain ⟨s88, hq⟩ := hq
     obtain ⟨q89, hq89, hm⟩ := letE hm
     rw [← hq89] at hq
     have hn : v68.length = q89.length := by rw [hq89, setl_len]
     first | rw [hn] at H87 | skip
     first | rw [hn] at hS | skip
     clear hn
     replace hS : SH M X w [eO 9 tS q89 (Gh.mk g69.a g69.c s88), gE1] _ := hS.join [0] [1] rfl rfl hq
     clear hq
     apply wl_end rfl
     refine s_reg [] [0, 9, 10, 12] (fS [0, 9, 10, 12] [vS s, .slice (Gh.mk g69.a g69.c s88).a q89.length (Gh.mk g69.a g69.c s88).c, vI (w64 (v70 + 1)), vI v72]) [] H87 (by kernel_rfl) trivial fun _ _ H91 hb => ?_
     replace hS := hS.below hb
     clear H87 hb
     refine s_reg [] [0, 9, 10, 12] (fS [0, 9, 10, 12] [vS s, .slice (Gh.mk g69.a g69.c s88).a q89.length (Gh.mk g69.a g69.c s88).c, vI (w64 (v70 + 1)), vI (w64 (v72 + 1))]) [] H91 (by kernel_rfl) trivial fun _ _ H93 hb => ?_
     replace hS := hS.below hb
     clear H91 hb
     obtain ⟨z94, hz, hm⟩ := bindE hm
     refine w_cut (fun a' w' => Fr 106 (fS [0, 9, 10, 12] [vS s, .slice (Gh.mk g69.a g69.c s88).a q89.length (Gh.mk g69.a g69.c s88).c, vI (w64 (v70 + 1)), vI z94]) a' ∧ SH M X w [eO 9 tS q89 (Gh.mk g69.a g69.c s88), gE1] w') ?_ ?_
     ·replace hm := hz
      apply w_block
      refine w_loop (fun kk a' w' => ∃ (v95 : Int), strings_Fields_L4 m s kk v95 = some _ ∧ Fr 106 (fS [0, 9, 10, 12] [vS s, .slice (Gh.mk g69.a g69.c s88).a q89.length (Gh.mk g69.a g69.c s88).c, vI (w64 (v70 + 1)), vI v95]) a' ∧ SH M X w [eO 9 tS q89 (Gh.mk g69.a g69.c s88), gE1] w') ⟨_, w64 (v72 + 1), hm, FrG.keep (ks := [0, 9, 10, 12]) H93 (by kernel_rfl), hS⟩ ?_
      clear hm H93 hS
      rintro kk _ _ ⟨v95, hm, H, hS⟩
      cases kk with
      | zero => exact noneE hm
      | succ kk =>
       rw [strings_Fields_L4] at hm
       apply w_seq
       obtain ⟨ho96, hm⟩ := chkE hm
       obtain ⟨ho97, hm⟩ := chkE hm
       obtain ⟨x98, hx98, hm⟩ := letE hm
       refine s_reg [(vU (gi gl_strings_asciiSpace (bat s v95)))] [0, 9, 10, 12, 91] (fS [0, 9, 10, 12, 91] [vS s, .slice (Gh.mk g69.a g69.c s88).a q89.length (Gh.mk g69.a g69.c s88).c, vI (w64 (v70 + 1)), vI v95, vB x98]) [fun _ => ((decide (v95 < (ln s))) = true ∧ True → 0 ≤ v95 ∧ v95 < ln s), fun _ => ((decide (v95 < (ln s))) = true ∧ True → 0 ≤ (bat s v95) ∧ (bat s v95) < (256 : Int)), fun wz => ((decide (v95 < (ln s))) = true ∧ True → V.at1 ⟨1, 0 + ((bat s v95)).toNat * 1, none⟩ (vU (gi gl_strings_asciiSpace (bat s v95))) wz)] H (by subst hx98; kernel_rfl) ⟨fun hg => (ho96 hg.1), fun hg => (ho97 hg.1), fun hg => (hS.im 1 rfl).at1 (ho97 hg.1) 0 rfl, trivial⟩ fun _ _ H100 hb => ?_
       replace hS := hS.below hb
       clear H hb
       refine w_if H100 rfl (fun hc => ?_) (fun hc => ?c103)
       case c103 =>
        replace hm := bF hc hm
        apply w_exit rfl
        obtain rfl := someE hm
        exact ⟨FrG.keep (ks := [0, 9, 10, 12]) H100 (by kernel_rfl), hS⟩
       replace hm := bT hc hm
       apply w_skip
       apply w_block
       refine w_reg [] [0, 9, 10, 12] (fS [0, 9, 10, 12] [vS s, .slice (Gh.mk g69.a g69.c s88).a q89.length (Gh.mk g69.a g69.c s88).c, vI (w64 (v70 + 1)), vI (w64 (v95 + 1))]) [] H100 (by kernel_rfl) trivial fun _ _ H102 hb => ?_
       replace hS := hS.below hb
       clear H100 hb
       exact ⟨_, Nat.lt_succ_self _, w64 (v95 + 1), hm, FrG.keep (ks := [0, 9, 10, 12]) H102 (by kernel_rfl), hS⟩
     ·rintro _ _ ⟨H, hS⟩
      refine w_reg [] [0, 9, 10, 11, 12] (fS [0, 9, 10, 11, 12] [vS s, .slice (Gh.mk g69.a g69.c s88).a q89.length (Gh.mk g69.a g69.c s88).c, vI (w64 (v70 + 1)), vI z94, vI z94]) [] H (by kernel_rfl) trivial fun _ _ H106 hb => ?_
      replace hS := hS.below hb
      clear H hb
      exact ⟨_, Nat.lt_succ_self _, q89, w64 (v70 + 1), z94, z94, (Gh.mk g69.a g69.c s88), hm, FrG.keep (ks := [0, 9, 10, 11, 12]) H106 (by kernel_rfl), hS⟩
   ·rintro _ _ ⟨g111, H, hS⟩
    obtain ⟨z112, hz, hm⟩ := bindE hm
    refine w_cut (fun a' w' => ∃ (g124 : Gh), Fr 106 [(9, [], .slice g124.a z112.length g124.c)] a' ∧ SH M X w [eO 9 tS z112 g124, gE1] w') ?_ ?_
    ·replace hm := hz
     refine s_reg [] [0, 9, 10, 11, 98] (fS [0, 9, 10, 11, 98] [vS s, .slice g111.a z67.2.2.length g111.c, vI z67.1, vI z67.2.1, vB (decide (z67.2.1 < (ln s)))]) [] H (by kernel_rfl) trivial fun _ _ H114 hb => ?_
     replace hS := hS.below hb
     clear H hb
     refine w_if H114 rfl (fun hc => ?_) (fun hc => ?c123)
     case c123 =>
      replace hm := bF hc hm
      apply w_skip
      obtain rfl := someE hm
      exact ⟨g111, FrG.keep (ks := [9]) H114 (by kernel_rfl), hS⟩
     replace hm := bT hc hm
     apply wl_start
     obtain ⟨ho115, hm⟩ := chkE hm
     obtain ⟨ho116, hm⟩ := chkE hm
     refine wl_batch 0 6 [] [9, 103, 104] (fS [9, 103, 104] [.slice g111.a z67.2.2.length g111.c, vS (sub s z67.2.1 (ln s)), .pointer (some ⟨ab g111.a, ao g111.a + (z67.1).toNat * 1, none⟩)]) [fun _ => 0 ≤ z67.2.1 ∧ z67.2.1 ≤ ln s, fun _ => oka g111.a ∧ 0 ≤ z67.1 ∧ z67.1 < ln z67.2.2] H114 (by decide) (by kernel_rfl) ⟨ho115, ((hS.osl 0 rfl).oki ho116), trivial⟩ fun _ _ H118 hb => ?_
     replace hS := hS.below hb
     clear H114 hb
     have hd := hS.hand [0] [1] rfl rfl
     refine m_stp0 [9] [(9, [], .slice g111.a z67.2.2.length g111.c)] H118 rfl rfl rfl (o_estore (T := tS) (g := g111) (q := z67.2.2) (ix := z67.1) (off := 0) (sub s z67.2.1 (ln s)) (gL []) H118 hd rfl rfl rfl rfl (by kernel_rfl) rfl rfl ho116 rfl trivial rfl) rfl fun _ _ H120 hq => ?_
     clear H118 hd
     obtain ⟨_, hq⟩ := hq
     obtain ⟨s121, hq⟩ := hq
     obtain ⟨q122, hq122, hm⟩ := letE hm
     rw [← hq122] at hq
     have hn : z67.2.2.length = q122.length := by rw [hq122, setl_len]
     first | rw [hn] at H120 | skip
     first | rw [hn] at hS | skip
     clear hn
     replace hS : SH M X w [eO 9 tS q122 (Gh.mk g111.a g111.c s121), gE1] _ := hS.join [0] [1] rfl rfl hq
     clear hq
     apply wl_end rfl
     obtain rfl := someE hm
     exact ⟨(Gh.mk g111.a g111.c s121), FrG.keep (ks := [9]) H120 (by kernel_rfl), hS⟩
    ·rintro _ _ ⟨g124, H, hS⟩
     refine s_reg [] [2] [(2, [], .slice g124.a z112.length g124.c)] [] H (by kernel_rfl) trivial fun _ _ H126 hb => ?_
     replace hS := hS.below hb
     clear H hb
     apply w_ret
     obtain rfl := someE hm
     exact retR1 H126 rfl rfl ⟨_, rfl, g124, rfl, (hS.sel [0] rfl)⟩
theorem strings_Fields_ok  (m : Nat) (s : Str) (r : List Str) (hm : strings_Fields m s = some r) (M : Av) (w : World) (hS : S0 M [gE1] w) : DoesX Tryz.prog 81 ⟨[vS s]⟩ w (fun v w' => ∃ (g901 : Gh), v = vL g901 r ∧ SH M (fpl [gE1]) w [eO 9 tS r g901] w') := ⟨Tryz.call81 _, strings_Fields_w M m   s r hm w hS⟩

theorem props_words_w  (M : Av) (m : Nat) (name_ : Str) (inherited : Bool) (first : Str) (all_ : Str) (r : TProp) (hm : props_words m name_ inherited first all_ = some r) (w : World) (hS : S0 M [gE1] w) : Calls Tryz.prog 60 ⟨[vS name_, vB inherited, vS first, vS all_]⟩ w (fun e w' => ∃ v, e = .returned v ∧ ∃ (g901 : Gh) (g903 : Gh), v = vG [vS r.Name, vB r.Inherited, vU r.Initial.Kind, vS r.Initial.Word, vI r.Initial.Num, vU r.Initial.Color.Red, vU r.Initial.Color.Green, vU r.Initial.Color.Blue, vU r.Initial.Color.Alpha, vL g901 r.Words, vL g903 r.Kinds, vB r.Least] ∧ SH M (fpl [gE1]) w [eO 9 tS r.Words g901, eO 5 (tI .u8) r.Kinds g903] w') := by
 rw [props_words] at hm
 have hS0 : SH M (fpl [gE1]) w [gE1] w := hS
 generalize hX : fpl [gE1] = X at hS0 ⊢
 clear hS hX
 have hS := hS0
 clear hS0
 refine calls_entryP Tryz.func60 rfl Tryz.ntmps60 rfl fun _ H => ?_
 apply w_seq
 apply wl_start
 have hd := hS.hand [] [0] rfl rfl
 refine m_stp [8, 0, 1, 2, 3] (fS [0, 1, 2, 3] [vS name_, vB inherited, vS first, vS all_]) H rfl rfl rfl rfl (o_alloc [vN, vF, vU 0, vN, vI 0, vU 0, vU 0, vU 0, vU 0, vO, vO, vF] (z := vG [vN, vF, vU 0, vN, vI 0, vU 0, vU 0, vU 0, vU 0, vO, vO, vF]) hd (by kernel_rfl) rfl) (fun _ => rfl) fun _ _ v H3 hq => ?_
 clear H hd
 obtain ⟨b1, rfl, hq⟩ := hq
 replace hS : SH M X w [eB b1 [vN, vF, vU 0, vN, vI 0, vU 0, vU 0, vU 0, vU 0, vO, vO, vF], gE1] _ := hS.join [] [0] rfl rfl hq
 clear hq
 apply wl_end rfl
 apply w_seq
 apply wl_start
 obtain ⟨y4, hy4, hm⟩ := letE hm
 refine wl_batch 0 5 [(vG (cV y4))] [8, 9, 10, 12, 13] (fS [8, 9, 10, 12, 13] [vP b1, vS name_, vB inherited, vG (cV y4), vS all_]) [rB 58 [vS first] (vG (cV y4))] H3 (by decide) (by subst hy4; kernel_rfl) ⟨((by rw [hy4]; exact (props_word_ok _).b)), trivial⟩ fun _ _ H6 hb => ?_
 replace hS := hS.below hb
 clear H3 hb
 obtain ⟨y7, hy7, hm⟩ := bindE hm
 have hd := hS.hand [1] [0, 1] rfl rfl
 refine m_stp [14, 8, 9, 10, 12] (fS [8, 9, 10, 12] [vP b1, vS name_, vB inherited, vG (cV y4)]) H6 rfl rfl rfl rfl (o_callx H6 rfl rfl (strings_Fields_ok m _ _ hy7 _ _ hd)) (fun _ => rfl) fun _ _ v H11 hq => ?_
 clear H6 hd
 obtain ⟨g8, rfl, hq⟩ := hq
 replace hS : SH M X w [eO 9 tS y7 g8, eB b1 [vN, vF, vU 0, vN, vI 0, vU 0, vU 0, vU 0, vU 0, vO, vO, vF], gE1] _ := hS.join [1] [0, 1] rfl rfl hq
 clear hq
 refine wl_batch 6 7 [] [8, 15] (fS [8, 15] [vP b1, vG [vS name_, vB inherited, vU y4.Kind, vS y4.Word, vI y4.Num, vU y4.Color.Red, vU y4.Color.Green, vU y4.Color.Blue, vU y4.Color.Alpha, vL g8 y7, vO, vF]]) [] H11 (by decide) (by kernel_rfl) trivial fun _ _ H13 hb => ?_
 replace hS := hS.below hb
 clear H11 hb
 have hd := hS.hand [1] [0, 2] rfl rfl
 refine m_stp0 [8] [(8, [], vP b1)] H13 rfl rfl rfl (o_store [vS name_, vB inherited, vU y4.Kind, vS y4.Word, vI y4.Num, vU y4.Color.Red, vU y4.Color.Green, vU y4.Color.Blue, vU y4.Color.Alpha, vL g8 y7, vO, vF] H13 hd rfl rfl (by kernel_rfl) rfl rfl rfl) rfl fun _ _ H15 hq => ?_
 clear H13 hd
 obtain ⟨_, hq⟩ := hq
 replace hS : SH M X w [eB b1 [vS name_, vB inherited, vU y4.Kind, vS y4.Word, vI y4.Num, vU y4.Color.Red, vU y4.Color.Green, vU y4.Color.Blue, vU y4.Color.Alpha, vL g8 y7, vO, vF], eO 9 tS y7 g8, gE1] _ := hS.join [1] [0, 2] rfl rfl hq
 clear hq
 apply wl_end rfl
 apply w_ret
 obtain rfl := someE hm
 replace hS : SH M X w [eO 5 (tI .u8) ([] : List Int) (.nil), eB b1 [vS name_, vB inherited, vU y4.Kind, vS y4.Word, vI y4.Num, vU y4.Color.Red, vU y4.Color.Green, vU y4.Color.Blue, vU y4.Color.Alpha, vL g8 y7, vO, vF], eO 9 tS y7 g8, gE1] _ := hS.addNil 5 (tI .u8)
 exact retR1 H15 rfl (oneRes_agg rfl (hS.bk 1 rfl) Tryz.underlying82 rfl (by kernel_rfl)) ⟨_, rfl, g8, Gh.nil, rfl, (hS.sel [2, 0] rfl)⟩
theorem props_words_ok  (m : Nat) (name_ : Str) (inherited : Bool) (first : Str) (all_ : Str) (r : TProp) (hm : props_words m name_ inherited first all_ = some r) (M : Av) (w : World) (hS : S0 M [gE1] w) : DoesX Tryz.prog 60 ⟨[vS name_, vB inherited, vS first, vS all_]⟩ w (fun v w' => ∃ (g901 : Gh) (g903 : Gh), v = vG [vS r.Name, vB r.Inherited, vU r.Initial.Kind, vS r.Initial.Word, vI r.Initial.Num, vU r.Initial.Color.Red, vU r.Initial.Color.Green, vU r.Initial.Color.Blue, vU r.Initial.Color.Alpha, vL g901 r.Words, vL g903 r.Kinds, vB r.Least] ∧ SH M (fpl [gE1]) w [eO 9 tS r.Words g901, eO 5 (tI .u8) r.Kinds g903] w') := ⟨Tryz.call60 _, props_words_w M m   name_ inherited first all_ r hm w hS⟩

theorem props_length_w {g_more : Gh} (M : Av) (m : Nat) (name_ : Str) (inherited : Bool) (first : TVal) (all_ : Str) (least : Bool) (more : List Int) (r : TProp) (hm : props_length m name_ inherited first all_ least more = some r) (w : World) (hS : S0 M [eI (tI .u8) more g_more, gE1] w) : Calls Tryz.prog 61 ⟨[vS name_, vB inherited, vG (cV first), vS all_, vB least, vL g_more more]⟩ w (fun e w' => ∃ v, e = .returned v ∧ ∃ (g901 : Gh) (g903 : Gh), v = vG [vS r.Name, vB r.Inherited, vU r.Initial.Kind, vS r.Initial.Word, vI r.Initial.Num, vU r.Initial.Color.Red, vU r.Initial.Color.Green, vU r.Initial.Color.Blue, vU r.Initial.Color.Alpha, vL g901 r.Words, vL g903 r.Kinds, vB r.Least] ∧ SH M (fpl [eI (tI .u8) more g_more, gE1]) w [eO 9 tS r.Words g901, eO 5 (tI .u8) r.Kinds g903] w') := by
 rw [props_length] at hm
 have hS0 : SH M (fpl [eI (tI .u8) more g_more, gE1]) w [eI (tI .u8) more g_more, gE1] w := hS
 generalize hX : fpl [eI (tI .u8) more g_more, gE1] = X at hS0 ⊢
 clear hS hX
 have hS := hS0
 clear hS0
 refine calls_entryP Tryz.func61 rfl Tryz.ntmps61 rfl fun _ H => ?_
 apply w_seq
 apply wl_start
 have hd := hS.hand [] [0, 1] rfl rfl
 refine m_stp [8, 0, 1, 3, 4, 5] (fS [0, 1, 3, 4, 5] [vS name_, vB inherited, vS all_, vB least, vL g_more more]) H rfl rfl rfl rfl (o_box (cV first) H hd rfl rfl) (fun _ => rfl) fun _ _ v H3 hq => ?_
 clear H hd
 obtain ⟨b1, rfl, hq⟩ := hq
 replace hS : SH M X w [eB b1 (cV first), eI (tI .u8) more g_more, gE1] _ := hS.join [] [0, 1] rfl rfl hq
 clear hq
 have hd := hS.hand [] [0, 1, 2] rfl rfl
 refine m_stp [12, 0, 1, 3, 4, 5, 8] (fS [0, 1, 3, 4, 5, 8] [vS name_, vB inherited, vS all_, vB least, vL g_more more, vP b1]) H3 rfl rfl rfl rfl (o_alloc [vN, vF, vU 0, vN, vI 0, vU 0, vU 0, vU 0, vU 0, vO, vO, vF] (z := vG [vN, vF, vU 0, vN, vI 0, vU 0, vU 0, vU 0, vU 0, vO, vO, vF]) hd (by kernel_rfl) rfl) (fun _ => rfl) fun _ _ v H6 hq => ?_
 clear H3 hd
 obtain ⟨b4, rfl, hq⟩ := hq
 replace hS : SH M X w [eB b4 [vN, vF, vU 0, vN, vI 0, vU 0, vU 0, vU 0, vU 0, vO, vO, vF], eB b1 (cV first), eI (tI .u8) more g_more, gE1] _ := hS.join [] [0, 1, 2] rfl rfl hq
 clear hq
 apply wl_end rfl
 obtain ⟨y8, hy8, hm⟩ := bindE hm
 obtain ⟨ho13, hm⟩ := chkE hm
 obtain ⟨q14, hq14, hm⟩ := letE hm
 refine s_drawS (base := (fS [0, 1, 3, 4, 5, 8, 12] [vS name_, vB inherited, vS all_, vB least, vL g_more more, vP b1, vP b4])) (L := [eB b4 [vN, vF, vU 0, vN, vI 0, vU 0, vU 0, vU 0, vU 0, vO, vO, vF], eB b1 (cV first), eI (tI .u8) more g_more, gE1]) 11 4 (fun yg7 => [vS name_, vB inherited, vG (cV first), vS all_, .slice (yg7 4 0).a y8.length (yg7 4 0).c, vK (yg7 5 0) 3, vL g_more more, .slice (yg7 7 0).a q14.length (yg7 7 0).c, vB least, vG [vS name_, vB inherited, vU first.Kind, vS first.Word, vI first.Num, vU first.Color.Red, vU first.Color.Green, vU first.Color.Blue, vU first.Color.Alpha, .slice (yg7 4 0).a y8.length (yg7 4 0).c, .slice (yg7 7 0).a q14.length (yg7 7 0).c, vB least], undef]) (fun yg7 => [[], [], [], [], [eO 9 tS y8 (yg7 4 0)], [eO 5 (tI .u8) kL4 (yg7 5 0)], [], [eO 5 (tI .u8) q14 (yg7 7 0)], [], [], [eB b4 [vS name_, vB inherited, vU first.Kind, vS first.Word, vI first.Num, vU first.Color.Red, vU first.Color.Green, vU first.Color.Blue, vU first.Color.Alpha, .slice (yg7 4 0).a y8.length (yg7 4 0).c, .slice (yg7 7 0).a q14.length (yg7 7 0).c, vB least]]]) [[], [], [12], [], [14], [], [], [5, 13], [], [4, 7], [4, 7, 11]] [[], [], [], [], [], [], [], [5], [], [], [11]] [[0], [1], [2], [3], [3, 4], [5], [6], [5, 6, 7], [8], [0, 1, 2, 3, 4, 5, 6, 7, 8, 9], [0, 1, 2, 3, 4, 5, 6, 7, 8, 9, 10]] [] (FrG.keep (ks := [0, 1, 3, 4, 5, 8, 12]) H6 (by kernel_rfl)) (fun _ _ h => by cases h) (by kernel_rfl) hS (by kernel_rfl) rfl rfl (by kernel_rfl) (by kernel_rfl) (by kernel_rfl) (gd_none (by kernel_rfl) _ _) ?hloc_yg7 ?hstep_yg7 fun _ _ yg7 H17 hv hS => ?hK_yg7
 case hloc_yg7 => exact ⟨(fun _ _ _ _ => ⟨rfl, rfl⟩), (fun _ _ _ _ => ⟨rfl, rfl⟩), (fun _ _ _ _ => ⟨rfl, rfl⟩), (fun _ _ _ _ => ⟨rfl, rfl⟩), (fun _ i g hi => lcG [4] (fun yg7 => (.slice (yg7 4 0).a y8.length (yg7 4 0).c, [eO 9 tS y8 (yg7 4 0)])) hi rfl), (fun _ i g hi => lcG [5] (fun yg7 => (vK (yg7 5 0) 3, [eO 5 (tI .u8) kL4 (yg7 5 0)])) hi rfl), (fun _ _ _ _ => ⟨rfl, rfl⟩), (fun _ i g hi => lcG [7] (fun yg7 => (.slice (yg7 7 0).a q14.length (yg7 7 0).c, [eO 5 (tI .u8) q14 (yg7 7 0)])) hi rfl), (fun _ _ _ _ => ⟨rfl, rfl⟩), (fun _ i g hi => lcG [4, 7] (fun yg7 => (vG [vS name_, vB inherited, vU first.Kind, vS first.Word, vI first.Num, vU first.Color.Red, vU first.Color.Green, vU first.Color.Blue, vU first.Color.Alpha, .slice (yg7 4 0).a y8.length (yg7 4 0).c, .slice (yg7 7 0).a q14.length (yg7 7 0).c, vB least], [])) hi rfl), (fun _ i g hi => lcG [4, 7] (fun yg7 => (undef, [eB b4 [vS name_, vB inherited, vU first.Kind, vS first.Word, vI first.Num, vU first.Color.Red, vU first.Color.Green, vU first.Color.Blue, vU first.Color.Alpha, .slice (yg7 4 0).a y8.length (yg7 4 0).c, .slice (yg7 7 0).a q14.length (yg7 7 0).c, vB least]])) hi rfl), trivial⟩
 case hstep_yg7 =>
  refine ⟨?_, ?_, ?_, ?_, ?_, ?_, ?_, ?_, ?_, ?_, ?_, trivial⟩
  ·intro o ho a w yg7 M Hb hv hO hS
   obtain rfl := someE ho
   exact Stp.mono (o_evs [] (vS name_) none [] Hb rfl (by kernel_rfl) (fun q e => by cases e)) fun _ _ hq => ⟨gL [], fun _ _ => hq.1, (hS.below hq.2.below).sel [] rfl⟩
  ·intro o ho a w yg7 M Hb hv hO hS
   obtain rfl := someE ho
   exact Stp.mono (o_evs [] (vB inherited) none [] Hb rfl (by kernel_rfl) (fun q e => by cases e)) fun _ _ hq => ⟨gL [], fun _ _ => hq.1, (hS.below hq.2.below).sel [] rfl⟩
  ·intro o ho a w yg7 M Hb hv hO hS
   obtain rfl := someE ho
   exact Stp.mono (o_evs [(vG (cV first))] (vG (cV first)) (some (rN b1 0 (cV first))) [] Hb rfl (by kernel_rfl) (fun q e => by cases e; exact ((hS.bk 0 rfl).atD rfl))) fun _ _ hq => ⟨gL [], fun _ _ => hq.1, (hS.below hq.2.below).sel [0] rfl⟩
  ·intro o ho a w yg7 M Hb hv hO hS
   obtain rfl := someE ho
   exact Stp.mono (o_evs [] (vS all_) none [] Hb rfl (by kernel_rfl) (fun q e => by cases e)) fun _ _ hq => ⟨gL [], fun _ _ => hq.1, (hS.below hq.2.below).sel [] rfl⟩
  ·intro o ho a w yg7 M Hb hv hO hS0
   obtain rfl := someE ho
   have H : Fr 23 ([(16, [], vS all_)] ++ (fS [0, 1, 3, 4, 5, 8, 12] [vS name_, vB inherited, vS all_, vB least, vL g_more more, vP b1, vP b4])) _ := (Hb).add (hv 3 (by decide) (by decide) 16 rfl)
   obtain ⟨X, hX⟩ : ∃ X, X = fpl [gE1] := ⟨_, rfl⟩
   have hS : SH M X w [gE1] w := by rw [hX]; exact hS0
   have hd := hS.hand [0] [0] rfl rfl
   refine Stp.mono (o_callx H rfl rfl (strings_Fields_ok m _ _ hy8 _ _ hd)) ?_
   rintro v w2 hq
   obtain ⟨g9, rfl, hq⟩ := hq
   replace hS : SH M X w [eO 9 tS y8 g9, gE1] _ := hS.join [0] [0] rfl rfl hq
   clear hq
   rw [hX] at hS
   exact ⟨gL [g9], fun _ _ => rfl, hS.sel [0, 1] rfl⟩
  ·intro o ho a w yg7 M Hb hv hO hS0
   obtain rfl := someE ho
   have H : Fr 23 ([] ++ (fS [0, 1, 3, 4, 5, 8, 12] [vS name_, vB inherited, vS all_, vB least, vL g_more more, vP b1, vP b4])) _ := Hb
   obtain ⟨X, hX⟩ : ∃ X, X = fpl [] := ⟨_, rfl⟩
   have hS : SH M X w [] w := by rw [hX]; exact hS0
   have hd := hS.hand [] [] rfl rfl
   refine Stp.mono (o_lit (T := (tI .u8)) (E := 5) (zv := vU 0) [vU 2, vU 3, vU 4] kL4 [gL [], gL [], gL []] _ H hd rfl (by kernel_rfl) (by kernel_rfl) (by kernel_rfl) (by kernel_rfl) (by kernel_rfl) (by kernel_rfl) (by kernel_rfl) rfl (InnL.cons trivial (InnL.cons trivial (InnL.cons trivial InnL.nil)))) ?_
   rintro v w2 hq
   obtain ⟨g11, rfl, hq⟩ := hq
   replace hS : SH M X w [eO 5 (tI .u8) kL4 g11] _ := hS.join [] [] rfl rfl hq
   clear hq
   rw [hX] at hS
   exact ⟨gL [g11], fun _ _ => rfl, hS.sel [0] rfl⟩
  ·intro o ho a w yg7 M Hb hv hO hS
   obtain rfl := someE ho
   exact Stp.mono (o_evs [] (vL g_more more) none [] Hb rfl (by kernel_rfl) (fun q e => by cases e)) fun _ _ hq => ⟨gL [], fun _ _ => hq.1, (hS.below hq.2.below).sel [] rfl⟩
  ·intro o ho a w yg7 M Hb hv hO hS0
   obtain rfl := someE ho
   have H : Fr 23 ((fS [19, 18] [vL g_more more, vK (yg7 5 0) 3]) ++ (fS [0, 1, 3, 4, 5, 8, 12] [vS name_, vB inherited, vS all_, vB least, vL g_more more, vP b1, vP b4])) _ := ((Hb).add (hv 5 (by decide) (by decide) 18 rfl)).add (hv 6 (by decide) (by decide) 19 rfl)
   obtain ⟨X, hX⟩ : ∃ X, X = fpl [eO 5 (tI .u8) kL4 (yg7 5 0), eI (tI .u8) more g_more] := ⟨_, rfl⟩
   have hS : SH M X w [eO 5 (tI .u8) kL4 (yg7 5 0), eI (tI .u8) more g_more] w := by rw [hX]; exact hS0
   have hd := hS.hand [0, 1] [1] rfl rfl
   refine Stp.mono (o_app (T := (tI .u8)) (zv := vU 0) (g1 := (yg7 5 0)) (g2 := g_more) (l1 := kL4) (l2 := more) q14 hq14.symm H hd rfl rfl rfl rfl rfl rfl rfl (by kernel_rfl) (by kernel_rfl) rfl rfl ho13) ?_
   rintro v w2 hq
   obtain ⟨g15, rfl, hq⟩ := hq
   replace hS : SH M X w [eO 5 (tI .u8) q14 g15, eI (tI .u8) more g_more] _ := hS.join [0, 1] [1] rfl rfl hq
   clear hq
   rw [hX] at hS
   exact ⟨gL [g15], fun _ _ => rfl, hS.sel [0, 1] rfl⟩
  ·intro o ho a w yg7 M Hb hv hO hS
   obtain rfl := someE ho
   exact Stp.mono (o_evs [] (vB least) none [] Hb rfl (by kernel_rfl) (fun q e => by cases e)) fun _ _ hq => ⟨gL [], fun _ _ => hq.1, (hS.below hq.2.below).sel [] rfl⟩
  ·intro o ho a w yg7 M Hb hv hO hS
   obtain rfl := someE ho
   exact Stp.mono (o_evs [] (vG [vS name_, vB inherited, vU first.Kind, vS first.Word, vI first.Num, vU first.Color.Red, vU first.Color.Green, vU first.Color.Blue, vU first.Color.Alpha, .slice (yg7 4 0).a y8.length (yg7 4 0).c, .slice (yg7 7 0).a q14.length (yg7 7 0).c, vB least]) none [] (((((((Hb).add (hv 0 (by decide) (by decide) 13 rfl)).add (hv 1 (by decide) (by decide) 14 rfl)).add (hv 2 (by decide) (by decide) 15 rfl)).add (hv 4 (by decide) (by decide) 17 rfl)).add (hv 7 (by decide) (by decide) 20 rfl)).add (hv 8 (by decide) (by decide) 21 rfl)) rfl (by kernel_rfl) (fun q e => by cases e)) fun _ _ hq => ⟨gL [], fun _ _ => hq.1, (hS.below hq.2.below).sel [0, 1] rfl⟩
  ·intro o ho a w yg7 M Hb hv hO hS0
   obtain rfl := someE ho
   have H : Fr 23 ([(22, [], vG [vS name_, vB inherited, vU first.Kind, vS first.Word, vI first.Num, vU first.Color.Red, vU first.Color.Green, vU first.Color.Blue, vU first.Color.Alpha, .slice (yg7 4 0).a y8.length (yg7 4 0).c, .slice (yg7 7 0).a q14.length (yg7 7 0).c, vB least])] ++ (fS [0, 1, 3, 4, 5, 8, 12] [vS name_, vB inherited, vS all_, vB least, vL g_more more, vP b1, vP b4])) _ := (Hb).add (hv 9 (by decide) (by decide) 22 rfl)
   obtain ⟨X, hX⟩ : ∃ X, X = fpl [eO 9 tS y8 (yg7 4 0), eO 5 (tI .u8) q14 (yg7 7 0), eB b4 [vN, vF, vU 0, vN, vI 0, vU 0, vU 0, vU 0, vU 0, vO, vO, vF]] := ⟨_, rfl⟩
   have hS : SH M X w [eO 9 tS y8 (yg7 4 0), eO 5 (tI .u8) q14 (yg7 7 0), eB b4 [vN, vF, vU 0, vN, vI 0, vU 0, vU 0, vU 0, vU 0, vO, vO, vF]] w := by rw [hX]; exact hS0
   have hd := hS.hand [2] [0, 1] rfl rfl
   refine Stp.mono (o_store [vS name_, vB inherited, vU first.Kind, vS first.Word, vI first.Num, vU first.Color.Red, vU first.Color.Green, vU first.Color.Blue, vU first.Color.Alpha, .slice (yg7 4 0).a y8.length (yg7 4 0).c, .slice (yg7 7 0).a q14.length (yg7 7 0).c, vB least] H hd rfl rfl (by kernel_rfl) rfl rfl rfl) ?_
   rintro v w2 hq
   replace hS : SH M X w [eB b4 [vS name_, vB inherited, vU first.Kind, vS first.Word, vI first.Num, vU first.Color.Red, vU first.Color.Green, vU first.Color.Blue, vU first.Color.Alpha, .slice (yg7 4 0).a y8.length (yg7 4 0).c, .slice (yg7 7 0).a q14.length (yg7 7 0).c, vB least], eO 9 tS y8 (yg7 4 0), eO 5 (tI .u8) q14 (yg7 7 0)] _ := hS.join [2] [0, 1] rfl rfl hq
   clear hq
   rw [hX] at hS
   exact ⟨gL [], (fun _ h => by cases h), hS.sel [0, 1, 2] rfl⟩
 have H18 : Fr 23 [(12, [], vP b4)] _ := (FrG.keep (ks := [12]) H17 (by kernel_rfl))
 replace hS : SH M X w [eO 9 tS y8 (yg7 4 0), eO 5 (tI .u8) q14 (yg7 7 0), eB b4 [vS name_, vB inherited, vU first.Kind, vS first.Word, vI first.Num, vU first.Color.Red, vU first.Color.Green, vU first.Color.Blue, vU first.Color.Alpha, .slice (yg7 4 0).a y8.length (yg7 4 0).c, .slice (yg7 7 0).a q14.length (yg7 7 0).c, vB least], eB b1 (cV first), eI (tI .u8) more g_more, gE1] _ := hS
 clear hv H17
 generalize yg7 4 0 = g19 at H18 hS
 generalize yg7 7 0 = g20 at H18 hS
 replace hS : SH M X w [eO 9 tS y8 g19, eO 5 (tI .u8) q14 g20, eB b4 [vS name_, vB inherited, vU first.Kind, vS first.Word, vI first.Num, vU first.Color.Red, vU first.Color.Green, vU first.Color.Blue, vU first.Color.Alpha, vL g19 y8, vL g20 q14, vB least], gE1] _ := hS.sel [0, 1, 2, 5] rfl
 apply w_ret
 obtain rfl := someE hm
 exact retR1 H18 rfl (oneRes_agg rfl (hS.bk 2 rfl) Tryz.underlying82 rfl (by kernel_rfl)) ⟨_, rfl, g19, g20, rfl, (hS.sel [0, 1] rfl)⟩
theorem props_length_ok {g_more : Gh} (m : Nat) (name_ : Str) (inherited : Bool) (first : TVal) (all_ : Str) (least : Bool) (more : List Int) (r : TProp) (hm : props_length m name_ inherited first all_ least more = some r) (M : Av) (w : World) (hS : S0 M [eI (tI .u8) more g_more, gE1] w) : DoesX Tryz.prog 61 ⟨[vS name_, vB inherited, vG (cV first), vS all_, vB least, vL g_more more]⟩ w (fun v w' => ∃ (g901 : Gh) (g903 : Gh), v = vG [vS r.Name, vB r.Inherited, vU r.Initial.Kind, vS r.Initial.Word, vI r.Initial.Num, vU r.Initial.Color.Red, vU r.Initial.Color.Green, vU r.Initial.Color.Blue, vU r.Initial.Color.Alpha, vL g901 r.Words, vL g903 r.Kinds, vB r.Least] ∧ SH M (fpl [eI (tI .u8) more g_more, gE1]) w [eO 9 tS r.Words g901, eO 5 (tI .u8) r.Kinds g903] w') := ⟨Tryz.call61 _, props_length_w M m   name_ inherited first all_ least more r hm w hS⟩

theorem props_Table_w  (M : Av) (m : Nat)  (r : List TProp) (hm : props_Table m = some r) (w : World) (hS : S0 M [gE1] w) : Calls Tryz.prog 40 ⟨[]⟩ w (fun e w' => ∃ v, e = .returned v ∧ ∃ (g901 : Gh), v = vL g901 r ∧ SH M (fpl [gE1]) w [eO 82 tyProp r g901] w') := by
 rw [props_Table] at hm
 have hS0 : SH M (fpl [gE1]) w [gE1] w := hS
 generalize hX : fpl [gE1] = X at hS0 ⊢
 clear hS hX
 have hS := hS0
 clear hS0
 refine calls_entryP Tryz.func40 rfl Tryz.ntmps40 rfl fun _ H => ?_
 refine s_reg [] [] [] [] H (by kernel_rfl) trivial fun _ _ H2 hb => ?_
 replace hS := hS.below hb
 clear H hb
 apply w_seq
 apply wl_start
 obtain ⟨y3, hy3, hm⟩ := letE hm
 refine wl_batch 0 2 [(vG (cV y3))] [6, 7] (fS [6, 7] [vG (cV y3), vG [vU 2, vN, vI 0, vU 0, vU 0, vU 0, vU 0]]) [rB 58 [vS [97, 117, 116, 111]] (vG (cV y3))] H2 (by decide) (by subst hy3; kernel_rfl) ⟨((by rw [hy3]; exact (props_word_ok _).b)), trivial⟩ fun _ _ H5 hb => ?_
 replace hS := hS.below hb
 clear H2 hb
 have hd := hS.hand [] [0] rfl rfl
 refine m_stp [1, 6, 7] (fS [6, 7] [vG (cV y3), vG [vU 2, vN, vI 0, vU 0, vU 0, vU 0, vU 0]]) H5 rfl rfl rfl rfl (o_alloc [vU 0, vN, vI 0, vU 0, vU 0, vU 0, vU 0] (z := vG [vU 0, vN, vI 0, vU 0, vU 0, vU 0, vU 0]) hd (by kernel_rfl) rfl) (fun _ => rfl) fun _ _ v H8 hq => ?_
 clear H5 hd
 obtain ⟨b6, rfl, hq⟩ := hq
 replace hS : SH M X w [eB b6 [vU 0, vN, vI 0, vU 0, vU 0, vU 0, vU 0], gE1] _ := hS.join [] [0] rfl rfl hq
 clear hq
 have hd := hS.hand [] [0, 1] rfl rfl
 refine m_stp [2, 1, 6, 7] (fS [1, 6, 7] [vP b6, vG (cV y3), vG [vU 2, vN, vI 0, vU 0, vU 0, vU 0, vU 0]]) H8 rfl rfl rfl rfl (o_alloc [vU 0, vN, vI 0, vU 0, vU 0, vU 0, vU 0] (z := vG [vU 0, vN, vI 0, vU 0, vU 0, vU 0, vU 0]) hd (by kernel_rfl) rfl) (fun _ => rfl) fun _ _ v H11 hq => ?_
 clear H8 hd
 obtain ⟨b9, rfl, hq⟩ := hq
 replace hS : SH M X w [eB b9 [vU 0, vN, vI 0, vU 0, vU 0, vU 0, vU 0], eB b6 [vU 0, vN, vI 0, vU 0, vU 0, vU 0, vU 0], gE1] _ := hS.join [] [0, 1] rfl rfl hq
 clear hq
 have hd := hS.hand [1] [0, 2] rfl rfl
 refine m_stp0 [1, 2, 7] (fS [1, 2, 7] [vP b6, vP b9, vG [vU 2, vN, vI 0, vU 0, vU 0, vU 0, vU 0]]) H11 rfl rfl rfl (o_store (cV y3) H11 hd rfl rfl (by kernel_rfl) rfl rfl rfl) rfl fun _ _ H13 hq => ?_
 clear H11 hd
 obtain ⟨_, hq⟩ := hq
 replace hS : SH M X w [eB b6 (cV y3), eB b9 [vU 0, vN, vI 0, vU 0, vU 0, vU 0, vU 0], gE1] _ := hS.join [1] [0, 2] rfl rfl hq
 clear hq
 have hd := hS.hand [1] [0, 2] rfl rfl
 refine m_stp0 [1, 2] (fS [1, 2] [vP b6, vP b9]) H13 rfl rfl rfl (o_store [vU 2, vN, vI 0, vU 0, vU 0, vU 0, vU 0] H13 hd rfl rfl (by kernel_rfl) rfl rfl rfl) rfl fun _ _ H15 hq => ?_
 clear H13 hd
 obtain ⟨_, hq⟩ := hq
 replace hS : SH M X w [eB b9 [vU 2, vN, vI 0, vU 0, vU 0, vU 0, vU 0], eB b6 (cV y3), gE1] _ := hS.join [1] [0, 2] rfl rfl hq
 clear hq
 apply wl_end rfl
 obtain ⟨y17, hy17, hm⟩ := letE hm
 obtain ⟨y22, hy22, hm⟩ := letE hm
 obtain ⟨y27, hy27, hm⟩ := letE hm
 obtain ⟨y32, hy32, hm⟩ := letE hm
 obtain ⟨y37, hy37, hm⟩ := bindE hm
 obtain ⟨y42, hy42, hm⟩ := bindE hm
 obtain ⟨y48, hy48, hm⟩ := bindE hm
 obtain ⟨y54, hy54, hm⟩ := bindE hm
 refine s_drawS (base := (fS [1, 2] [vP b6, vP b9])) (L := [eB b9 [vU 2, vN, vI 0, vU 0, vU 0, vU 0, vU 0], eB b6 (cV y3), gE1]) 17 3 (fun yg16 => [vG [vU 0, vU 0, vU 0, vU 255], vG [vU 7, vN, vI 0, vU 0, vU 0, vU 0, vU 255], vG [vS y17.Name, vB y17.Inherited, vU y17.Initial.Kind, vS y17.Initial.Word, vI y17.Initial.Num, vU y17.Initial.Color.Red, vU y17.Initial.Color.Green, vU y17.Initial.Color.Blue, vU y17.Initial.Color.Alpha, .slice (yg16 2 0).a y17.Words.length (yg16 2 0).c, .slice (yg16 2 1).a y17.Kinds.length (yg16 2 1).c, vB y17.Least], vG [vU 7, vN, vI 0, vU 0, vU 0, vU 0, vU 0], vG [vS y22.Name, vB y22.Inherited, vU y22.Initial.Kind, vS y22.Initial.Word, vI y22.Initial.Num, vU y22.Initial.Color.Red, vU y22.Initial.Color.Green, vU y22.Initial.Color.Blue, vU y22.Initial.Color.Alpha, .slice (yg16 4 0).a y22.Words.length (yg16 4 0).c, .slice (yg16 4 1).a y22.Kinds.length (yg16 4 1).c, vB y22.Least], vG [vU 8, vN, vI 0, vU 0, vU 0, vU 0, vU 0], vG [vS y27.Name, vB y27.Inherited, vU y27.Initial.Kind, vS y27.Initial.Word, vI y27.Initial.Num, vU y27.Initial.Color.Red, vU y27.Initial.Color.Green, vU y27.Initial.Color.Blue, vU y27.Initial.Color.Alpha, .slice (yg16 6 0).a y27.Words.length (yg16 6 0).c, .slice (yg16 6 1).a y27.Kinds.length (yg16 6 1).c, vB y27.Least], vG [vU 8, vN, vI 0, vU 0, vU 0, vU 0, vU 0], vG [vS y32.Name, vB y32.Inherited, vU y32.Initial.Kind, vS y32.Initial.Word, vI y32.Initial.Num, vU y32.Initial.Color.Red, vU y32.Initial.Color.Green, vU y32.Initial.Color.Blue, vU y32.Initial.Color.Alpha, .slice (yg16 8 0).a y32.Words.length (yg16 8 0).c, .slice (yg16 8 1).a y32.Kinds.length (yg16 8 1).c, vB y32.Least], vG [vS y37.Name, vB y37.Inherited, vU y37.Initial.Kind, vS y37.Initial.Word, vI y37.Initial.Num, vU y37.Initial.Color.Red, vU y37.Initial.Color.Green, vU y37.Initial.Color.Blue, vU y37.Initial.Color.Alpha, .slice (yg16 9 0).a y37.Words.length (yg16 9 0).c, .slice (yg16 9 1).a y37.Kinds.length (yg16 9 1).c, vB y37.Least], vG [vS y42.Name, vB y42.Inherited, vU y42.Initial.Kind, vS y42.Initial.Word, vI y42.Initial.Num, vU y42.Initial.Color.Red, vU y42.Initial.Color.Green, vU y42.Initial.Color.Blue, vU y42.Initial.Color.Alpha, .slice (yg16 10 0).a y42.Words.length (yg16 10 0).c, .slice (yg16 10 1).a y42.Kinds.length (yg16 10 1).c, vB y42.Least], vG (cV y3), vG [vS y48.Name, vB y48.Inherited, vU y48.Initial.Kind, vS y48.Initial.Word, vI y48.Initial.Num, vU y48.Initial.Color.Red, vU y48.Initial.Color.Green, vU y48.Initial.Color.Blue, vU y48.Initial.Color.Alpha, .slice (yg16 12 0).a y48.Words.length (yg16 12 0).c, .slice (yg16 12 1).a y48.Kinds.length (yg16 12 1).c, vB y48.Least], vG (cV y3), vG [vS y54.Name, vB y54.Inherited, vU y54.Initial.Kind, vS y54.Initial.Word, vI y54.Initial.Num, vU y54.Initial.Color.Red, vU y54.Initial.Color.Green, vU y54.Initial.Color.Blue, vU y54.Initial.Color.Alpha, .slice (yg16 14 0).a y54.Words.length (yg16 14 0).c, .slice (yg16 14 1).a y54.Kinds.length (yg16 14 1).c, vB y54.Least], vK (yg16 15 0) 8, vK (yg16 15 0) 8]) (fun yg16 => [[], [], [eO 9 tS y17.Words (yg16 2 0), eO 5 (tI .u8) y17.Kinds (yg16 2 1)], [], [eO 9 tS y22.Words (yg16 4 0), eO 5 (tI .u8) y22.Kinds (yg16 4 1)], [], [eO 9 tS y27.Words (yg16 6 0), eO 5 (tI .u8) y27.Kinds (yg16 6 1)], [], [eO 9 tS y32.Words (yg16 8 0), eO 5 (tI .u8) y32.Kinds (yg16 8 1)], [eO 9 tS y37.Words (yg16 9 0), eO 5 (tI .u8) y37.Kinds (yg16 9 1)], [eO 9 tS y42.Words (yg16 10 0), eO 5 (tI .u8) y42.Kinds (yg16 10 1)], [], [eO 9 tS y48.Words (yg16 12 0), eO 5 (tI .u8) y48.Kinds (yg16 12 1), eI (tI .u8) ([] : List Int) (.nil)], [], [eO 9 tS y54.Words (yg16 14 0), eO 5 (tI .u8) y54.Kinds (yg16 14 1), eI (tI .u8) ([] : List Int) (.nil)], [eO 82 tyProp ([y17, y22, y27, y32, y37, y42, y48, y54] : List TProp) (yg16 15 0), eI (tI .u8) y54.Kinds (yg16 14 1), eI tS y54.Words (yg16 14 0), eI (tI .u8) y48.Kinds (yg16 12 1), eI tS y48.Words (yg16 12 0), eI (tI .u8) y42.Kinds (yg16 10 1), eI tS y42.Words (yg16 10 0), eI (tI .u8) y37.Kinds (yg16 9 1), eI tS y37.Words (yg16 9 0), eI (tI .u8) y32.Kinds (yg16 8 1), eI tS y32.Words (yg16 8 0), eI (tI .u8) y27.Kinds (yg16 6 1), eI tS y27.Words (yg16 6 0), eI (tI .u8) y22.Kinds (yg16 4 1), eI tS y22.Words (yg16 4 0), eI (tI .u8) y17.Kinds (yg16 2 1), eI tS y17.Words (yg16 2 0), eI (tI .u8) ([] : List Int) (.nil), eI (tI .u8) ([] : List Int) (.nil)], []]) [[], [], [], [], [], [], [], [], [], [19], [19], [18], [19], [18], [19], [2, 4, 6, 8, 9, 10, 12, 14], [15]] [[], [], [], [], [], [], [], [], [], [], [], [], [], [], [], [2, 4, 6, 8, 9, 10, 12, 14], []] [[0], [0, 1], [0, 1, 2], [3], [3, 4], [5], [5, 6], [7], [7, 8], [9], [10], [11], [11, 12], [13], [13, 14], [0, 1, 2, 3, 4, 5, 6, 7, 8, 9, 10, 11, 12, 13, 14, 15], [0, 1, 2, 3, 4, 5, 6, 7, 8, 9, 10, 11, 12, 13, 14, 15, 16]] [] (FrG.keep (ks := [1, 2]) H15 (by kernel_rfl)) (fun _ _ h => by cases h) (by kernel_rfl) hS (by kernel_rfl) rfl rfl (by kernel_rfl) (by kernel_rfl) (by kernel_rfl) (gd_none (by kernel_rfl) _ _) ?hloc_yg16 ?hstep_yg16 fun _ _ yg16 H62 hv hS => ?hK_yg16
 case hloc_yg16 => exact ⟨(fun _ _ _ _ => ⟨rfl, rfl⟩), (fun _ _ _ _ => ⟨rfl, rfl⟩), (fun _ i g hi => lcG [2] (fun yg16 => (vG [vS y17.Name, vB y17.Inherited, vU y17.Initial.Kind, vS y17.Initial.Word, vI y17.Initial.Num, vU y17.Initial.Color.Red, vU y17.Initial.Color.Green, vU y17.Initial.Color.Blue, vU y17.Initial.Color.Alpha, .slice (yg16 2 0).a y17.Words.length (yg16 2 0).c, .slice (yg16 2 1).a y17.Kinds.length (yg16 2 1).c, vB y17.Least], [eO 9 tS y17.Words (yg16 2 0), eO 5 (tI .u8) y17.Kinds (yg16 2 1)])) hi rfl), (fun _ _ _ _ => ⟨rfl, rfl⟩), (fun _ i g hi => lcG [4] (fun yg16 => (vG [vS y22.Name, vB y22.Inherited, vU y22.Initial.Kind, vS y22.Initial.Word, vI y22.Initial.Num, vU y22.Initial.Color.Red, vU y22.Initial.Color.Green, vU y22.Initial.Color.Blue, vU y22.Initial.Color.Alpha, .slice (yg16 4 0).a y22.Words.length (yg16 4 0).c, .slice (yg16 4 1).a y22.Kinds.length (yg16 4 1).c, vB y22.Least], [eO 9 tS y22.Words (yg16 4 0), eO 5 (tI .u8) y22.Kinds (yg16 4 1)])) hi rfl), (fun _ _ _ _ => ⟨rfl, rfl⟩), (fun _ i g hi => lcG [6] (fun yg16 => (vG [vS y27.Name, vB y27.Inherited, vU y27.Initial.Kind, vS y27.Initial.Word, vI y27.Initial.Num, vU y27.Initial.Color.Red, vU y27.Initial.Color.Green, vU y27.Initial.Color.Blue, vU y27.Initial.Color.Alpha, .slice (yg16 6 0).a y27.Words.length (yg16 6 0).c, .slice (yg16 6 1).a y27.Kinds.length (yg16 6 1).c, vB y27.Least], [eO 9 tS y27.Words (yg16 6 0), eO 5 (tI .u8) y27.Kinds (yg16 6 1)])) hi rfl), (fun _ _ _ _ => ⟨rfl, rfl⟩), (fun _ i g hi => lcG [8] (fun yg16 => (vG [vS y32.Name, vB y32.Inherited, vU y32.Initial.Kind, vS y32.Initial.Word, vI y32.Initial.Num, vU y32.Initial.Color.Red, vU y32.Initial.Color.Green, vU y32.Initial.Color.Blue, vU y32.Initial.Color.Alpha, .slice (yg16 8 0).a y32.Words.length (yg16 8 0).c, .slice (yg16 8 1).a y32.Kinds.length (yg16 8 1).c, vB y32.Least], [eO 9 tS y32.Words (yg16 8 0), eO 5 (tI .u8) y32.Kinds (yg16 8 1)])) hi rfl), (fun _ i g hi => lcG [9] (fun yg16 => (vG [vS y37.Name, vB y37.Inherited, vU y37.Initial.Kind, vS y37.Initial.Word, vI y37.Initial.Num, vU y37.Initial.Color.Red, vU y37.Initial.Color.Green, vU y37.Initial.Color.Blue, vU y37.Initial.Color.Alpha, .slice (yg16 9 0).a y37.Words.length (yg16 9 0).c, .slice (yg16 9 1).a y37.Kinds.length (yg16 9 1).c, vB y37.Least], [eO 9 tS y37.Words (yg16 9 0), eO 5 (tI .u8) y37.Kinds (yg16 9 1)])) hi rfl), (fun _ i g hi => lcG [10] (fun yg16 => (vG [vS y42.Name, vB y42.Inherited, vU y42.Initial.Kind, vS y42.Initial.Word, vI y42.Initial.Num, vU y42.Initial.Color.Red, vU y42.Initial.Color.Green, vU y42.Initial.Color.Blue, vU y42.Initial.Color.Alpha, .slice (yg16 10 0).a y42.Words.length (yg16 10 0).c, .slice (yg16 10 1).a y42.Kinds.length (yg16 10 1).c, vB y42.Least], [eO 9 tS y42.Words (yg16 10 0), eO 5 (tI .u8) y42.Kinds (yg16 10 1)])) hi rfl), (fun _ _ _ _ => ⟨rfl, rfl⟩), (fun _ i g hi => lcG [12] (fun yg16 => (vG [vS y48.Name, vB y48.Inherited, vU y48.Initial.Kind, vS y48.Initial.Word, vI y48.Initial.Num, vU y48.Initial.Color.Red, vU y48.Initial.Color.Green, vU y48.Initial.Color.Blue, vU y48.Initial.Color.Alpha, .slice (yg16 12 0).a y48.Words.length (yg16 12 0).c, .slice (yg16 12 1).a y48.Kinds.length (yg16 12 1).c, vB y48.Least], [eO 9 tS y48.Words (yg16 12 0), eO 5 (tI .u8) y48.Kinds (yg16 12 1), eI (tI .u8) ([] : List Int) (.nil)])) hi rfl), (fun _ _ _ _ => ⟨rfl, rfl⟩), (fun _ i g hi => lcG [14] (fun yg16 => (vG [vS y54.Name, vB y54.Inherited, vU y54.Initial.Kind, vS y54.Initial.Word, vI y54.Initial.Num, vU y54.Initial.Color.Red, vU y54.Initial.Color.Green, vU y54.Initial.Color.Blue, vU y54.Initial.Color.Alpha, .slice (yg16 14 0).a y54.Words.length (yg16 14 0).c, .slice (yg16 14 1).a y54.Kinds.length (yg16 14 1).c, vB y54.Least], [eO 9 tS y54.Words (yg16 14 0), eO 5 (tI .u8) y54.Kinds (yg16 14 1), eI (tI .u8) ([] : List Int) (.nil)])) hi rfl), (fun _ i g hi => lcG [2, 4, 6, 8, 9, 10, 12, 14, 15] (fun yg16 => (vK (yg16 15 0) 8, [eO 82 tyProp ([y17, y22, y27, y32, y37, y42, y48, y54] : List TProp) (yg16 15 0), eI (tI .u8) y54.Kinds (yg16 14 1), eI tS y54.Words (yg16 14 0), eI (tI .u8) y48.Kinds (yg16 12 1), eI tS y48.Words (yg16 12 0), eI (tI .u8) y42.Kinds (yg16 10 1), eI tS y42.Words (yg16 10 0), eI (tI .u8) y37.Kinds (yg16 9 1), eI tS y37.Words (yg16 9 0), eI (tI .u8) y32.Kinds (yg16 8 1), eI tS y32.Words (yg16 8 0), eI (tI .u8) y27.Kinds (yg16 6 1), eI tS y27.Words (yg16 6 0), eI (tI .u8) y22.Kinds (yg16 4 1), eI tS y22.Words (yg16 4 0), eI (tI .u8) y17.Kinds (yg16 2 1), eI tS y17.Words (yg16 2 0), eI (tI .u8) ([] : List Int) (.nil), eI (tI .u8) ([] : List Int) (.nil)])) hi rfl), (fun _ i g hi => lcG [15] (fun yg16 => (vK (yg16 15 0) 8, [])) hi rfl), trivial⟩
 case hstep_yg16 =>
  refine ⟨?_, ?_, ?_, ?_, ?_, ?_, ?_, ?_, ?_, ?_, ?_, ?_, ?_, ?_, ?_, ?_, ?_, trivial⟩
  ·intro o ho a w yg16 M Hb hv hO hS
   obtain rfl := someE ho
   exact Stp.mono (o_evs [] (vG [vU 0, vU 0, vU 0, vU 255]) none [] Hb rfl (by kernel_rfl) (fun q e => by cases e)) fun _ _ hq => ⟨gL [], fun _ _ => hq.1, (hS.below hq.2.below).sel [] rfl⟩
  ·intro o ho a w yg16 M Hb hv hO hS
   obtain rfl := someE ho
   exact Stp.mono (o_evs [] (vG [vU 7, vN, vI 0, vU 0, vU 0, vU 0, vU 255]) none [] ((Hb).add (hv 0 (by decide) (by decide) 8 rfl)) rfl (by kernel_rfl) (fun q e => by cases e)) fun _ _ hq => ⟨gL [], fun _ _ => hq.1, (hS.below hq.2.below).sel [] rfl⟩
  ·intro o ho a w yg16 M Hb hv hO hS0
   obtain rfl := someE ho
   have H : Fr 57 ([(9, [], vG [vU 7, vN, vI 0, vU 0, vU 0, vU 0, vU 255])] ++ (fS [1, 2] [vP b6, vP b9])) _ := (Hb).add (hv 1 (by decide) (by decide) 9 rfl)
   obtain ⟨X, hX⟩ : ∃ X, X = fpl [] := ⟨_, rfl⟩
   have hS : SH M X w [] w := by rw [hX]; exact hS0
   have hd := hS.hand [] [] rfl rfl
   refine Stp.mono (o_callx H rfl rfl (props_color_ok _ _ _ _ hy17.symm _ _ hd)) ?_
   rintro v w2 hq
   obtain ⟨g18, g20, rfl, hq⟩ := hq
   replace hS : SH M X w [eO 9 tS y17.Words g18, eO 5 (tI .u8) y17.Kinds g20] _ := hS.join [] [] rfl rfl hq
   clear hq
   rw [hX] at hS
   exact ⟨gL [g18, g20], fun _ _ => rfl, hS.sel [0, 1] rfl⟩
  ·intro o ho a w yg16 M Hb hv hO hS
   obtain rfl := someE ho
   exact Stp.mono (o_evs [] (vG [vU 7, vN, vI 0, vU 0, vU 0, vU 0, vU 0]) none [] Hb rfl (by kernel_rfl) (fun q e => by cases e)) fun _ _ hq => ⟨gL [], fun _ _ => hq.1, (hS.below hq.2.below).sel [] rfl⟩
  ·intro o ho a w yg16 M Hb hv hO hS0
   obtain rfl := someE ho
   have H : Fr 57 ([(11, [], vG [vU 7, vN, vI 0, vU 0, vU 0, vU 0, vU 0])] ++ (fS [1, 2] [vP b6, vP b9])) _ := (Hb).add (hv 3 (by decide) (by decide) 11 rfl)
   obtain ⟨X, hX⟩ : ∃ X, X = fpl [] := ⟨_, rfl⟩
   have hS : SH M X w [] w := by rw [hX]; exact hS0
   have hd := hS.hand [] [] rfl rfl
   refine Stp.mono (o_callx H rfl rfl (props_color_ok _ _ _ _ hy22.symm _ _ hd)) ?_
   rintro v w2 hq
   obtain ⟨g23, g25, rfl, hq⟩ := hq
   replace hS : SH M X w [eO 9 tS y22.Words g23, eO 5 (tI .u8) y22.Kinds g25] _ := hS.join [] [] rfl rfl hq
   clear hq
   rw [hX] at hS
   exact ⟨gL [g23, g25], fun _ _ => rfl, hS.sel [0, 1] rfl⟩
  ·intro o ho a w yg16 M Hb hv hO hS
   obtain rfl := someE ho
   exact Stp.mono (o_evs [] (vG [vU 8, vN, vI 0, vU 0, vU 0, vU 0, vU 0]) none [] Hb rfl (by kernel_rfl) (fun q e => by cases e)) fun _ _ hq => ⟨gL [], fun _ _ => hq.1, (hS.below hq.2.below).sel [] rfl⟩
  ·intro o ho a w yg16 M Hb hv hO hS0
   obtain rfl := someE ho
   have H : Fr 57 ([(13, [], vG [vU 8, vN, vI 0, vU 0, vU 0, vU 0, vU 0])] ++ (fS [1, 2] [vP b6, vP b9])) _ := (Hb).add (hv 5 (by decide) (by decide) 13 rfl)
   obtain ⟨X, hX⟩ : ∃ X, X = fpl [] := ⟨_, rfl⟩
   have hS : SH M X w [] w := by rw [hX]; exact hS0
   have hd := hS.hand [] [] rfl rfl
   refine Stp.mono (o_callx H rfl rfl (props_color_ok _ _ _ _ hy27.symm _ _ hd)) ?_
   rintro v w2 hq
   obtain ⟨g28, g30, rfl, hq⟩ := hq
   replace hS : SH M X w [eO 9 tS y27.Words g28, eO 5 (tI .u8) y27.Kinds g30] _ := hS.join [] [] rfl rfl hq
   clear hq
   rw [hX] at hS
   exact ⟨gL [g28, g30], fun _ _ => rfl, hS.sel [0, 1] rfl⟩
  ·intro o ho a w yg16 M Hb hv hO hS
   obtain rfl := someE ho
   exact Stp.mono (o_evs [] (vG [vU 8, vN, vI 0, vU 0, vU 0, vU 0, vU 0]) none [] Hb rfl (by kernel_rfl) (fun q e => by cases e)) fun _ _ hq => ⟨gL [], fun _ _ => hq.1, (hS.below hq.2.below).sel [] rfl⟩
  ·intro o ho a w yg16 M Hb hv hO hS0
   obtain rfl := someE ho
   have H : Fr 57 ([(15, [], vG [vU 8, vN, vI 0, vU 0, vU 0, vU 0, vU 0])] ++ (fS [1, 2] [vP b6, vP b9])) _ := (Hb).add (hv 7 (by decide) (by decide) 15 rfl)
   obtain ⟨X, hX⟩ : ∃ X, X = fpl [] := ⟨_, rfl⟩
   have hS : SH M X w [] w := by rw [hX]; exact hS0
   have hd := hS.hand [] [] rfl rfl
   refine Stp.mono (o_callx H rfl rfl (props_color_ok _ _ _ _ hy32.symm _ _ hd)) ?_
   rintro v w2 hq
   obtain ⟨g33, g35, rfl, hq⟩ := hq
   replace hS : SH M X w [eO 9 tS y32.Words g33, eO 5 (tI .u8) y32.Kinds g35] _ := hS.join [] [] rfl rfl hq
   clear hq
   rw [hX] at hS
   exact ⟨gL [g33, g35], fun _ _ => rfl, hS.sel [0, 1] rfl⟩
  ·intro o ho a w yg16 M Hb hv hO hS0
   obtain rfl := someE ho
   have H : Fr 57 ([] ++ (fS [1, 2] [vP b6, vP b9])) _ := Hb
   obtain ⟨X, hX⟩ : ∃ X, X = fpl [gE1] := ⟨_, rfl⟩
   have hS : SH M X w [gE1] w := by rw [hX]; exact hS0
   have hd := hS.hand [0] [0] rfl rfl
   refine Stp.mono (o_callx H rfl rfl (props_words_ok m _ _ _ _ _ hy37 _ _ hd)) ?_
   rintro v w2 hq
   obtain ⟨g38, g40, rfl, hq⟩ := hq
   replace hS : SH M X w [eO 9 tS y37.Words g38, eO 5 (tI .u8) y37.Kinds g40, gE1] _ := hS.join [0] [0] rfl rfl hq
   clear hq
   rw [hX] at hS
   exact ⟨gL [g38, g40], fun _ _ => rfl, hS.sel [0, 1, 2] rfl⟩
  ·intro o ho a w yg16 M Hb hv hO hS0
   obtain rfl := someE ho
   have H : Fr 57 ([] ++ (fS [1, 2] [vP b6, vP b9])) _ := Hb
   obtain ⟨X, hX⟩ : ∃ X, X = fpl [gE1] := ⟨_, rfl⟩
   have hS : SH M X w [gE1] w := by rw [hX]; exact hS0
   have hd := hS.hand [0] [0] rfl rfl
   refine Stp.mono (o_callx H rfl rfl (props_words_ok m _ _ _ _ _ hy42 _ _ hd)) ?_
   rintro v w2 hq
   obtain ⟨g43, g45, rfl, hq⟩ := hq
   replace hS : SH M X w [eO 9 tS y42.Words g43, eO 5 (tI .u8) y42.Kinds g45, gE1] _ := hS.join [0] [0] rfl rfl hq
   clear hq
   rw [hX] at hS
   exact ⟨gL [g43, g45], fun _ _ => rfl, hS.sel [0, 1, 2] rfl⟩
  ·intro o ho a w yg16 M Hb hv hO hS
   obtain rfl := someE ho
   exact Stp.mono (o_evs [(vG (cV y3))] (vG (cV y3)) (some (rN b6 0 (cV y3))) [] Hb rfl (by kernel_rfl) (fun q e => by cases e; exact ((hS.bk 0 rfl).atD rfl))) fun _ _ hq => ⟨gL [], fun _ _ => hq.1, (hS.below hq.2.below).sel [0] rfl⟩
  ·intro o ho a w yg16 M Hb hv hO hS0
   obtain rfl := someE ho
   have H : Fr 57 ([(19, [], vG (cV y3))] ++ (fS [1, 2] [vP b6, vP b9])) _ := (Hb).add (hv 11 (by decide) (by decide) 19 rfl)
   obtain ⟨X, hX⟩ : ∃ X, X = fpl [gE1] := ⟨_, rfl⟩
   have hS : SH M X w [gE1] w := by rw [hX]; exact hS0
   replace hS : SH M X w [eO 5 (tI .u8) ([] : List Int) (.nil), gE1] _ := hS.addNil 5 (tI .u8)
   replace hS : SH M X w [eI (tI .u8) ([] : List Int) (.nil), gE1] _ := SH.frz1 (hS.sel [0, 1] rfl)
   have hd := hS.hand [0, 1] [0, 1] rfl rfl
   refine Stp.mono (o_callx H rfl rfl (props_length_ok (g_more := Gh.nil) m _ _ _ _ _ _ _ hy48 _ _ hd)) ?_
   rintro v w2 hq
   obtain ⟨g49, g51, rfl, hq⟩ := hq
   replace hS : SH M X w [eO 9 tS y48.Words g49, eO 5 (tI .u8) y48.Kinds g51, eI (tI .u8) ([] : List Int) (.nil), gE1] _ := hS.join [0, 1] [0, 1] rfl rfl hq
   clear hq
   rw [hX] at hS
   exact ⟨gL [g49, g51], fun _ _ => rfl, hS.sel [0, 1, 2, 3] rfl⟩
  ·intro o ho a w yg16 M Hb hv hO hS
   obtain rfl := someE ho
   exact Stp.mono (o_evs [(vG (cV y3))] (vG (cV y3)) (some (rN b6 0 (cV y3))) [] Hb rfl (by kernel_rfl) (fun q e => by cases e; exact ((hS.bk 0 rfl).atD rfl))) fun _ _ hq => ⟨gL [], fun _ _ => hq.1, (hS.below hq.2.below).sel [0] rfl⟩
  ·intro o ho a w yg16 M Hb hv hO hS0
   obtain rfl := someE ho
   have H : Fr 57 ([(21, [], vG (cV y3))] ++ (fS [1, 2] [vP b6, vP b9])) _ := (Hb).add (hv 13 (by decide) (by decide) 21 rfl)
   obtain ⟨X, hX⟩ : ∃ X, X = fpl [gE1] := ⟨_, rfl⟩
   have hS : SH M X w [gE1] w := by rw [hX]; exact hS0
   replace hS : SH M X w [eO 5 (tI .u8) ([] : List Int) (.nil), gE1] _ := hS.addNil 5 (tI .u8)
   replace hS : SH M X w [eI (tI .u8) ([] : List Int) (.nil), gE1] _ := SH.frz1 (hS.sel [0, 1] rfl)
   have hd := hS.hand [0, 1] [0, 1] rfl rfl
   refine Stp.mono (o_callx H rfl rfl (props_length_ok (g_more := Gh.nil) m _ _ _ _ _ _ _ hy54 _ _ hd)) ?_
   rintro v w2 hq
   obtain ⟨g55, g57, rfl, hq⟩ := hq
   replace hS : SH M X w [eO 9 tS y54.Words g55, eO 5 (tI .u8) y54.Kinds g57, eI (tI .u8) ([] : List Int) (.nil), gE1] _ := hS.join [0, 1] [0, 1] rfl rfl hq
   clear hq
   rw [hX] at hS
   exact ⟨gL [g55, g57], fun _ _ => rfl, hS.sel [0, 1, 2, 3] rfl⟩
  ·intro o ho a w yg16 M Hb hv hO hS0
   obtain rfl := someE ho
   have H : Fr 57 ((fS [22, 20, 18, 17, 16, 14, 12, 10] [vG [vS y54.Name, vB y54.Inherited, vU y54.Initial.Kind, vS y54.Initial.Word, vI y54.Initial.Num, vU y54.Initial.Color.Red, vU y54.Initial.Color.Green, vU y54.Initial.Color.Blue, vU y54.Initial.Color.Alpha, .slice (yg16 14 0).a y54.Words.length (yg16 14 0).c, .slice (yg16 14 1).a y54.Kinds.length (yg16 14 1).c, vB y54.Least], vG [vS y48.Name, vB y48.Inherited, vU y48.Initial.Kind, vS y48.Initial.Word, vI y48.Initial.Num, vU y48.Initial.Color.Red, vU y48.Initial.Color.Green, vU y48.Initial.Color.Blue, vU y48.Initial.Color.Alpha, .slice (yg16 12 0).a y48.Words.length (yg16 12 0).c, .slice (yg16 12 1).a y48.Kinds.length (yg16 12 1).c, vB y48.Least], vG [vS y42.Name, vB y42.Inherited, vU y42.Initial.Kind, vS y42.Initial.Word, vI y42.Initial.Num, vU y42.Initial.Color.Red, vU y42.Initial.Color.Green, vU y42.Initial.Color.Blue, vU y42.Initial.Color.Alpha, .slice (yg16 10 0).a y42.Words.length (yg16 10 0).c, .slice (yg16 10 1).a y42.Kinds.length (yg16 10 1).c, vB y42.Least], vG [vS y37.Name, vB y37.Inherited, vU y37.Initial.Kind, vS y37.Initial.Word, vI y37.Initial.Num, vU y37.Initial.Color.Red, vU y37.Initial.Color.Green, vU y37.Initial.Color.Blue, vU y37.Initial.Color.Alpha, .slice (yg16 9 0).a y37.Words.length (yg16 9 0).c, .slice (yg16 9 1).a y37.Kinds.length (yg16 9 1).c, vB y37.Least], vG [vS y32.Name, vB y32.Inherited, vU y32.Initial.Kind, vS y32.Initial.Word, vI y32.Initial.Num, vU y32.Initial.Color.Red, vU y32.Initial.Color.Green, vU y32.Initial.Color.Blue, vU y32.Initial.Color.Alpha, .slice (yg16 8 0).a y32.Words.length (yg16 8 0).c, .slice (yg16 8 1).a y32.Kinds.length (yg16 8 1).c, vB y32.Least], vG [vS y27.Name, vB y27.Inherited, vU y27.Initial.Kind, vS y27.Initial.Word, vI y27.Initial.Num, vU y27.Initial.Color.Red, vU y27.Initial.Color.Green, vU y27.Initial.Color.Blue, vU y27.Initial.Color.Alpha, .slice (yg16 6 0).a y27.Words.length (yg16 6 0).c, .slice (yg16 6 1).a y27.Kinds.length (yg16 6 1).c, vB y27.Least], vG [vS y22.Name, vB y22.Inherited, vU y22.Initial.Kind, vS y22.Initial.Word, vI y22.Initial.Num, vU y22.Initial.Color.Red, vU y22.Initial.Color.Green, vU y22.Initial.Color.Blue, vU y22.Initial.Color.Alpha, .slice (yg16 4 0).a y22.Words.length (yg16 4 0).c, .slice (yg16 4 1).a y22.Kinds.length (yg16 4 1).c, vB y22.Least], vG [vS y17.Name, vB y17.Inherited, vU y17.Initial.Kind, vS y17.Initial.Word, vI y17.Initial.Num, vU y17.Initial.Color.Red, vU y17.Initial.Color.Green, vU y17.Initial.Color.Blue, vU y17.Initial.Color.Alpha, .slice (yg16 2 0).a y17.Words.length (yg16 2 0).c, .slice (yg16 2 1).a y17.Kinds.length (yg16 2 1).c, vB y17.Least]]) ++ (fS [1, 2] [vP b6, vP b9])) _ := ((((((((Hb).add (hv 2 (by decide) (by decide) 10 rfl)).add (hv 4 (by decide) (by decide) 12 rfl)).add (hv 6 (by decide) (by decide) 14 rfl)).add (hv 8 (by decide) (by decide) 16 rfl)).add (hv 9 (by decide) (by decide) 17 rfl)).add (hv 10 (by decide) (by decide) 18 rfl)).add (hv 12 (by decide) (by decide) 20 rfl)).add (hv 14 (by decide) (by decide) 22 rfl)
   obtain ⟨X, hX⟩ : ∃ X, X = fpl [eO 9 tS y17.Words (yg16 2 0), eO 5 (tI .u8) y17.Kinds (yg16 2 1), eO 9 tS y22.Words (yg16 4 0), eO 5 (tI .u8) y22.Kinds (yg16 4 1), eO 9 tS y27.Words (yg16 6 0), eO 5 (tI .u8) y27.Kinds (yg16 6 1), eO 9 tS y32.Words (yg16 8 0), eO 5 (tI .u8) y32.Kinds (yg16 8 1), eO 9 tS y37.Words (yg16 9 0), eO 5 (tI .u8) y37.Kinds (yg16 9 1), eO 9 tS y42.Words (yg16 10 0), eO 5 (tI .u8) y42.Kinds (yg16 10 1), eO 9 tS y48.Words (yg16 12 0), eO 5 (tI .u8) y48.Kinds (yg16 12 1), eI (tI .u8) ([] : List Int) (.nil), eO 9 tS y54.Words (yg16 14 0), eO 5 (tI .u8) y54.Kinds (yg16 14 1), eI (tI .u8) ([] : List Int) (.nil)] := ⟨_, rfl⟩
   have hS : SH M X w [eO 9 tS y17.Words (yg16 2 0), eO 5 (tI .u8) y17.Kinds (yg16 2 1), eO 9 tS y22.Words (yg16 4 0), eO 5 (tI .u8) y22.Kinds (yg16 4 1), eO 9 tS y27.Words (yg16 6 0), eO 5 (tI .u8) y27.Kinds (yg16 6 1), eO 9 tS y32.Words (yg16 8 0), eO 5 (tI .u8) y32.Kinds (yg16 8 1), eO 9 tS y37.Words (yg16 9 0), eO 5 (tI .u8) y37.Kinds (yg16 9 1), eO 9 tS y42.Words (yg16 10 0), eO 5 (tI .u8) y42.Kinds (yg16 10 1), eO 9 tS y48.Words (yg16 12 0), eO 5 (tI .u8) y48.Kinds (yg16 12 1), eI (tI .u8) ([] : List Int) (.nil), eO 9 tS y54.Words (yg16 14 0), eO 5 (tI .u8) y54.Kinds (yg16 14 1), eI (tI .u8) ([] : List Int) (.nil)] w := by rw [hX]; exact hS0
   replace hS : SH M X w [eI tS y17.Words (yg16 2 0), eO 5 (tI .u8) y17.Kinds (yg16 2 1), eO 9 tS y22.Words (yg16 4 0), eO 5 (tI .u8) y22.Kinds (yg16 4 1), eO 9 tS y27.Words (yg16 6 0), eO 5 (tI .u8) y27.Kinds (yg16 6 1), eO 9 tS y32.Words (yg16 8 0), eO 5 (tI .u8) y32.Kinds (yg16 8 1), eO 9 tS y37.Words (yg16 9 0), eO 5 (tI .u8) y37.Kinds (yg16 9 1), eO 9 tS y42.Words (yg16 10 0), eO 5 (tI .u8) y42.Kinds (yg16 10 1), eO 9 tS y48.Words (yg16 12 0), eO 5 (tI .u8) y48.Kinds (yg16 12 1), eI (tI .u8) ([] : List Int) (.nil), eO 9 tS y54.Words (yg16 14 0), eO 5 (tI .u8) y54.Kinds (yg16 14 1), eI (tI .u8) ([] : List Int) (.nil)] _ := SH.frz1 (hS.sel [0, 1, 2, 3, 4, 5, 6, 7, 8, 9, 10, 11, 12, 13, 14, 15, 16, 17] rfl)
   replace hS : SH M X w [eI (tI .u8) y17.Kinds (yg16 2 1), eI tS y17.Words (yg16 2 0), eO 9 tS y22.Words (yg16 4 0), eO 5 (tI .u8) y22.Kinds (yg16 4 1), eO 9 tS y27.Words (yg16 6 0), eO 5 (tI .u8) y27.Kinds (yg16 6 1), eO 9 tS y32.Words (yg16 8 0), eO 5 (tI .u8) y32.Kinds (yg16 8 1), eO 9 tS y37.Words (yg16 9 0), eO 5 (tI .u8) y37.Kinds (yg16 9 1), eO 9 tS y42.Words (yg16 10 0), eO 5 (tI .u8) y42.Kinds (yg16 10 1), eO 9 tS y48.Words (yg16 12 0), eO 5 (tI .u8) y48.Kinds (yg16 12 1), eI (tI .u8) ([] : List Int) (.nil), eO 9 tS y54.Words (yg16 14 0), eO 5 (tI .u8) y54.Kinds (yg16 14 1), eI (tI .u8) ([] : List Int) (.nil)] _ := SH.frz1 (hS.sel [1, 0, 2, 3, 4, 5, 6, 7, 8, 9, 10, 11, 12, 13, 14, 15, 16, 17] rfl)
   replace hS : SH M X w [eI tS y22.Words (yg16 4 0), eI (tI .u8) y17.Kinds (yg16 2 1), eI tS y17.Words (yg16 2 0), eO 5 (tI .u8) y22.Kinds (yg16 4 1), eO 9 tS y27.Words (yg16 6 0), eO 5 (tI .u8) y27.Kinds (yg16 6 1), eO 9 tS y32.Words (yg16 8 0), eO 5 (tI .u8) y32.Kinds (yg16 8 1), eO 9 tS y37.Words (yg16 9 0), eO 5 (tI .u8) y37.Kinds (yg16 9 1), eO 9 tS y42.Words (yg16 10 0), eO 5 (tI .u8) y42.Kinds (yg16 10 1), eO 9 tS y48.Words (yg16 12 0), eO 5 (tI .u8) y48.Kinds (yg16 12 1), eI (tI .u8) ([] : List Int) (.nil), eO 9 tS y54.Words (yg16 14 0), eO 5 (tI .u8) y54.Kinds (yg16 14 1), eI (tI .u8) ([] : List Int) (.nil)] _ := SH.frz1 (hS.sel [2, 0, 1, 3, 4, 5, 6, 7, 8, 9, 10, 11, 12, 13, 14, 15, 16, 17] rfl)
   replace hS : SH M X w [eI (tI .u8) y22.Kinds (yg16 4 1), eI tS y22.Words (yg16 4 0), eI (tI .u8) y17.Kinds (yg16 2 1), eI tS y17.Words (yg16 2 0), eO 9 tS y27.Words (yg16 6 0), eO 5 (tI .u8) y27.Kinds (yg16 6 1), eO 9 tS y32.Words (yg16 8 0), eO 5 (tI .u8) y32.Kinds (yg16 8 1), eO 9 tS y37.Words (yg16 9 0), eO 5 (tI .u8) y37.Kinds (yg16 9 1), eO 9 tS y42.Words (yg16 10 0), eO 5 (tI .u8) y42.Kinds (yg16 10 1), eO 9 tS y48.Words (yg16 12 0), eO 5 (tI .u8) y48.Kinds (yg16 12 1), eI (tI .u8) ([] : List Int) (.nil), eO 9 tS y54.Words (yg16 14 0), eO 5 (tI .u8) y54.Kinds (yg16 14 1), eI (tI .u8) ([] : List Int) (.nil)] _ := SH.frz1 (hS.sel [3, 0, 1, 2, 4, 5, 6, 7, 8, 9, 10, 11, 12, 13, 14, 15, 16, 17] rfl)
   replace hS : SH M X w [eI tS y27.Words (yg16 6 0), eI (tI .u8) y22.Kinds (yg16 4 1), eI tS y22.Words (yg16 4 0), eI (tI .u8) y17.Kinds (yg16 2 1), eI tS y17.Words (yg16 2 0), eO 5 (tI .u8) y27.Kinds (yg16 6 1), eO 9 tS y32.Words (yg16 8 0), eO 5 (tI .u8) y32.Kinds (yg16 8 1), eO 9 tS y37.Words (yg16 9 0), eO 5 (tI .u8) y37.Kinds (yg16 9 1), eO 9 tS y42.Words (yg16 10 0), eO 5 (tI .u8) y42.Kinds (yg16 10 1), eO 9 tS y48.Words (yg16 12 0), eO 5 (tI .u8) y48.Kinds (yg16 12 1), eI (tI .u8) ([] : List Int) (.nil), eO 9 tS y54.Words (yg16 14 0), eO 5 (tI .u8) y54.Kinds (yg16 14 1), eI (tI .u8) ([] : List Int) (.nil)] _ := SH.frz1 (hS.sel [4, 0, 1, 2, 3, 5, 6, 7, 8, 9, 10, 11, 12, 13, 14, 15, 16, 17] rfl)
   replace hS : SH M X w [eI (tI .u8) y27.Kinds (yg16 6 1), eI tS y27.Words (yg16 6 0), eI (tI .u8) y22.Kinds (yg16 4 1), eI tS y22.Words (yg16 4 0), eI (tI .u8) y17.Kinds (yg16 2 1), eI tS y17.Words (yg16 2 0), eO 9 tS y32.Words (yg16 8 0), eO 5 (tI .u8) y32.Kinds (yg16 8 1), eO 9 tS y37.Words (yg16 9 0), eO 5 (tI .u8) y37.Kinds (yg16 9 1), eO 9 tS y42.Words (yg16 10 0), eO 5 (tI .u8) y42.Kinds (yg16 10 1), eO 9 tS y48.Words (yg16 12 0), eO 5 (tI .u8) y48.Kinds (yg16 12 1), eI (tI .u8) ([] : List Int) (.nil), eO 9 tS y54.Words (yg16 14 0), eO 5 (tI .u8) y54.Kinds (yg16 14 1), eI (tI .u8) ([] : List Int) (.nil)] _ := SH.frz1 (hS.sel [5, 0, 1, 2, 3, 4, 6, 7, 8, 9, 10, 11, 12, 13, 14, 15, 16, 17] rfl)
   replace hS : SH M X w [eI tS y32.Words (yg16 8 0), eI (tI .u8) y27.Kinds (yg16 6 1), eI tS y27.Words (yg16 6 0), eI (tI .u8) y22.Kinds (yg16 4 1), eI tS y22.Words (yg16 4 0), eI (tI .u8) y17.Kinds (yg16 2 1), eI tS y17.Words (yg16 2 0), eO 5 (tI .u8) y32.Kinds (yg16 8 1), eO 9 tS y37.Words (yg16 9 0), eO 5 (tI .u8) y37.Kinds (yg16 9 1), eO 9 tS y42.Words (yg16 10 0), eO 5 (tI .u8) y42.Kinds (yg16 10 1), eO 9 tS y48.Words (yg16 12 0), eO 5 (tI .u8) y48.Kinds (yg16 12 1), eI (tI .u8) ([] : List Int) (.nil), eO 9 tS y54.Words (yg16 14 0), eO 5 (tI .u8) y54.Kinds (yg16 14 1), eI (tI .u8) ([] : List Int) (.nil)] _ := SH.frz1 (hS.sel [6, 0, 1, 2, 3, 4, 5, 7, 8, 9, 10, 11, 12, 13, 14, 15, 16, 17] rfl)
   replace hS : SH M X w [eI (tI .u8) y32.Kinds (yg16 8 1), eI tS y32.Words (yg16 8 0), eI (tI .u8) y27.Kinds (yg16 6 1), eI tS y27.Words (yg16 6 0), eI (tI .u8) y22.Kinds (yg16 4 1), eI tS y22.Words (yg16 4 0), eI (tI .u8) y17.Kinds (yg16 2 1), eI tS y17.Words (yg16 2 0), eO 9 tS y37.Words (yg16 9 0), eO 5 (tI .u8) y37.Kinds (yg16 9 1), eO 9 tS y42.Words (yg16 10 0), eO 5 (tI .u8) y42.Kinds (yg16 10 1), eO 9 tS y48.Words (yg16 12 0), eO 5 (tI .u8) y48.Kinds (yg16 12 1), eI (tI .u8) ([] : List Int) (.nil), eO 9 tS y54.Words (yg16 14 0), eO 5 (tI .u8) y54.Kinds (yg16 14 1), eI (tI .u8) ([] : List Int) (.nil)] _ := SH.frz1 (hS.sel [7, 0, 1, 2, 3, 4, 5, 6, 8, 9, 10, 11, 12, 13, 14, 15, 16, 17] rfl)
   replace hS : SH M X w [eI tS y37.Words (yg16 9 0), eI (tI .u8) y32.Kinds (yg16 8 1), eI tS y32.Words (yg16 8 0), eI (tI .u8) y27.Kinds (yg16 6 1), eI tS y27.Words (yg16 6 0), eI (tI .u8) y22.Kinds (yg16 4 1), eI tS y22.Words (yg16 4 0), eI (tI .u8) y17.Kinds (yg16 2 1), eI tS y17.Words (yg16 2 0), eO 5 (tI .u8) y37.Kinds (yg16 9 1), eO 9 tS y42.Words (yg16 10 0), eO 5 (tI .u8) y42.Kinds (yg16 10 1), eO 9 tS y48.Words (yg16 12 0), eO 5 (tI .u8) y48.Kinds (yg16 12 1), eI (tI .u8) ([] : List Int) (.nil), eO 9 tS y54.Words (yg16 14 0), eO 5 (tI .u8) y54.Kinds (yg16 14 1), eI (tI .u8) ([] : List Int) (.nil)] _ := SH.frz1 (hS.sel [8, 0, 1, 2, 3, 4, 5, 6, 7, 9, 10, 11, 12, 13, 14, 15, 16, 17] rfl)
   replace hS : SH M X w [eI (tI .u8) y37.Kinds (yg16 9 1), eI tS y37.Words (yg16 9 0), eI (tI .u8) y32.Kinds (yg16 8 1), eI tS y32.Words (yg16 8 0), eI (tI .u8) y27.Kinds (yg16 6 1), eI tS y27.Words (yg16 6 0), eI (tI .u8) y22.Kinds (yg16 4 1), eI tS y22.Words (yg16 4 0), eI (tI .u8) y17.Kinds (yg16 2 1), eI tS y17.Words (yg16 2 0), eO 9 tS y42.Words (yg16 10 0), eO 5 (tI .u8) y42.Kinds (yg16 10 1), eO 9 tS y48.Words (yg16 12 0), eO 5 (tI .u8) y48.Kinds (yg16 12 1), eI (tI .u8) ([] : List Int) (.nil), eO 9 tS y54.Words (yg16 14 0), eO 5 (tI .u8) y54.Kinds (yg16 14 1), eI (tI .u8) ([] : List Int) (.nil)] _ := SH.frz1 (hS.sel [9, 0, 1, 2, 3, 4, 5, 6, 7, 8, 10, 11, 12, 13, 14, 15, 16, 17] rfl)
   replace hS : SH M X w [eI tS y42.Words (yg16 10 0), eI (tI .u8) y37.Kinds (yg16 9 1), eI tS y37.Words (yg16 9 0), eI (tI .u8) y32.Kinds (yg16 8 1), eI tS y32.Words (yg16 8 0), eI (tI .u8) y27.Kinds (yg16 6 1), eI tS y27.Words (yg16 6 0), eI (tI .u8) y22.Kinds (yg16 4 1), eI tS y22.Words (yg16 4 0), eI (tI .u8) y17.Kinds (yg16 2 1), eI tS y17.Words (yg16 2 0), eO 5 (tI .u8) y42.Kinds (yg16 10 1), eO 9 tS y48.Words (yg16 12 0), eO 5 (tI .u8) y48.Kinds (yg16 12 1), eI (tI .u8) ([] : List Int) (.nil), eO 9 tS y54.Words (yg16 14 0), eO 5 (tI .u8) y54.Kinds (yg16 14 1), eI (tI .u8) ([] : List Int) (.nil)] _ := SH.frz1 (hS.sel [10, 0, 1, 2, 3, 4, 5, 6, 7, 8, 9, 11, 12, 13, 14, 15, 16, 17] rfl)
   replace hS : SH M X w [eI (tI .u8) y42.Kinds (yg16 10 1), eI tS y42.Words (yg16 10 0), eI (tI .u8) y37.Kinds (yg16 9 1), eI tS y37.Words (yg16 9 0), eI (tI .u8) y32.Kinds (yg16 8 1), eI tS y32.Words (yg16 8 0), eI (tI .u8) y27.Kinds (yg16 6 1), eI tS y27.Words (yg16 6 0), eI (tI .u8) y22.Kinds (yg16 4 1), eI tS y22.Words (yg16 4 0), eI (tI .u8) y17.Kinds (yg16 2 1), eI tS y17.Words (yg16 2 0), eO 9 tS y48.Words (yg16 12 0), eO 5 (tI .u8) y48.Kinds (yg16 12 1), eI (tI .u8) ([] : List Int) (.nil), eO 9 tS y54.Words (yg16 14 0), eO 5 (tI .u8) y54.Kinds (yg16 14 1), eI (tI .u8) ([] : List Int) (.nil)] _ := SH.frz1 (hS.sel [11, 0, 1, 2, 3, 4, 5, 6, 7, 8, 9, 10, 12, 13, 14, 15, 16, 17] rfl)
   replace hS : SH M X w [eI tS y48.Words (yg16 12 0), eI (tI .u8) y42.Kinds (yg16 10 1), eI tS y42.Words (yg16 10 0), eI (tI .u8) y37.Kinds (yg16 9 1), eI tS y37.Words (yg16 9 0), eI (tI .u8) y32.Kinds (yg16 8 1), eI tS y32.Words (yg16 8 0), eI (tI .u8) y27.Kinds (yg16 6 1), eI tS y27.Words (yg16 6 0), eI (tI .u8) y22.Kinds (yg16 4 1), eI tS y22.Words (yg16 4 0), eI (tI .u8) y17.Kinds (yg16 2 1), eI tS y17.Words (yg16 2 0), eO 5 (tI .u8) y48.Kinds (yg16 12 1), eI (tI .u8) ([] : List Int) (.nil), eO 9 tS y54.Words (yg16 14 0), eO 5 (tI .u8) y54.Kinds (yg16 14 1), eI (tI .u8) ([] : List Int) (.nil)] _ := SH.frz1 (hS.sel [12, 0, 1, 2, 3, 4, 5, 6, 7, 8, 9, 10, 11, 13, 14, 15, 16, 17] rfl)
   replace hS : SH M X w [eI (tI .u8) y48.Kinds (yg16 12 1), eI tS y48.Words (yg16 12 0), eI (tI .u8) y42.Kinds (yg16 10 1), eI tS y42.Words (yg16 10 0), eI (tI .u8) y37.Kinds (yg16 9 1), eI tS y37.Words (yg16 9 0), eI (tI .u8) y32.Kinds (yg16 8 1), eI tS y32.Words (yg16 8 0), eI (tI .u8) y27.Kinds (yg16 6 1), eI tS y27.Words (yg16 6 0), eI (tI .u8) y22.Kinds (yg16 4 1), eI tS y22.Words (yg16 4 0), eI (tI .u8) y17.Kinds (yg16 2 1), eI tS y17.Words (yg16 2 0), eI (tI .u8) ([] : List Int) (.nil), eO 9 tS y54.Words (yg16 14 0), eO 5 (tI .u8) y54.Kinds (yg16 14 1), eI (tI .u8) ([] : List Int) (.nil)] _ := SH.frz1 (hS.sel [13, 0, 1, 2, 3, 4, 5, 6, 7, 8, 9, 10, 11, 12, 14, 15, 16, 17] rfl)
   replace hS : SH M X w [eI tS y54.Words (yg16 14 0), eI (tI .u8) y48.Kinds (yg16 12 1), eI tS y48.Words (yg16 12 0), eI (tI .u8) y42.Kinds (yg16 10 1), eI tS y42.Words (yg16 10 0), eI (tI .u8) y37.Kinds (yg16 9 1), eI tS y37.Words (yg16 9 0), eI (tI .u8) y32.Kinds (yg16 8 1), eI tS y32.Words (yg16 8 0), eI (tI .u8) y27.Kinds (yg16 6 1), eI tS y27.Words (yg16 6 0), eI (tI .u8) y22.Kinds (yg16 4 1), eI tS y22.Words (yg16 4 0), eI (tI .u8) y17.Kinds (yg16 2 1), eI tS y17.Words (yg16 2 0), eI (tI .u8) ([] : List Int) (.nil), eO 5 (tI .u8) y54.Kinds (yg16 14 1), eI (tI .u8) ([] : List Int) (.nil)] _ := SH.frz1 (hS.sel [15, 0, 1, 2, 3, 4, 5, 6, 7, 8, 9, 10, 11, 12, 13, 14, 16, 17] rfl)
   replace hS : SH M X w [eI (tI .u8) y54.Kinds (yg16 14 1), eI tS y54.Words (yg16 14 0), eI (tI .u8) y48.Kinds (yg16 12 1), eI tS y48.Words (yg16 12 0), eI (tI .u8) y42.Kinds (yg16 10 1), eI tS y42.Words (yg16 10 0), eI (tI .u8) y37.Kinds (yg16 9 1), eI tS y37.Words (yg16 9 0), eI (tI .u8) y32.Kinds (yg16 8 1), eI tS y32.Words (yg16 8 0), eI (tI .u8) y27.Kinds (yg16 6 1), eI tS y27.Words (yg16 6 0), eI (tI .u8) y22.Kinds (yg16 4 1), eI tS y22.Words (yg16 4 0), eI (tI .u8) y17.Kinds (yg16 2 1), eI tS y17.Words (yg16 2 0), eI (tI .u8) ([] : List Int) (.nil), eI (tI .u8) ([] : List Int) (.nil)] _ := SH.frz1 (hS.sel [16, 0, 1, 2, 3, 4, 5, 6, 7, 8, 9, 10, 11, 12, 13, 14, 15, 17] rfl)
   have hd := hS.hand [15, 14, 13, 12, 11, 10, 9, 8, 7, 6, 5, 4, 3, 2, 1, 0] [0, 1, 2, 3, 4, 5, 6, 7, 8, 9, 10, 11, 12, 13, 14, 15, 16, 17] rfl rfl
   refine Stp.mono (o_lit (T := tyProp) (E := 82) (zv := vG [vN, vF, vU 0, vN, vI 0, vU 0, vU 0, vU 0, vU 0, vO, vO, vF]) [vS y17.Name, vB y17.Inherited, vU y17.Initial.Kind, vS y17.Initial.Word, vI y17.Initial.Num, vU y17.Initial.Color.Red, vU y17.Initial.Color.Green, vU y17.Initial.Color.Blue, vU y17.Initial.Color.Alpha, .slice (yg16 2 0).a y17.Words.length (yg16 2 0).c, .slice (yg16 2 1).a y17.Kinds.length (yg16 2 1).c, vB y17.Least, vS y22.Name, vB y22.Inherited, vU y22.Initial.Kind, vS y22.Initial.Word, vI y22.Initial.Num, vU y22.Initial.Color.Red, vU y22.Initial.Color.Green, vU y22.Initial.Color.Blue, vU y22.Initial.Color.Alpha, .slice (yg16 4 0).a y22.Words.length (yg16 4 0).c, .slice (yg16 4 1).a y22.Kinds.length (yg16 4 1).c, vB y22.Least, vS y27.Name, vB y27.Inherited, vU y27.Initial.Kind, vS y27.Initial.Word, vI y27.Initial.Num, vU y27.Initial.Color.Red, vU y27.Initial.Color.Green, vU y27.Initial.Color.Blue, vU y27.Initial.Color.Alpha, .slice (yg16 6 0).a y27.Words.length (yg16 6 0).c, .slice (yg16 6 1).a y27.Kinds.length (yg16 6 1).c, vB y27.Least, vS y32.Name, vB y32.Inherited, vU y32.Initial.Kind, vS y32.Initial.Word, vI y32.Initial.Num, vU y32.Initial.Color.Red, vU y32.Initial.Color.Green, vU y32.Initial.Color.Blue, vU y32.Initial.Color.Alpha, .slice (yg16 8 0).a y32.Words.length (yg16 8 0).c, .slice (yg16 8 1).a y32.Kinds.length (yg16 8 1).c, vB y32.Least, vS y37.Name, vB y37.Inherited, vU y37.Initial.Kind, vS y37.Initial.Word, vI y37.Initial.Num, vU y37.Initial.Color.Red, vU y37.Initial.Color.Green, vU y37.Initial.Color.Blue, vU y37.Initial.Color.Alpha, .slice (yg16 9 0).a y37.Words.length (yg16 9 0).c, .slice (yg16 9 1).a y37.Kinds.length (yg16 9 1).c, vB y37.Least, vS y42.Name, vB y42.Inherited, vU y42.Initial.Kind, vS y42.Initial.Word, vI y42.Initial.Num, vU y42.Initial.Color.Red, vU y42.Initial.Color.Green, vU y42.Initial.Color.Blue, vU y42.Initial.Color.Alpha, .slice (yg16 10 0).a y42.Words.length (yg16 10 0).c, .slice (yg16 10 1).a y42.Kinds.length (yg16 10 1).c, vB y42.Least, vS y48.Name, vB y48.Inherited, vU y48.Initial.Kind, vS y48.Initial.Word, vI y48.Initial.Num, vU y48.Initial.Color.Red, vU y48.Initial.Color.Green, vU y48.Initial.Color.Blue, vU y48.Initial.Color.Alpha, .slice (yg16 12 0).a y48.Words.length (yg16 12 0).c, .slice (yg16 12 1).a y48.Kinds.length (yg16 12 1).c, vB y48.Least, vS y54.Name, vB y54.Inherited, vU y54.Initial.Kind, vS y54.Initial.Word, vI y54.Initial.Num, vU y54.Initial.Color.Red, vU y54.Initial.Color.Green, vU y54.Initial.Color.Blue, vU y54.Initial.Color.Alpha, .slice (yg16 14 0).a y54.Words.length (yg16 14 0).c, .slice (yg16 14 1).a y54.Kinds.length (yg16 14 1).c, vB y54.Least] ([y17, y22, y27, y32, y37, y42, y48, y54] : List TProp) [gL [(yg16 2 0), (yg16 2 1)], gL [(yg16 4 0), (yg16 4 1)], gL [(yg16 6 0), (yg16 6 1)], gL [(yg16 8 0), (yg16 8 1)], gL [(yg16 9 0), (yg16 9 1)], gL [(yg16 10 0), (yg16 10 1)], gL [(yg16 12 0), (yg16 12 1)], gL [(yg16 14 0), (yg16 14 1)]] _ H hd rfl (by kernel_rfl) (by kernel_rfl) (by kernel_rfl) (by kernel_rfl) (by kernel_rfl) (by kernel_rfl) (by kernel_rfl) rfl (InnL.cons (tyProp_mk (hd.im 0 rfl) (hd.im 1 rfl)) (InnL.cons (tyProp_mk (hd.im 2 rfl) (hd.im 3 rfl)) (InnL.cons (tyProp_mk (hd.im 4 rfl) (hd.im 5 rfl)) (InnL.cons (tyProp_mk (hd.im 6 rfl) (hd.im 7 rfl)) (InnL.cons (tyProp_mk (hd.im 8 rfl) (hd.im 9 rfl)) (InnL.cons (tyProp_mk (hd.im 10 rfl) (hd.im 11 rfl)) (InnL.cons (tyProp_mk (hd.im 12 rfl) (hd.im 13 rfl)) (InnL.cons (tyProp_mk (hd.im 14 rfl) (hd.im 15 rfl)) InnL.nil))))))))) ?_
   rintro v w2 hq
   obtain ⟨g59, rfl, hq⟩ := hq
   replace hS : SH M X w [eO 82 tyProp ([y17, y22, y27, y32, y37, y42, y48, y54] : List TProp) g59, eI (tI .u8) y54.Kinds (yg16 14 1), eI tS y54.Words (yg16 14 0), eI (tI .u8) y48.Kinds (yg16 12 1), eI tS y48.Words (yg16 12 0), eI (tI .u8) y42.Kinds (yg16 10 1), eI tS y42.Words (yg16 10 0), eI (tI .u8) y37.Kinds (yg16 9 1), eI tS y37.Words (yg16 9 0), eI (tI .u8) y32.Kinds (yg16 8 1), eI tS y32.Words (yg16 8 0), eI (tI .u8) y27.Kinds (yg16 6 1), eI tS y27.Words (yg16 6 0), eI (tI .u8) y22.Kinds (yg16 4 1), eI tS y22.Words (yg16 4 0), eI (tI .u8) y17.Kinds (yg16 2 1), eI tS y17.Words (yg16 2 0), eI (tI .u8) ([] : List Int) (.nil), eI (tI .u8) ([] : List Int) (.nil)] _ := hS.join [15, 14, 13, 12, 11, 10, 9, 8, 7, 6, 5, 4, 3, 2, 1, 0] [0, 1, 2, 3, 4, 5, 6, 7, 8, 9, 10, 11, 12, 13, 14, 15, 16, 17] rfl rfl hq
   clear hq
   rw [hX] at hS
   exact ⟨gL [g59], fun _ _ => rfl, hS.sel [0, 1, 2, 3, 4, 5, 6, 7, 8, 9, 10, 11, 12, 13, 14, 15, 16, 17, 18] rfl⟩
  ·intro o ho a w yg16 M Hb hv hO hS
   obtain rfl := someE ho
   exact Stp.mono (o_evs [] (vK (yg16 15 0) 8) none [] ((Hb).add (hv 15 (by decide) (by decide) 23 rfl)) rfl (by kernel_rfl) (fun q e => by cases e)) fun _ _ hq => ⟨gL [], fun _ _ => hq.1, (hS.below hq.2.below).sel [0, 1, 2, 3, 4, 5, 6, 7, 8, 9, 10, 11, 12, 13, 14, 15, 16, 17, 18] rfl⟩
 have H63 : Fr 57 (fS [3, 1, 2] [vK (yg16 15 0) 8, vP b6, vP b9]) _ := (FrG.add (FrG.keep (ks := [1, 2]) H62 (by kernel_rfl)) (hv 16 3 rfl))
 replace hS : SH M X w [eO 82 tyProp ([y17, y22, y27, y32, y37, y42, y48, y54] : List TProp) (yg16 15 0), eI (tI .u8) y54.Kinds (yg16 14 1), eI tS y54.Words (yg16 14 0), eI (tI .u8) y48.Kinds (yg16 12 1), eI tS y48.Words (yg16 12 0), eI (tI .u8) y42.Kinds (yg16 10 1), eI tS y42.Words (yg16 10 0), eI (tI .u8) y37.Kinds (yg16 9 1), eI tS y37.Words (yg16 9 0), eI (tI .u8) y32.Kinds (yg16 8 1), eI tS y32.Words (yg16 8 0), eI (tI .u8) y27.Kinds (yg16 6 1), eI tS y27.Words (yg16 6 0), eI (tI .u8) y22.Kinds (yg16 4 1), eI tS y22.Words (yg16 4 0), eI (tI .u8) y17.Kinds (yg16 2 1), eI tS y17.Words (yg16 2 0), eI (tI .u8) ([] : List Int) (.nil), eI (tI .u8) ([] : List Int) (.nil), eB b9 [vU 2, vN, vI 0, vU 0, vU 0, vU 0, vU 0], eB b6 (cV y3), gE1] _ := hS
 clear hv H62
 generalize yg16 15 0 = g64 at H63 hS
 generalize yg16 14 1 = g65 at H63 hS
 generalize yg16 14 0 = g66 at H63 hS
 generalize yg16 12 1 = g67 at H63 hS
 generalize yg16 12 0 = g68 at H63 hS
 generalize yg16 10 1 = g69 at H63 hS
 generalize yg16 10 0 = g70 at H63 hS
 generalize yg16 9 1 = g71 at H63 hS
 generalize yg16 9 0 = g72 at H63 hS
 generalize yg16 8 1 = g73 at H63 hS
 generalize yg16 8 0 = g74 at H63 hS
 generalize yg16 6 1 = g75 at H63 hS
 generalize yg16 6 0 = g76 at H63 hS
 generalize yg16 4 1 = g77 at H63 hS
 generalize yg16 4 0 = g78 at H63 hS
 generalize yg16 2 1 = g79 at H63 hS
 generalize yg16 2 0 = g80 at H63 hS
 replace hS : SH M X w [eO 82 tyProp ([y17, y22, y27, y32, y37, y42, y48, y54] : List TProp) g64, eB b9 [vU 2, vN, vI 0, vU 0, vU 0, vU 0, vU 0], eB b6 (cV y3), gE1] _ := hS.sel [0, 19, 20, 21] rfl
 obtain ⟨z81, hz, hm⟩ := bindE hm
 refine w_cut (fun a' w' => ∃ (g123 : Gh), Fr 57 (fS [1, 3] [vP b6, vL g123 z81]) a' ∧ SH M X w [eO 82 tyProp z81 g123, eB b9 [vU 2, vN, vI 0, vU 0, vU 0, vU 0, vU 0], eB b6 (cV y3), gE1] w') ?_ ?_
 ·replace hm := hz
  apply w_seq
  apply wl_start
  have hd := hS.hand [] [0, 1, 2, 3] rfl rfl
  refine m_stp [24, 1, 2, 3] (fS [1, 2, 3] [vP b6, vP b9, vK g64 8]) H63 rfl rfl rfl rfl (o_lit (T := tS) (E := 9) (zv := vN) [vS [116, 111, 112], vS [114, 105, 103, 104, 116], vS [98, 111, 116, 116, 111, 109], vS [108, 101, 102, 116]] kL1 [gL [], gL [], gL [], gL []] _ H63 hd rfl (by kernel_rfl) (by kernel_rfl) (by kernel_rfl) (by kernel_rfl) (by kernel_rfl) (by kernel_rfl) (by kernel_rfl) rfl (InnL.cons trivial (InnL.cons trivial (InnL.cons trivial (InnL.cons trivial InnL.nil))))) (fun _ => rfl) fun _ _ v H85 hq => ?_
  clear H63 hd
  obtain ⟨g82, rfl, hq⟩ := hq
  replace hS : SH M X w [eO 9 tS kL1 g82, eO 82 tyProp ([y17, y22, y27, y32, y37, y42, y48, y54] : List TProp) g64, eB b9 [vU 2, vN, vI 0, vU 0, vU 0, vU 0, vU 0], eB b6 (cV y3), gE1] _ := hS.join [] [0, 1, 2, 3] rfl rfl hq
  clear hq
  refine wl_batch 1 3 [] [1, 2, 3, 24, 25, 26] (fS [1, 2, 3, 24, 25, 26] [vP b6, vP b9, vK g64 8, vK g82 4, vI 4, vI 0]) [] H85 (by decide) (by kernel_rfl) trivial fun _ _ H87 hb => ?_
  replace hS := hS.below hb
  clear H85 hb
  apply wl_end rfl
  apply w_block
  refine w_loop (fun kk a' w' => ∃ (v88 : List TProp) (v90 : Int) (g89 : Gh), props_Table_L1 m  kk v88 v90 = some _ ∧ Fr 57 (fS [1, 2, 24, 25, 3, 26] [vP b6, vP b9, vK g82 4, vI 4, vL g89 v88, vI v90]) a' ∧ SH M X w [eO 9 tS kL1 g82, eO 82 tyProp v88 g89, eB b9 [vU 2, vN, vI 0, vU 0, vU 0, vU 0, vU 0], eB b6 (cV y3), gE1] w') ⟨_, ([y17, y22, y27, y32, y37, y42, y48, y54] : List TProp), 0, g64, hm, FrG.keep (ks := [1, 2, 24, 25, 3, 26]) H87 (by kernel_rfl), hS⟩ ?_
  clear hm H87 hS
  rintro kk _ _ ⟨v88, v90, g89, hm, H, hS⟩
  cases kk with
  | zero => exact noneE hm
  | succ kk =>
   rw [props_Table_L1] at hm
   refine s_reg [] [1, 2, 3, 24, 25, 26, 27] (fS [1, 2, 3, 24, 25, 26, 27] [vP b6, vP b9, vL g89 v88, vK g82 4, vI 4, vI v90, vB (decide (v90 < 4))]) [] H (by kernel_rfl) trivial fun _ _ H92 hb => ?_
   replace hS := hS.below hb
   clear H hb
   apply w_seq
   refine w_if H92 rfl (fun hc => ?_) (fun hc => ?c121)
   case c121 =>
    replace hm := bF hc hm
    apply w_exit rfl
    obtain rfl := someE hm
    replace hS : SH M X w [eO 82 tyProp v88 g89, eB b9 [vU 2, vN, vI 0, vU 0, vU 0, vU 0, vU 0], eB b6 (cV y3), gE1] _ := hS.sel [1, 2, 3, 4] rfl
    exact ⟨g89, FrG.keep (ks := [1, 3]) H92 (by kernel_rfl), hS⟩
   replace hm := bT hc hm
   apply w_skip
   apply w_seq
   apply w_block
   obtain ⟨ho93, hm⟩ := chkE hm
   obtain ⟨x94, hx94, hm⟩ := letE hm
   refine s_reg [(vS (gi kL1 v90))] [1, 2, 3, 5, 24, 25, 26] (fS [1, 2, 3, 5, 24, 25, 26] [vP b6, vP b9, vL g89 v88, vS x94, vK g82 4, vI 4, vI v90]) [fun _ => oka g82.a ∧ 0 ≤ v90 ∧ v90 < ln kL1, fun wz => V.at1 ⟨ab g82.a, ao g82.a + (v90).toNat * 1, none⟩ (vS (gi kL1 v90)) wz] H92 (by subst hx94; kernel_rfl) ⟨((hS.osl 0 rfl).oki ho93), ((hS.osl 0 rfl).at1 ho93 0 rfl), trivial⟩ fun _ _ H96 hb => ?_
   replace hS := hS.below hb
   clear H92 hb
   apply wl_start
   obtain ⟨ho97, hm⟩ := chkE hm
   refine wl_batch 0 4 [(vG [vU 2, vN, vI 0, vU 0, vU 0, vU 0, vU 0])] [1, 2, 24, 25, 26, 30, 32, 33] (fS [1, 2, 24, 25, 26, 30, 32, 33] [vP b6, vP b9, vK g82 4, vI 4, vI v90, vL g89 v88, vS ([109, 97, 114, 103, 105, 110, 45] ++ x94), vG [vU 2, vN, vI 0, vU 0, vU 0, vU 0, vU 0]]) [fun _ => ln [109, 97, 114, 103, 105, 110, 45] + ln x94 ≤ 9223372036854775807, rN b9 0 [vU 2, vN, vI 0, vU 0, vU 0, vU 0, vU 0]] H96 (by decide) (by kernel_rfl) ⟨ho97, ((hS.bk 2 rfl).atD rfl), trivial⟩ fun _ _ H99 hb => ?_
   replace hS := hS.below hb
   clear H96 hb
   replace hS : SH M X w [eO 5 (tI .u8) ([] : List Int) (.nil), eO 9 tS kL1 g82, eO 82 tyProp v88 g89, eB b9 [vU 2, vN, vI 0, vU 0, vU 0, vU 0, vU 0], eB b6 (cV y3), gE1] _ := hS.addNil 5 (tI .u8)
   replace hS : SH M X w [eI (tI .u8) ([] : List Int) (.nil), eO 9 tS kL1 g82, eO 82 tyProp v88 g89, eB b9 [vU 2, vN, vI 0, vU 0, vU 0, vU 0, vU 0], eB b6 (cV y3), gE1] _ := SH.frz1 (hS.sel [0, 1, 2, 3, 4, 5] rfl)
   obtain ⟨y101, hy101, hm⟩ := bindE hm
   have hd := hS.hand [0, 5] [0, 1, 2, 3, 4, 5] rfl rfl
   refine m_stp [34, 1, 2, 24, 25, 26, 30] (fS [1, 2, 24, 25, 26, 30] [vP b6, vP b9, vK g82 4, vI 4, vI v90, vL g89 v88]) H99 rfl rfl rfl rfl (o_callx H99 rfl rfl (props_length_ok (g_more := Gh.nil) m _ _ _ _ _ _ _ hy101 _ _ hd)) (fun _ => rfl) fun _ _ v H107 hq => ?_
   clear H99 hd
   obtain ⟨g102, g104, rfl, hq⟩ := hq
   replace hS : SH M X w [eO 9 tS y101.Words g102, eO 5 (tI .u8) y101.Kinds g104, eI (tI .u8) ([] : List Int) (.nil), eO 9 tS kL1 g82, eO 82 tyProp v88 g89, eB b9 [vU 2, vN, vI 0, vU 0, vU 0, vU 0, vU 0], eB b6 (cV y3), gE1] _ := hS.join [0, 5] [0, 1, 2, 3, 4, 5] rfl rfl hq
   clear hq
   replace hS : SH M X w [eI tS y101.Words g102, eO 5 (tI .u8) y101.Kinds g104, eI (tI .u8) ([] : List Int) (.nil), eO 9 tS kL1 g82, eO 82 tyProp v88 g89, eB b9 [vU 2, vN, vI 0, vU 0, vU 0, vU 0, vU 0], eB b6 (cV y3), gE1] _ := SH.frz1 (hS.sel [0, 1, 2, 3, 4, 5, 6, 7] rfl)
   replace hS : SH M X w [eI (tI .u8) y101.Kinds g104, eI tS y101.Words g102, eI (tI .u8) ([] : List Int) (.nil), eO 9 tS kL1 g82, eO 82 tyProp v88 g89, eB b9 [vU 2, vN, vI 0, vU 0, vU 0, vU 0, vU 0], eB b6 (cV y3), gE1] _ := SH.frz1 (hS.sel [1, 0, 2, 3, 4, 5, 6, 7] rfl)
   have hd := hS.hand [1, 0] [0, 1, 2, 3, 4, 5, 6, 7] rfl rfl
   refine m_stp [35, 1, 2, 24, 25, 26, 30] (fS [1, 2, 24, 25, 26, 30] [vP b6, vP b9, vK g82 4, vI 4, vI v90, vL g89 v88]) H107 rfl rfl rfl rfl (o_lit (T := tyProp) (E := 82) (zv := vG [vN, vF, vU 0, vN, vI 0, vU 0, vU 0, vU 0, vU 0, vO, vO, vF]) [vS y101.Name, vB y101.Inherited, vU y101.Initial.Kind, vS y101.Initial.Word, vI y101.Initial.Num, vU y101.Initial.Color.Red, vU y101.Initial.Color.Green, vU y101.Initial.Color.Blue, vU y101.Initial.Color.Alpha, vL g102 y101.Words, vL g104 y101.Kinds, vB y101.Least] ([y101] : List TProp) [gL [g102, g104]] _ H107 hd rfl (by kernel_rfl) (by kernel_rfl) (by kernel_rfl) (by kernel_rfl) (by kernel_rfl) (by kernel_rfl) (by kernel_rfl) rfl (InnL.cons (tyProp_mk (hd.im 0 rfl) (hd.im 1 rfl)) InnL.nil)) (fun _ => rfl) fun _ _ v H111 hq => ?_
   clear H107 hd
   obtain ⟨g108, rfl, hq⟩ := hq
   replace hS : SH M X w [eO 82 tyProp ([y101] : List TProp) g108, eI (tI .u8) y101.Kinds g104, eI tS y101.Words g102, eI (tI .u8) ([] : List Int) (.nil), eO 9 tS kL1 g82, eO 82 tyProp v88 g89, eB b9 [vU 2, vN, vI 0, vU 0, vU 0, vU 0, vU 0], eB b6 (cV y3), gE1] _ := hS.join [1, 0] [0, 1, 2, 3, 4, 5, 6, 7] rfl rfl hq
   clear hq
   obtain ⟨ho112, hm⟩ := chkE hm
   obtain ⟨q113, hq113, hm⟩ := letE hm
   have hd := hS.hand [5, 0] [1, 2, 3, 4, 6, 7, 8] rfl rfl
   refine m_stp [36, 1, 2, 24, 25, 26] (fS [1, 2, 24, 25, 26] [vP b6, vP b9, vK g82 4, vI 4, vI v90]) H111 rfl rfl rfl rfl (o_app2 (T := tyProp) (zv := vG [vN, vF, vU 0, vN, vI 0, vU 0, vU 0, vU 0, vU 0, vO, vO, vF]) (g1 := g89) (g2 := g108) (l1 := v88) (l2 := ([y101] : List TProp)) q113 hq113.symm H111 hd rfl rfl rfl rfl rfl rfl rfl (by kernel_rfl) (by kernel_rfl) rfl rfl ho112) (fun _ => rfl) fun _ _ v H115 hq => ?_
   clear H111 hd
   obtain ⟨g116, rfl, hq⟩ := hq
   replace hS : SH M X w [eO 82 tyProp q113 g116, eO 82 tyProp ([y101] : List TProp) g108, eI (tI .u8) y101.Kinds g104, eI tS y101.Words g102, eI (tI .u8) ([] : List Int) (.nil), eO 9 tS kL1 g82, eB b9 [vU 2, vN, vI 0, vU 0, vU 0, vU 0, vU 0], eB b6 (cV y3), gE1] _ := hS.join [5, 0] [1, 2, 3, 4, 6, 7, 8] rfl rfl hq
   clear hq
   refine wl_batch 7 8 [] [1, 2, 3, 24, 25, 26] (fS [1, 2, 3, 24, 25, 26] [vP b6, vP b9, vL g116 q113, vK g82 4, vI 4, vI v90]) [] H115 (by decide) (by kernel_rfl) trivial fun _ _ H118 hb => ?_
   replace hS := hS.below hb
   clear H115 hb
   apply wl_end rfl
   replace hS : SH M X w [eO 82 tyProp q113 g116, eO 9 tS kL1 g82, eB b9 [vU 2, vN, vI 0, vU 0, vU 0, vU 0, vU 0], eB b6 (cV y3), gE1] _ := hS.sel [0, 5, 6, 7, 8] rfl
   refine w_reg [] [1, 2, 3, 24, 25, 26] (fS [1, 2, 3, 24, 25, 26] [vP b6, vP b9, vL g116 q113, vK g82 4, vI 4, vI (w64 (v90 + 1))]) [] H118 (by kernel_rfl) trivial fun _ _ H120 hb => ?_
   replace hS := hS.below hb
   clear H118 hb
   replace hS : SH M X w [eO 9 tS kL1 g82, eO 82 tyProp q113 g116, eB b9 [vU 2, vN, vI 0, vU 0, vU 0, vU 0, vU 0], eB b6 (cV y3), gE1] _ := hS.sel [1, 0, 2, 3, 4] rfl
   exact ⟨_, Nat.lt_succ_self _, q113, w64 (v90 + 1), g116, hm, FrG.keep (ks := [1, 2, 24, 25, 3, 26]) H120 (by kernel_rfl), hS⟩
 ·rintro _ _ ⟨g123, H, hS⟩
  replace hS : SH M X w [eO 82 tyProp z81 g123, eB b6 (cV y3), gE1] _ := hS.sel [0, 2, 3] rfl
  obtain ⟨y126, hy126, hm⟩ := bindE hm
  obtain ⟨y131, hy131, hm⟩ := letE hm
  obtain ⟨y134, hy134, hm⟩ := bindE hm
  obtain ⟨y139, hy139, hm⟩ := bindE hm
  obtain ⟨ho154, hm⟩ := chkE hm
  obtain ⟨q155, hq155, hm⟩ := letE hm
  refine s_drawS (base := (fS [1, 3] [vP b6, vL g123 z81])) (L := [eO 82 tyProp z81 g123, eB b6 (cV y3), gE1]) 20 3 (fun yg124 => [vL g123 z81, vG [vU 2, vN, vI 16000, vU 0, vU 0, vU 0, vU 0], vG [vS y126.Name, vB y126.Inherited, vU y126.Initial.Kind, vS y126.Initial.Word, vI y126.Initial.Num, vU y126.Initial.Color.Red, vU y126.Initial.Color.Green, vU y126.Initial.Color.Blue, vU y126.Initial.Color.Alpha, .slice (yg124 2 0).a y126.Words.length (yg124 2 0).c, .slice (yg124 2 1).a y126.Kinds.length (yg124 2 1).c, vB y126.Least], vG (cV y131), vK (yg124 4 0) 1, vG [vS y134.Name, vB y134.Inherited, vU y134.Initial.Kind, vS y134.Initial.Word, vI y134.Initial.Num, vU y134.Initial.Color.Red, vU y134.Initial.Color.Green, vU y134.Initial.Color.Blue, vU y134.Initial.Color.Alpha, .slice (yg124 5 0).a y134.Words.length (yg124 5 0).c, .slice (yg124 5 1).a y134.Kinds.length (yg124 5 1).c, vB y134.Least], vG [vS y139.Name, vB y139.Inherited, vU y139.Initial.Kind, vS y139.Initial.Word, vI y139.Initial.Num, vU y139.Initial.Color.Red, vU y139.Initial.Color.Green, vU y139.Initial.Color.Blue, vU y139.Initial.Color.Alpha, .slice (yg124 6 0).a y139.Words.length (yg124 6 0).c, .slice (yg124 6 1).a y139.Kinds.length (yg124 6 1).c, vB y139.Least], vG [vU 5, vN, vI 1000, vU 0, vU 0, vU 0, vU 0], vK (yg124 8 0) 1, vG [vS [111, 112, 97, 99, 105, 116, 121], vF, vU 5, vN, vI 1000, vU 0, vU 0, vU 0, vU 0, vO, vK (yg124 8 0) 1, vF], vG (cV y3), vK (yg124 11 0) 1, vK (yg124 12 0) 1, vG [vS [122, 45, 105, 110, 100, 101, 120], vF, vU y3.Kind, vS y3.Word, vI y3.Num, vU y3.Color.Red, vU y3.Color.Green, vU y3.Color.Blue, vU y3.Color.Alpha, vK (yg124 11 0) 1, vK (yg124 12 0) 1, vF], vG [vU 6, vN, vI 0, vU 0, vU 0, vU 0, vU 0], vK (yg124 15 0) 1, vG [vS [111, 114, 100, 101, 114], vF, vU 6, vN, vI 0, vU 0, vU 0, vU 0, vU 0, vO, vK (yg124 15 0) 1, vF], vK (yg124 17 0) 6, .slice (yg124 18 0).a q155.length (yg124 18 0).c, .slice (yg124 18 0).a q155.length (yg124 18 0).c]) (fun yg124 => [[], [], [eO 9 tS y126.Words (yg124 2 0), eO 5 (tI .u8) y126.Kinds (yg124 2 1), eI (tI .u8) ([] : List Int) (.nil)], [], [eO 5 (tI .u8) ([5] : List Int) (yg124 4 0)], [eO 9 tS y134.Words (yg124 5 0), eO 5 (tI .u8) y134.Kinds (yg124 5 1), eI (tI .u8) ([5] : List Int) (yg124 4 0)], [eO 9 tS y139.Words (yg124 6 0), eO 5 (tI .u8) y139.Kinds (yg124 6 1)], [], [eO 5 (tI .u8) ([5] : List Int) (yg124 8 0)], [], [], [eO 9 tS kL0 (yg124 11 0)], [eO 5 (tI .u8) ([6] : List Int) (yg124 12 0)], [], [], [eO 5 (tI .u8) ([6] : List Int) (yg124 15 0)], [], [eO 82 tyProp ([y126, y134, y139, (TProp.mk [111, 112, 97, 99, 105, 116, 121] false (TVal.mk 5 [] 1000 (TColor.mk 0 0 0 0)) [] ([5] : List Int) false), (TProp.mk [122, 45, 105, 110, 100, 101, 120] false y3 kL0 ([6] : List Int) false), (TProp.mk [111, 114, 100, 101, 114] false (TVal.mk 6 [] 0 (TColor.mk 0 0 0 0)) [] ([6] : List Int) false)] : List TProp) (yg124 17 0), eI (tI .u8) ([6] : List Int) (yg124 15 0), eI (tI .u8) ([6] : List Int) (yg124 12 0), eI tS kL0 (yg124 11 0), eI (tI .u8) ([5] : List Int) (yg124 8 0), eI (tI .u8) y139.Kinds (yg124 6 1), eI tS y139.Words (yg124 6 0), eI (tI .u8) y134.Kinds (yg124 5 1), eI tS y134.Words (yg124 5 0), eI (tI .u8) y126.Kinds (yg124 2 1), eI tS y126.Words (yg124 2 0), eI (tI .u8) ([] : List Int) (.nil), eI (tI .u8) ([5] : List Int) (yg124 4 0)], [eO 82 tyProp q155 (yg124 18 0)], []]) [[], [], [22], [], [], [4, 22], [22], [], [], [8], [21], [], [], [11, 12], [], [], [15], [2, 5, 6, 8, 11, 12, 15], [17, 20], [18]] [[], [], [], [], [], [4], [], [], [], [], [], [], [], [], [], [], [], [2, 5, 6, 8, 11, 12, 15], [20], []] [[0], [1], [1, 2], [3], [4], [3, 4, 5], [6], [7], [8], [7, 8, 9], [10], [11], [12], [10, 11, 12, 13], [14], [15], [14, 15, 16], [1, 2, 3, 4, 5, 6, 7, 8, 9, 10, 11, 12, 13, 14, 15, 16, 17], [0, 1, 2, 3, 4, 5, 6, 7, 8, 9, 10, 11, 12, 13, 14, 15, 16, 17, 18], [0, 1, 2, 3, 4, 5, 6, 7, 8, 9, 10, 11, 12, 13, 14, 15, 16, 17, 18, 19]] [] (FrG.keep (ks := [1, 3]) H (by kernel_rfl)) (fun _ _ h => by cases h) (by kernel_rfl) hS (by kernel_rfl) rfl rfl (by kernel_rfl) (by kernel_rfl) (by kernel_rfl) (gd_none (by kernel_rfl) _ _) ?hloc_yg124 ?hstep_yg124 fun _ _ yg124 H158 hv hS => ?hK_yg124
  case hloc_yg124 => exact ⟨(fun _ _ _ _ => ⟨rfl, rfl⟩), (fun _ _ _ _ => ⟨rfl, rfl⟩), (fun _ i g hi => lcG [2] (fun yg124 => (vG [vS y126.Name, vB y126.Inherited, vU y126.Initial.Kind, vS y126.Initial.Word, vI y126.Initial.Num, vU y126.Initial.Color.Red, vU y126.Initial.Color.Green, vU y126.Initial.Color.Blue, vU y126.Initial.Color.Alpha, .slice (yg124 2 0).a y126.Words.length (yg124 2 0).c, .slice (yg124 2 1).a y126.Kinds.length (yg124 2 1).c, vB y126.Least], [eO 9 tS y126.Words (yg124 2 0), eO 5 (tI .u8) y126.Kinds (yg124 2 1), eI (tI .u8) ([] : List Int) (.nil)])) hi rfl), (fun _ _ _ _ => ⟨rfl, rfl⟩), (fun _ i g hi => lcG [4] (fun yg124 => (vK (yg124 4 0) 1, [eO 5 (tI .u8) ([5] : List Int) (yg124 4 0)])) hi rfl), (fun _ i g hi => lcG [4, 5] (fun yg124 => (vG [vS y134.Name, vB y134.Inherited, vU y134.Initial.Kind, vS y134.Initial.Word, vI y134.Initial.Num, vU y134.Initial.Color.Red, vU y134.Initial.Color.Green, vU y134.Initial.Color.Blue, vU y134.Initial.Color.Alpha, .slice (yg124 5 0).a y134.Words.length (yg124 5 0).c, .slice (yg124 5 1).a y134.Kinds.length (yg124 5 1).c, vB y134.Least], [eO 9 tS y134.Words (yg124 5 0), eO 5 (tI .u8) y134.Kinds (yg124 5 1), eI (tI .u8) ([5] : List Int) (yg124 4 0)])) hi rfl), (fun _ i g hi => lcG [6] (fun yg124 => (vG [vS y139.Name, vB y139.Inherited, vU y139.Initial.Kind, vS y139.Initial.Word, vI y139.Initial.Num, vU y139.Initial.Color.Red, vU y139.Initial.Color.Green, vU y139.Initial.Color.Blue, vU y139.Initial.Color.Alpha, .slice (yg124 6 0).a y139.Words.length (yg124 6 0).c, .slice (yg124 6 1).a y139.Kinds.length (yg124 6 1).c, vB y139.Least], [eO 9 tS y139.Words (yg124 6 0), eO 5 (tI .u8) y139.Kinds (yg124 6 1)])) hi rfl), (fun _ _ _ _ => ⟨rfl, rfl⟩), (fun _ i g hi => lcG [8] (fun yg124 => (vK (yg124 8 0) 1, [eO 5 (tI .u8) ([5] : List Int) (yg124 8 0)])) hi rfl), (fun _ i g hi => lcG [8] (fun yg124 => (vG [vS [111, 112, 97, 99, 105, 116, 121], vF, vU 5, vN, vI 1000, vU 0, vU 0, vU 0, vU 0, vO, vK (yg124 8 0) 1, vF], [])) hi rfl), (fun _ _ _ _ => ⟨rfl, rfl⟩), (fun _ i g hi => lcG [11] (fun yg124 => (vK (yg124 11 0) 1, [eO 9 tS kL0 (yg124 11 0)])) hi rfl), (fun _ i g hi => lcG [12] (fun yg124 => (vK (yg124 12 0) 1, [eO 5 (tI .u8) ([6] : List Int) (yg124 12 0)])) hi rfl), (fun _ i g hi => lcG [11, 12] (fun yg124 => (vG [vS [122, 45, 105, 110, 100, 101, 120], vF, vU y3.Kind, vS y3.Word, vI y3.Num, vU y3.Color.Red, vU y3.Color.Green, vU y3.Color.Blue, vU y3.Color.Alpha, vK (yg124 11 0) 1, vK (yg124 12 0) 1, vF], [])) hi rfl), (fun _ _ _ _ => ⟨rfl, rfl⟩), (fun _ i g hi => lcG [15] (fun yg124 => (vK (yg124 15 0) 1, [eO 5 (tI .u8) ([6] : List Int) (yg124 15 0)])) hi rfl), (fun _ i g hi => lcG [15] (fun yg124 => (vG [vS [111, 114, 100, 101, 114], vF, vU 6, vN, vI 0, vU 0, vU 0, vU 0, vU 0, vO, vK (yg124 15 0) 1, vF], [])) hi rfl), (fun _ i g hi => lcG [2, 4, 5, 6, 8, 11, 12, 15, 17] (fun yg124 => (vK (yg124 17 0) 6, [eO 82 tyProp ([y126, y134, y139, (TProp.mk [111, 112, 97, 99, 105, 116, 121] false (TVal.mk 5 [] 1000 (TColor.mk 0 0 0 0)) [] ([5] : List Int) false), (TProp.mk [122, 45, 105, 110, 100, 101, 120] false y3 kL0 ([6] : List Int) false), (TProp.mk [111, 114, 100, 101, 114] false (TVal.mk 6 [] 0 (TColor.mk 0 0 0 0)) [] ([6] : List Int) false)] : List TProp) (yg124 17 0), eI (tI .u8) ([6] : List Int) (yg124 15 0), eI (tI .u8) ([6] : List Int) (yg124 12 0), eI tS kL0 (yg124 11 0), eI (tI .u8) ([5] : List Int) (yg124 8 0), eI (tI .u8) y139.Kinds (yg124 6 1), eI tS y139.Words (yg124 6 0), eI (tI .u8) y134.Kinds (yg124 5 1), eI tS y134.Words (yg124 5 0), eI (tI .u8) y126.Kinds (yg124 2 1), eI tS y126.Words (yg124 2 0), eI (tI .u8) ([] : List Int) (.nil), eI (tI .u8) ([5] : List Int) (yg124 4 0)])) hi rfl), (fun _ i g hi => lcG [18] (fun yg124 => (.slice (yg124 18 0).a q155.length (yg124 18 0).c, [eO 82 tyProp q155 (yg124 18 0)])) hi rfl), (fun _ i g hi => lcG [18] (fun yg124 => (.slice (yg124 18 0).a q155.length (yg124 18 0).c, [])) hi rfl), trivial⟩
  case hstep_yg124 =>
   refine ⟨?_, ?_, ?_, ?_, ?_, ?_, ?_, ?_, ?_, ?_, ?_, ?_, ?_, ?_, ?_, ?_, ?_, ?_, ?_, ?_, trivial⟩
   ·intro o ho a w yg124 M Hb hv hO hS
    obtain rfl := someE ho
    exact Stp.mono (o_evs [] (vL g123 z81) none [] Hb rfl (by kernel_rfl) (fun q e => by cases e)) fun _ _ hq => ⟨gL [], fun _ _ => hq.1, (hS.below hq.2.below).sel [] rfl⟩
   ·intro o ho a w yg124 M Hb hv hO hS
    obtain rfl := someE ho
    exact Stp.mono (o_evs [] (vG [vU 2, vN, vI 16000, vU 0, vU 0, vU 0, vU 0]) none [] Hb rfl (by kernel_rfl) (fun q e => by cases e)) fun _ _ hq => ⟨gL [], fun _ _ => hq.1, (hS.below hq.2.below).sel [] rfl⟩
   ·intro o ho a w yg124 M Hb hv hO hS0
    obtain rfl := someE ho
    have H : Fr 57 ([(39, [], vG [vU 2, vN, vI 16000, vU 0, vU 0, vU 0, vU 0])] ++ (fS [1, 3] [vP b6, vL g123 z81])) _ := (Hb).add (hv 1 (by decide) (by decide) 39 rfl)
    obtain ⟨X, hX⟩ : ∃ X, X = fpl [gE1] := ⟨_, rfl⟩
    have hS : SH M X w [gE1] w := by rw [hX]; exact hS0
    replace hS : SH M X w [eO 5 (tI .u8) ([] : List Int) (.nil), gE1] _ := hS.addNil 5 (tI .u8)
    replace hS : SH M X w [eI (tI .u8) ([] : List Int) (.nil), gE1] _ := SH.frz1 (hS.sel [0, 1] rfl)
    have hd := hS.hand [0, 1] [0, 1] rfl rfl
    refine Stp.mono (o_callx H rfl rfl (props_length_ok (g_more := Gh.nil) m _ _ _ _ _ _ _ hy126 _ _ hd)) ?_
    rintro v w2 hq
    obtain ⟨g127, g129, rfl, hq⟩ := hq
    replace hS : SH M X w [eO 9 tS y126.Words g127, eO 5 (tI .u8) y126.Kinds g129, eI (tI .u8) ([] : List Int) (.nil), gE1] _ := hS.join [0, 1] [0, 1] rfl rfl hq
    clear hq
    rw [hX] at hS
    exact ⟨gL [g127, g129], fun _ _ => rfl, hS.sel [0, 1, 2, 3] rfl⟩
   ·intro o ho a w yg124 M Hb hv hO hS
    obtain rfl := someE ho
    exact Stp.mono (o_evs [(vG (cV y131))] (vG (cV y131)) (some (rB 58 [vS [110, 111, 114, 109, 97, 108]] (vG (cV y131)))) [] Hb rfl (by subst hy131; kernel_rfl) (fun q e => by cases e; exact ((by rw [hy131]; exact (props_word_ok _).b)))) fun _ _ hq => ⟨gL [], fun _ _ => hq.1, (hS.below hq.2.below).sel [] rfl⟩
   ·intro o ho a w yg124 M Hb hv hO hS0
    obtain rfl := someE ho
    have H : Fr 57 ([] ++ (fS [1, 3] [vP b6, vL g123 z81])) _ := Hb
    obtain ⟨X, hX⟩ : ∃ X, X = fpl [] := ⟨_, rfl⟩
    have hS : SH M X w [] w := by rw [hX]; exact hS0
    have hd := hS.hand [] [] rfl rfl
    refine Stp.mono (o_lit (T := (tI .u8)) (E := 5) (zv := vU 0) [vU 5] ([5] : List Int) [gL []] _ H hd rfl (by kernel_rfl) (by kernel_rfl) (by kernel_rfl) (by kernel_rfl) (by kernel_rfl) (by kernel_rfl) (by kernel_rfl) rfl (InnL.cons trivial InnL.nil)) ?_
    rintro v w2 hq
    obtain ⟨g132, rfl, hq⟩ := hq
    replace hS : SH M X w [eO 5 (tI .u8) ([5] : List Int) g132] _ := hS.join [] [] rfl rfl hq
    clear hq
    rw [hX] at hS
    exact ⟨gL [g132], fun _ _ => rfl, hS.sel [0] rfl⟩
   ·intro o ho a w yg124 M Hb hv hO hS0
    obtain rfl := someE ho
    have H : Fr 57 ((fS [42, 41] [vK (yg124 4 0) 1, vG (cV y131)]) ++ (fS [1, 3] [vP b6, vL g123 z81])) _ := ((Hb).add (hv 3 (by decide) (by decide) 41 rfl)).add (hv 4 (by decide) (by decide) 42 rfl)
    obtain ⟨X, hX⟩ : ∃ X, X = fpl [eO 5 (tI .u8) ([5] : List Int) (yg124 4 0), gE1] := ⟨_, rfl⟩
    have hS : SH M X w [eO 5 (tI .u8) ([5] : List Int) (yg124 4 0), gE1] w := by rw [hX]; exact hS0
    replace hS : SH M X w [eI (tI .u8) ([5] : List Int) (yg124 4 0), gE1] _ := SH.frz1 (hS.sel [0, 1] rfl)
    have hd := hS.hand [0, 1] [0, 1] rfl rfl
    refine Stp.mono (o_callx H rfl rfl (props_length_ok (g_more := (yg124 4 0)) m _ _ _ _ _ _ _ hy134 _ _ hd)) ?_
    rintro v w2 hq
    obtain ⟨g135, g137, rfl, hq⟩ := hq
    replace hS : SH M X w [eO 9 tS y134.Words g135, eO 5 (tI .u8) y134.Kinds g137, eI (tI .u8) ([5] : List Int) (yg124 4 0), gE1] _ := hS.join [0, 1] [0, 1] rfl rfl hq
    clear hq
    rw [hX] at hS
    exact ⟨gL [g135, g137], fun _ _ => rfl, hS.sel [0, 1, 2, 3] rfl⟩
   ·intro o ho a w yg124 M Hb hv hO hS0
    obtain rfl := someE ho
    have H : Fr 57 ([] ++ (fS [1, 3] [vP b6, vL g123 z81])) _ := Hb
    obtain ⟨X, hX⟩ : ∃ X, X = fpl [gE1] := ⟨_, rfl⟩
    have hS : SH M X w [gE1] w := by rw [hX]; exact hS0
    have hd := hS.hand [0] [0] rfl rfl
    refine Stp.mono (o_callx H rfl rfl (props_words_ok m _ _ _ _ _ hy139 _ _ hd)) ?_
    rintro v w2 hq
    obtain ⟨g140, g142, rfl, hq⟩ := hq
    replace hS : SH M X w [eO 9 tS y139.Words g140, eO 5 (tI .u8) y139.Kinds g142, gE1] _ := hS.join [0] [0] rfl rfl hq
    clear hq
    rw [hX] at hS
    exact ⟨gL [g140, g142], fun _ _ => rfl, hS.sel [0, 1, 2] rfl⟩
   ·intro o ho a w yg124 M Hb hv hO hS
    obtain rfl := someE ho
    exact Stp.mono (o_evs [] (vG [vU 5, vN, vI 1000, vU 0, vU 0, vU 0, vU 0]) none [] Hb rfl (by kernel_rfl) (fun q e => by cases e)) fun _ _ hq => ⟨gL [], fun _ _ => hq.1, (hS.below hq.2.below).sel [] rfl⟩
   ·intro o ho a w yg124 M Hb hv hO hS0
    obtain rfl := someE ho
    have H : Fr 57 ([] ++ (fS [1, 3] [vP b6, vL g123 z81])) _ := Hb
    obtain ⟨X, hX⟩ : ∃ X, X = fpl [] := ⟨_, rfl⟩
    have hS : SH M X w [] w := by rw [hX]; exact hS0
    have hd := hS.hand [] [] rfl rfl
    refine Stp.mono (o_lit (T := (tI .u8)) (E := 5) (zv := vU 0) [vU 5] ([5] : List Int) [gL []] _ H hd rfl (by kernel_rfl) (by kernel_rfl) (by kernel_rfl) (by kernel_rfl) (by kernel_rfl) (by kernel_rfl) (by kernel_rfl) rfl (InnL.cons trivial InnL.nil)) ?_
    rintro v w2 hq
    obtain ⟨g144, rfl, hq⟩ := hq
    replace hS : SH M X w [eO 5 (tI .u8) ([5] : List Int) g144] _ := hS.join [] [] rfl rfl hq
    clear hq
    rw [hX] at hS
    exact ⟨gL [g144], fun _ _ => rfl, hS.sel [0] rfl⟩
   ·intro o ho a w yg124 M Hb hv hO hS
    obtain rfl := someE ho
    exact Stp.mono (o_evs [] (vG [vS [111, 112, 97, 99, 105, 116, 121], vF, vU 5, vN, vI 1000, vU 0, vU 0, vU 0, vU 0, vO, vK (yg124 8 0) 1, vF]) none [] (((Hb).add (hv 7 (by decide) (by decide) 45 rfl)).add (hv 8 (by decide) (by decide) 46 rfl)) rfl (by kernel_rfl) (fun q e => by cases e)) fun _ _ hq => ⟨gL [], fun _ _ => hq.1, (hS.below hq.2.below).sel [0] rfl⟩
   ·intro o ho a w yg124 M Hb hv hO hS
    obtain rfl := someE ho
    exact Stp.mono (o_evs [(vG (cV y3))] (vG (cV y3)) (some (rN b6 0 (cV y3))) [] Hb rfl (by kernel_rfl) (fun q e => by cases e; exact ((hS.bk 0 rfl).atD rfl))) fun _ _ hq => ⟨gL [], fun _ _ => hq.1, (hS.below hq.2.below).sel [0] rfl⟩
   ·intro o ho a w yg124 M Hb hv hO hS0
    obtain rfl := someE ho
    have H : Fr 57 ([] ++ (fS [1, 3] [vP b6, vL g123 z81])) _ := Hb
    obtain ⟨X, hX⟩ : ∃ X, X = fpl [] := ⟨_, rfl⟩
    have hS : SH M X w [] w := by rw [hX]; exact hS0
    have hd := hS.hand [] [] rfl rfl
    refine Stp.mono (o_lit (T := tS) (E := 9) (zv := vN) [vS [97, 117, 116, 111]] kL0 [gL []] _ H hd rfl (by kernel_rfl) (by kernel_rfl) (by kernel_rfl) (by kernel_rfl) (by kernel_rfl) (by kernel_rfl) (by kernel_rfl) rfl (InnL.cons trivial InnL.nil)) ?_
    rintro v w2 hq
    obtain ⟨g146, rfl, hq⟩ := hq
    replace hS : SH M X w [eO 9 tS kL0 g146] _ := hS.join [] [] rfl rfl hq
    clear hq
    rw [hX] at hS
    exact ⟨gL [g146], fun _ _ => rfl, hS.sel [0] rfl⟩
   ·intro o ho a w yg124 M Hb hv hO hS0
    obtain rfl := someE ho
    have H : Fr 57 ([] ++ (fS [1, 3] [vP b6, vL g123 z81])) _ := Hb
    obtain ⟨X, hX⟩ : ∃ X, X = fpl [] := ⟨_, rfl⟩
    have hS : SH M X w [] w := by rw [hX]; exact hS0
    have hd := hS.hand [] [] rfl rfl
    refine Stp.mono (o_lit (T := (tI .u8)) (E := 5) (zv := vU 0) [vU 6] ([6] : List Int) [gL []] _ H hd rfl (by kernel_rfl) (by kernel_rfl) (by kernel_rfl) (by kernel_rfl) (by kernel_rfl) (by kernel_rfl) (by kernel_rfl) rfl (InnL.cons trivial InnL.nil)) ?_
    rintro v w2 hq
    obtain ⟨g148, rfl, hq⟩ := hq
    replace hS : SH M X w [eO 5 (tI .u8) ([6] : List Int) g148] _ := hS.join [] [] rfl rfl hq
    clear hq
    rw [hX] at hS
    exact ⟨gL [g148], fun _ _ => rfl, hS.sel [0] rfl⟩
   ·intro o ho a w yg124 M Hb hv hO hS
    obtain rfl := someE ho
    exact Stp.mono (o_evs [] (vG [vS [122, 45, 105, 110, 100, 101, 120], vF, vU y3.Kind, vS y3.Word, vI y3.Num, vU y3.Color.Red, vU y3.Color.Green, vU y3.Color.Blue, vU y3.Color.Alpha, vK (yg124 11 0) 1, vK (yg124 12 0) 1, vF]) none [] ((((Hb).add (hv 10 (by decide) (by decide) 48 rfl)).add (hv 11 (by decide) (by decide) 49 rfl)).add (hv 12 (by decide) (by decide) 50 rfl)) rfl (by kernel_rfl) (fun q e => by cases e)) fun _ _ hq => ⟨gL [], fun _ _ => hq.1, (hS.below hq.2.below).sel [0, 1] rfl⟩
   ·intro o ho a w yg124 M Hb hv hO hS
    obtain rfl := someE ho
    exact Stp.mono (o_evs [] (vG [vU 6, vN, vI 0, vU 0, vU 0, vU 0, vU 0]) none [] Hb rfl (by kernel_rfl) (fun q e => by cases e)) fun _ _ hq => ⟨gL [], fun _ _ => hq.1, (hS.below hq.2.below).sel [] rfl⟩
   ·intro o ho a w yg124 M Hb hv hO hS0
    obtain rfl := someE ho
    have H : Fr 57 ([] ++ (fS [1, 3] [vP b6, vL g123 z81])) _ := Hb
    obtain ⟨X, hX⟩ : ∃ X, X = fpl [] := ⟨_, rfl⟩
    have hS : SH M X w [] w := by rw [hX]; exact hS0
    have hd := hS.hand [] [] rfl rfl
    refine Stp.mono (o_lit (T := (tI .u8)) (E := 5) (zv := vU 0) [vU 6] ([6] : List Int) [gL []] _ H hd rfl (by kernel_rfl) (by kernel_rfl) (by kernel_rfl) (by kernel_rfl) (by kernel_rfl) (by kernel_rfl) (by kernel_rfl) rfl (InnL.cons trivial InnL.nil)) ?_
    rintro v w2 hq
    obtain ⟨g150, rfl, hq⟩ := hq
    replace hS : SH M X w [eO 5 (tI .u8) ([6] : List Int) g150] _ := hS.join [] [] rfl rfl hq
    clear hq
    rw [hX] at hS
    exact ⟨gL [g150], fun _ _ => rfl, hS.sel [0] rfl⟩
   ·intro o ho a w yg124 M Hb hv hO hS
    obtain rfl := someE ho
    exact Stp.mono (o_evs [] (vG [vS [111, 114, 100, 101, 114], vF, vU 6, vN, vI 0, vU 0, vU 0, vU 0, vU 0, vO, vK (yg124 15 0) 1, vF]) none [] (((Hb).add (hv 14 (by decide) (by decide) 52 rfl)).add (hv 15 (by decide) (by decide) 53 rfl)) rfl (by kernel_rfl) (fun q e => by cases e)) fun _ _ hq => ⟨gL [], fun _ _ => hq.1, (hS.below hq.2.below).sel [0] rfl⟩
   ·intro o ho a w yg124 M Hb hv hO hS0
    obtain rfl := someE ho
    have H : Fr 57 ((fS [54, 51, 47, 44, 43, 40] [vG [vS [111, 114, 100, 101, 114], vF, vU 6, vN, vI 0, vU 0, vU 0, vU 0, vU 0, vO, vK (yg124 15 0) 1, vF], vG [vS [122, 45, 105, 110, 100, 101, 120], vF, vU y3.Kind, vS y3.Word, vI y3.Num, vU y3.Color.Red, vU y3.Color.Green, vU y3.Color.Blue, vU y3.Color.Alpha, vK (yg124 11 0) 1, vK (yg124 12 0) 1, vF], vG [vS [111, 112, 97, 99, 105, 116, 121], vF, vU 5, vN, vI 1000, vU 0, vU 0, vU 0, vU 0, vO, vK (yg124 8 0) 1, vF], vG [vS y139.Name, vB y139.Inherited, vU y139.Initial.Kind, vS y139.Initial.Word, vI y139.Initial.Num, vU y139.Initial.Color.Red, vU y139.Initial.Color.Green, vU y139.Initial.Color.Blue, vU y139.Initial.Color.Alpha, .slice (yg124 6 0).a y139.Words.length (yg124 6 0).c, .slice (yg124 6 1).a y139.Kinds.length (yg124 6 1).c, vB y139.Least], vG [vS y134.Name, vB y134.Inherited, vU y134.Initial.Kind, vS y134.Initial.Word, vI y134.Initial.Num, vU y134.Initial.Color.Red, vU y134.Initial.Color.Green, vU y134.Initial.Color.Blue, vU y134.Initial.Color.Alpha, .slice (yg124 5 0).a y134.Words.length (yg124 5 0).c, .slice (yg124 5 1).a y134.Kinds.length (yg124 5 1).c, vB y134.Least], vG [vS y126.Name, vB y126.Inherited, vU y126.Initial.Kind, vS y126.Initial.Word, vI y126.Initial.Num, vU y126.Initial.Color.Red, vU y126.Initial.Color.Green, vU y126.Initial.Color.Blue, vU y126.Initial.Color.Alpha, .slice (yg124 2 0).a y126.Words.length (yg124 2 0).c, .slice (yg124 2 1).a y126.Kinds.length (yg124 2 1).c, vB y126.Least]]) ++ (fS [1, 3] [vP b6, vL g123 z81])) _ := ((((((Hb).add (hv 2 (by decide) (by decide) 40 rfl)).add (hv 5 (by decide) (by decide) 43 rfl)).add (hv 6 (by decide) (by decide) 44 rfl)).add (hv 9 (by decide) (by decide) 47 rfl)).add (hv 13 (by decide) (by decide) 51 rfl)).add (hv 16 (by decide) (by decide) 54 rfl)
    obtain ⟨X, hX⟩ : ∃ X, X = fpl [eO 9 tS y126.Words (yg124 2 0), eO 5 (tI .u8) y126.Kinds (yg124 2 1), eI (tI .u8) ([] : List Int) (.nil), eO 9 tS y134.Words (yg124 5 0), eO 5 (tI .u8) y134.Kinds (yg124 5 1), eI (tI .u8) ([5] : List Int) (yg124 4 0), eO 9 tS y139.Words (yg124 6 0), eO 5 (tI .u8) y139.Kinds (yg124 6 1), eO 5 (tI .u8) ([5] : List Int) (yg124 8 0), eO 9 tS kL0 (yg124 11 0), eO 5 (tI .u8) ([6] : List Int) (yg124 12 0), eO 5 (tI .u8) ([6] : List Int) (yg124 15 0)] := ⟨_, rfl⟩
    have hS : SH M X w [eO 9 tS y126.Words (yg124 2 0), eO 5 (tI .u8) y126.Kinds (yg124 2 1), eI (tI .u8) ([] : List Int) (.nil), eO 9 tS y134.Words (yg124 5 0), eO 5 (tI .u8) y134.Kinds (yg124 5 1), eI (tI .u8) ([5] : List Int) (yg124 4 0), eO 9 tS y139.Words (yg124 6 0), eO 5 (tI .u8) y139.Kinds (yg124 6 1), eO 5 (tI .u8) ([5] : List Int) (yg124 8 0), eO 9 tS kL0 (yg124 11 0), eO 5 (tI .u8) ([6] : List Int) (yg124 12 0), eO 5 (tI .u8) ([6] : List Int) (yg124 15 0)] w := by rw [hX]; exact hS0
    replace hS : SH M X w [eI tS y126.Words (yg124 2 0), eO 5 (tI .u8) y126.Kinds (yg124 2 1), eI (tI .u8) ([] : List Int) (.nil), eO 9 tS y134.Words (yg124 5 0), eO 5 (tI .u8) y134.Kinds (yg124 5 1), eI (tI .u8) ([5] : List Int) (yg124 4 0), eO 9 tS y139.Words (yg124 6 0), eO 5 (tI .u8) y139.Kinds (yg124 6 1), eO 5 (tI .u8) ([5] : List Int) (yg124 8 0), eO 9 tS kL0 (yg124 11 0), eO 5 (tI .u8) ([6] : List Int) (yg124 12 0), eO 5 (tI .u8) ([6] : List Int) (yg124 15 0)] _ := SH.frz1 (hS.sel [0, 1, 2, 3, 4, 5, 6, 7, 8, 9, 10, 11] rfl)
    replace hS : SH M X w [eI (tI .u8) y126.Kinds (yg124 2 1), eI tS y126.Words (yg124 2 0), eI (tI .u8) ([] : List Int) (.nil), eO 9 tS y134.Words (yg124 5 0), eO 5 (tI .u8) y134.Kinds (yg124 5 1), eI (tI .u8) ([5] : List Int) (yg124 4 0), eO 9 tS y139.Words (yg124 6 0), eO 5 (tI .u8) y139.Kinds (yg124 6 1), eO 5 (tI .u8) ([5] : List Int) (yg124 8 0), eO 9 tS kL0 (yg124 11 0), eO 5 (tI .u8) ([6] : List Int) (yg124 12 0), eO 5 (tI .u8) ([6] : List Int) (yg124 15 0)] _ := SH.frz1 (hS.sel [1, 0, 2, 3, 4, 5, 6, 7, 8, 9, 10, 11] rfl)
    replace hS : SH M X w [eI tS y134.Words (yg124 5 0), eI (tI .u8) y126.Kinds (yg124 2 1), eI tS y126.Words (yg124 2 0), eI (tI .u8) ([] : List Int) (.nil), eO 5 (tI .u8) y134.Kinds (yg124 5 1), eI (tI .u8) ([5] : List Int) (yg124 4 0), eO 9 tS y139.Words (yg124 6 0), eO 5 (tI .u8) y139.Kinds (yg124 6 1), eO 5 (tI .u8) ([5] : List Int) (yg124 8 0), eO 9 tS kL0 (yg124 11 0), eO 5 (tI .u8) ([6] : List Int) (yg124 12 0), eO 5 (tI .u8) ([6] : List Int) (yg124 15 0)] _ := SH.frz1 (hS.sel [3, 0, 1, 2, 4, 5, 6, 7, 8, 9, 10, 11] rfl)
    replace hS : SH M X w [eI (tI .u8) y134.Kinds (yg124 5 1), eI tS y134.Words (yg124 5 0), eI (tI .u8) y126.Kinds (yg124 2 1), eI tS y126.Words (yg124 2 0), eI (tI .u8) ([] : List Int) (.nil), eI (tI .u8) ([5] : List Int) (yg124 4 0), eO 9 tS y139.Words (yg124 6 0), eO 5 (tI .u8) y139.Kinds (yg124 6 1), eO 5 (tI .u8) ([5] : List Int) (yg124 8 0), eO 9 tS kL0 (yg124 11 0), eO 5 (tI .u8) ([6] : List Int) (yg124 12 0), eO 5 (tI .u8) ([6] : List Int) (yg124 15 0)] _ := SH.frz1 (hS.sel [4, 0, 1, 2, 3, 5, 6, 7, 8, 9, 10, 11] rfl)
    replace hS : SH M X w [eI tS y139.Words (yg124 6 0), eI (tI .u8) y134.Kinds (yg124 5 1), eI tS y134.Words (yg124 5 0), eI (tI .u8) y126.Kinds (yg124 2 1), eI tS y126.Words (yg124 2 0), eI (tI .u8) ([] : List Int) (.nil), eI (tI .u8) ([5] : List Int) (yg124 4 0), eO 5 (tI .u8) y139.Kinds (yg124 6 1), eO 5 (tI .u8) ([5] : List Int) (yg124 8 0), eO 9 tS kL0 (yg124 11 0), eO 5 (tI .u8) ([6] : List Int) (yg124 12 0), eO 5 (tI .u8) ([6] : List Int) (yg124 15 0)] _ := SH.frz1 (hS.sel [6, 0, 1, 2, 3, 4, 5, 7, 8, 9, 10, 11] rfl)
    replace hS : SH M X w [eI (tI .u8) y139.Kinds (yg124 6 1), eI tS y139.Words (yg124 6 0), eI (tI .u8) y134.Kinds (yg124 5 1), eI tS y134.Words (yg124 5 0), eI (tI .u8) y126.Kinds (yg124 2 1), eI tS y126.Words (yg124 2 0), eI (tI .u8) ([] : List Int) (.nil), eI (tI .u8) ([5] : List Int) (yg124 4 0), eO 5 (tI .u8) ([5] : List Int) (yg124 8 0), eO 9 tS kL0 (yg124 11 0), eO 5 (tI .u8) ([6] : List Int) (yg124 12 0), eO 5 (tI .u8) ([6] : List Int) (yg124 15 0)] _ := SH.frz1 (hS.sel [7, 0, 1, 2, 3, 4, 5, 6, 8, 9, 10, 11] rfl)
    replace hS : SH M X w [eI (tI .u8) ([5] : List Int) (yg124 8 0), eI (tI .u8) y139.Kinds (yg124 6 1), eI tS y139.Words (yg124 6 0), eI (tI .u8) y134.Kinds (yg124 5 1), eI tS y134.Words (yg124 5 0), eI (tI .u8) y126.Kinds (yg124 2 1), eI tS y126.Words (yg124 2 0), eI (tI .u8) ([] : List Int) (.nil), eI (tI .u8) ([5] : List Int) (yg124 4 0), eO 9 tS kL0 (yg124 11 0), eO 5 (tI .u8) ([6] : List Int) (yg124 12 0), eO 5 (tI .u8) ([6] : List Int) (yg124 15 0)] _ := SH.frz1 (hS.sel [8, 0, 1, 2, 3, 4, 5, 6, 7, 9, 10, 11] rfl)
    replace hS : SH M X w [eI tS kL0 (yg124 11 0), eI (tI .u8) ([5] : List Int) (yg124 8 0), eI (tI .u8) y139.Kinds (yg124 6 1), eI tS y139.Words (yg124 6 0), eI (tI .u8) y134.Kinds (yg124 5 1), eI tS y134.Words (yg124 5 0), eI (tI .u8) y126.Kinds (yg124 2 1), eI tS y126.Words (yg124 2 0), eI (tI .u8) ([] : List Int) (.nil), eI (tI .u8) ([5] : List Int) (yg124 4 0), eO 5 (tI .u8) ([6] : List Int) (yg124 12 0), eO 5 (tI .u8) ([6] : List Int) (yg124 15 0)] _ := SH.frz1 (hS.sel [9, 0, 1, 2, 3, 4, 5, 6, 7, 8, 10, 11] rfl)
    replace hS : SH M X w [eI (tI .u8) ([6] : List Int) (yg124 12 0), eI tS kL0 (yg124 11 0), eI (tI .u8) ([5] : List Int) (yg124 8 0), eI (tI .u8) y139.Kinds (yg124 6 1), eI tS y139.Words (yg124 6 0), eI (tI .u8) y134.Kinds (yg124 5 1), eI tS y134.Words (yg124 5 0), eI (tI .u8) y126.Kinds (yg124 2 1), eI tS y126.Words (yg124 2 0), eI (tI .u8) ([] : List Int) (.nil), eI (tI .u8) ([5] : List Int) (yg124 4 0), eO 5 (tI .u8) ([6] : List Int) (yg124 15 0)] _ := SH.frz1 (hS.sel [10, 0, 1, 2, 3, 4, 5, 6, 7, 8, 9, 11] rfl)
    replace hS : SH M X w [eI (tI .u8) ([6] : List Int) (yg124 15 0), eI (tI .u8) ([6] : List Int) (yg124 12 0), eI tS kL0 (yg124 11 0), eI (tI .u8) ([5] : List Int) (yg124 8 0), eI (tI .u8) y139.Kinds (yg124 6 1), eI tS y139.Words (yg124 6 0), eI (tI .u8) y134.Kinds (yg124 5 1), eI tS y134.Words (yg124 5 0), eI (tI .u8) y126.Kinds (yg124 2 1), eI tS y126.Words (yg124 2 0), eI (tI .u8) ([] : List Int) (.nil), eI (tI .u8) ([5] : List Int) (yg124 4 0)] _ := SH.frz1 (hS.sel [11, 0, 1, 2, 3, 4, 5, 6, 7, 8, 9, 10] rfl)
    have hd := hS.hand [9, 8, 7, 6, 5, 4, 3, 2, 1, 0] [0, 1, 2, 3, 4, 5, 6, 7, 8, 9, 10, 11] rfl rfl
    refine Stp.mono (o_lit (T := tyProp) (E := 82) (zv := vG [vN, vF, vU 0, vN, vI 0, vU 0, vU 0, vU 0, vU 0, vO, vO, vF]) [vS y126.Name, vB y126.Inherited, vU y126.Initial.Kind, vS y126.Initial.Word, vI y126.Initial.Num, vU y126.Initial.Color.Red, vU y126.Initial.Color.Green, vU y126.Initial.Color.Blue, vU y126.Initial.Color.Alpha, .slice (yg124 2 0).a y126.Words.length (yg124 2 0).c, .slice (yg124 2 1).a y126.Kinds.length (yg124 2 1).c, vB y126.Least, vS y134.Name, vB y134.Inherited, vU y134.Initial.Kind, vS y134.Initial.Word, vI y134.Initial.Num, vU y134.Initial.Color.Red, vU y134.Initial.Color.Green, vU y134.Initial.Color.Blue, vU y134.Initial.Color.Alpha, .slice (yg124 5 0).a y134.Words.length (yg124 5 0).c, .slice (yg124 5 1).a y134.Kinds.length (yg124 5 1).c, vB y134.Least, vS y139.Name, vB y139.Inherited, vU y139.Initial.Kind, vS y139.Initial.Word, vI y139.Initial.Num, vU y139.Initial.Color.Red, vU y139.Initial.Color.Green, vU y139.Initial.Color.Blue, vU y139.Initial.Color.Alpha, .slice (yg124 6 0).a y139.Words.length (yg124 6 0).c, .slice (yg124 6 1).a y139.Kinds.length (yg124 6 1).c, vB y139.Least, vS [111, 112, 97, 99, 105, 116, 121], vF, vU 5, vN, vI 1000, vU 0, vU 0, vU 0, vU 0, vO, vK (yg124 8 0) 1, vF, vS [122, 45, 105, 110, 100, 101, 120], vF, vU y3.Kind, vS y3.Word, vI y3.Num, vU y3.Color.Red, vU y3.Color.Green, vU y3.Color.Blue, vU y3.Color.Alpha, vK (yg124 11 0) 1, vK (yg124 12 0) 1, vF, vS [111, 114, 100, 101, 114], vF, vU 6, vN, vI 0, vU 0, vU 0, vU 0, vU 0, vO, vK (yg124 15 0) 1, vF] ([y126, y134, y139, (TProp.mk [111, 112, 97, 99, 105, 116, 121] false (TVal.mk 5 [] 1000 (TColor.mk 0 0 0 0)) [] ([5] : List Int) false), (TProp.mk [122, 45, 105, 110, 100, 101, 120] false y3 kL0 ([6] : List Int) false), (TProp.mk [111, 114, 100, 101, 114] false (TVal.mk 6 [] 0 (TColor.mk 0 0 0 0)) [] ([6] : List Int) false)] : List TProp) [gL [(yg124 2 0), (yg124 2 1)], gL [(yg124 5 0), (yg124 5 1)], gL [(yg124 6 0), (yg124 6 1)], gL [Gh.nil, (yg124 8 0)], gL [(yg124 11 0), (yg124 12 0)], gL [Gh.nil, (yg124 15 0)]] _ H hd rfl (by kernel_rfl) (by kernel_rfl) (by kernel_rfl) (by kernel_rfl) (by kernel_rfl) (by kernel_rfl) (by kernel_rfl) rfl (InnL.cons (tyProp_mk (hd.im 0 rfl) (hd.im 1 rfl)) (InnL.cons (tyProp_mk (hd.im 2 rfl) (hd.im 3 rfl)) (InnL.cons (tyProp_mk (hd.im 4 rfl) (hd.im 5 rfl)) (InnL.cons (tyProp_mk SlG.nil (hd.im 6 rfl)) (InnL.cons (tyProp_mk (hd.im 7 rfl) (hd.im 8 rfl)) (InnL.cons (tyProp_mk SlG.nil (hd.im 9 rfl)) InnL.nil))))))) ?_
    rintro v w2 hq
    obtain ⟨g152, rfl, hq⟩ := hq
    replace hS : SH M X w [eO 82 tyProp ([y126, y134, y139, (TProp.mk [111, 112, 97, 99, 105, 116, 121] false (TVal.mk 5 [] 1000 (TColor.mk 0 0 0 0)) [] ([5] : List Int) false), (TProp.mk [122, 45, 105, 110, 100, 101, 120] false y3 kL0 ([6] : List Int) false), (TProp.mk [111, 114, 100, 101, 114] false (TVal.mk 6 [] 0 (TColor.mk 0 0 0 0)) [] ([6] : List Int) false)] : List TProp) g152, eI (tI .u8) ([6] : List Int) (yg124 15 0), eI (tI .u8) ([6] : List Int) (yg124 12 0), eI tS kL0 (yg124 11 0), eI (tI .u8) ([5] : List Int) (yg124 8 0), eI (tI .u8) y139.Kinds (yg124 6 1), eI tS y139.Words (yg124 6 0), eI (tI .u8) y134.Kinds (yg124 5 1), eI tS y134.Words (yg124 5 0), eI (tI .u8) y126.Kinds (yg124 2 1), eI tS y126.Words (yg124 2 0), eI (tI .u8) ([] : List Int) (.nil), eI (tI .u8) ([5] : List Int) (yg124 4 0)] _ := hS.join [9, 8, 7, 6, 5, 4, 3, 2, 1, 0] [0, 1, 2, 3, 4, 5, 6, 7, 8, 9, 10, 11] rfl rfl hq
    clear hq
    rw [hX] at hS
    exact ⟨gL [g152], fun _ _ => rfl, hS.sel [0, 1, 2, 3, 4, 5, 6, 7, 8, 9, 10, 11, 12] rfl⟩
   ·intro o ho a w yg124 M Hb hv hO hS0
    obtain rfl := someE ho
    have H : Fr 57 ((fS [55, 38] [vK (yg124 17 0) 6, vL g123 z81]) ++ (fS [1, 3] [vP b6, vL g123 z81])) _ := ((Hb).add (hv 0 (by decide) (by decide) 38 rfl)).add (hv 17 (by decide) (by decide) 55 rfl)
    obtain ⟨X, hX⟩ : ∃ X, X = fpl [eO 82 tyProp ([y126, y134, y139, (TProp.mk [111, 112, 97, 99, 105, 116, 121] false (TVal.mk 5 [] 1000 (TColor.mk 0 0 0 0)) [] ([5] : List Int) false), (TProp.mk [122, 45, 105, 110, 100, 101, 120] false y3 kL0 ([6] : List Int) false), (TProp.mk [111, 114, 100, 101, 114] false (TVal.mk 6 [] 0 (TColor.mk 0 0 0 0)) [] ([6] : List Int) false)] : List TProp) (yg124 17 0), eI (tI .u8) ([6] : List Int) (yg124 15 0), eI (tI .u8) ([6] : List Int) (yg124 12 0), eI tS kL0 (yg124 11 0), eI (tI .u8) ([5] : List Int) (yg124 8 0), eI (tI .u8) y139.Kinds (yg124 6 1), eI tS y139.Words (yg124 6 0), eI (tI .u8) y134.Kinds (yg124 5 1), eI tS y134.Words (yg124 5 0), eI (tI .u8) y126.Kinds (yg124 2 1), eI tS y126.Words (yg124 2 0), eI (tI .u8) ([] : List Int) (.nil), eI (tI .u8) ([5] : List Int) (yg124 4 0), eO 82 tyProp z81 g123] := ⟨_, rfl⟩
    have hS : SH M X w [eO 82 tyProp ([y126, y134, y139, (TProp.mk [111, 112, 97, 99, 105, 116, 121] false (TVal.mk 5 [] 1000 (TColor.mk 0 0 0 0)) [] ([5] : List Int) false), (TProp.mk [122, 45, 105, 110, 100, 101, 120] false y3 kL0 ([6] : List Int) false), (TProp.mk [111, 114, 100, 101, 114] false (TVal.mk 6 [] 0 (TColor.mk 0 0 0 0)) [] ([6] : List Int) false)] : List TProp) (yg124 17 0), eI (tI .u8) ([6] : List Int) (yg124 15 0), eI (tI .u8) ([6] : List Int) (yg124 12 0), eI tS kL0 (yg124 11 0), eI (tI .u8) ([5] : List Int) (yg124 8 0), eI (tI .u8) y139.Kinds (yg124 6 1), eI tS y139.Words (yg124 6 0), eI (tI .u8) y134.Kinds (yg124 5 1), eI tS y134.Words (yg124 5 0), eI (tI .u8) y126.Kinds (yg124 2 1), eI tS y126.Words (yg124 2 0), eI (tI .u8) ([] : List Int) (.nil), eI (tI .u8) ([5] : List Int) (yg124 4 0), eO 82 tyProp z81 g123] w := by rw [hX]; exact hS0
    have hd := hS.hand [13, 0] [1, 2, 3, 4, 5, 6, 7, 8, 9, 10, 11, 12] rfl rfl
    refine Stp.mono (o_app2 (T := tyProp) (zv := vG [vN, vF, vU 0, vN, vI 0, vU 0, vU 0, vU 0, vU 0, vO, vO, vF]) (g1 := g123) (g2 := (yg124 17 0)) (l1 := z81) (l2 := ([y126, y134, y139, (TProp.mk [111, 112, 97, 99, 105, 116, 121] false (TVal.mk 5 [] 1000 (TColor.mk 0 0 0 0)) [] ([5] : List Int) false), (TProp.mk [122, 45, 105, 110, 100, 101, 120] false y3 kL0 ([6] : List Int) false), (TProp.mk [111, 114, 100, 101, 114] false (TVal.mk 6 [] 0 (TColor.mk 0 0 0 0)) [] ([6] : List Int) false)] : List TProp)) q155 hq155.symm H hd rfl rfl rfl rfl rfl rfl rfl (by kernel_rfl) (by kernel_rfl) rfl rfl ho154) ?_
    rintro v w2 hq
    obtain ⟨g156, rfl, hq⟩ := hq
    replace hS : SH M X w [eO 82 tyProp q155 g156, eO 82 tyProp ([y126, y134, y139, (TProp.mk [111, 112, 97, 99, 105, 116, 121] false (TVal.mk 5 [] 1000 (TColor.mk 0 0 0 0)) [] ([5] : List Int) false), (TProp.mk [122, 45, 105, 110, 100, 101, 120] false y3 kL0 ([6] : List Int) false), (TProp.mk [111, 114, 100, 101, 114] false (TVal.mk 6 [] 0 (TColor.mk 0 0 0 0)) [] ([6] : List Int) false)] : List TProp) (yg124 17 0), eI (tI .u8) ([6] : List Int) (yg124 15 0), eI (tI .u8) ([6] : List Int) (yg124 12 0), eI tS kL0 (yg124 11 0), eI (tI .u8) ([5] : List Int) (yg124 8 0), eI (tI .u8) y139.Kinds (yg124 6 1), eI tS y139.Words (yg124 6 0), eI (tI .u8) y134.Kinds (yg124 5 1), eI tS y134.Words (yg124 5 0), eI (tI .u8) y126.Kinds (yg124 2 1), eI tS y126.Words (yg124 2 0), eI (tI .u8) ([] : List Int) (.nil), eI (tI .u8) ([5] : List Int) (yg124 4 0)] _ := hS.join [13, 0] [1, 2, 3, 4, 5, 6, 7, 8, 9, 10, 11, 12] rfl rfl hq
    clear hq
    rw [hX] at hS
    exact ⟨gL [g156], fun _ _ => rfl, hS.sel [0, 1, 2, 3, 4, 5, 6, 7, 8, 9, 10, 11, 12, 13] rfl⟩
   ·intro o ho a w yg124 M Hb hv hO hS
    obtain rfl := someE ho
    exact Stp.mono (o_evs [] (.slice (yg124 18 0).a q155.length (yg124 18 0).c) none [] ((Hb).add (hv 18 (by decide) (by decide) 56 rfl)) rfl (by kernel_rfl) (fun q e => by cases e)) fun _ _ hq => ⟨gL [], fun _ _ => hq.1, (hS.below hq.2.below).sel [0] rfl⟩
  have H159 : Fr 57 [(0, [], .slice (yg124 18 0).a q155.length (yg124 18 0).c)] _ := (FrG.add (FrG.keep (ks := []) H158 (by kernel_rfl)) (hv 19 0 rfl))
  replace hS : SH M X w [eO 82 tyProp ([y126, y134, y139, (TProp.mk [111, 112, 97, 99, 105, 116, 121] false (TVal.mk 5 [] 1000 (TColor.mk 0 0 0 0)) [] ([5] : List Int) false), (TProp.mk [122, 45, 105, 110, 100, 101, 120] false y3 kL0 ([6] : List Int) false), (TProp.mk [111, 114, 100, 101, 114] false (TVal.mk 6 [] 0 (TColor.mk 0 0 0 0)) [] ([6] : List Int) false)] : List TProp) (yg124 17 0), eI (tI .u8) ([6] : List Int) (yg124 15 0), eI (tI .u8) ([6] : List Int) (yg124 12 0), eI tS kL0 (yg124 11 0), eI (tI .u8) ([5] : List Int) (yg124 8 0), eI (tI .u8) y139.Kinds (yg124 6 1), eI tS y139.Words (yg124 6 0), eI (tI .u8) y134.Kinds (yg124 5 1), eI tS y134.Words (yg124 5 0), eI (tI .u8) y126.Kinds (yg124 2 1), eI tS y126.Words (yg124 2 0), eI (tI .u8) ([] : List Int) (.nil), eI (tI .u8) ([5] : List Int) (yg124 4 0), eO 82 tyProp q155 (yg124 18 0), eB b6 (cV y3), gE1] _ := hS
  clear hv H158
  generalize yg124 18 0 = g160 at H159 hS
  generalize yg124 17 0 = g161 at H159 hS
  generalize yg124 15 0 = g162 at H159 hS
  generalize yg124 12 0 = g163 at H159 hS
  generalize yg124 11 0 = g164 at H159 hS
  generalize yg124 8 0 = g165 at H159 hS
  generalize yg124 6 1 = g166 at H159 hS
  generalize yg124 6 0 = g167 at H159 hS
  generalize yg124 5 1 = g168 at H159 hS
  generalize yg124 5 0 = g169 at H159 hS
  generalize yg124 2 1 = g170 at H159 hS
  generalize yg124 2 0 = g171 at H159 hS
  generalize yg124 4 0 = g172 at H159 hS
  replace hS : SH M X w [eO 82 tyProp q155 g160, gE1] _ := hS.sel [13, 15] rfl
  apply w_ret
  obtain rfl := someE hm
  exact retR1 H159 rfl rfl ⟨_, rfl, g160, rfl, (hS.sel [0] rfl)⟩
theorem props_Table_ok  (m : Nat)  (r : List TProp) (hm : props_Table m = some r) (M : Av) (w : World) (hS : S0 M [gE1] w) : DoesX Tryz.prog 40 ⟨[]⟩ w (fun v w' => ∃ (g901 : Gh), v = vL g901 r ∧ SH M (fpl [gE1]) w [eO 82 tyProp r g901] w') := ⟨Tryz.call40 _, props_Table_w M m    r hm w hS⟩

end Go.Proofs.YtemchjneoalnoaaGreatDoor
