/-
  What the Go functions compute, as Lean functions, and that a call returns just that. Printed by a program.
-/
import Derived.Test.YtpgflfjmjppmeaaGreatDoorRows
import Derived.Test.YtpgflfjmjppmeaaGreatDoorX
import Derived.Test.YtpgflfjmjppmeaaGreatDoorMP
import Derived.Test.YtpgflfjmjppmeaaGreatDoorCO
import Derived.Test.YtpgflfjmjppmeaaGreatDoorM
import Derived.Test.YtpgflfjmjppmeaaGreatDoorW27pc
set_option linter.unusedVariables false
set_option maxRecDepth 20000
set_option maxHeartbeats 4000000
namespace Go.Proofs.YtpgflfjmjppmeaaGreatDoor
open Go.V Go.RowKit

theorem r26_rgb_w {g_l_ : Gh} (M : Av) (m : Nat) (l_ : List TValue) (r : TColor × Bool) (hm : r26_rgb m l_ = some r) (w : World) (hS : S0 M [eI tyValue l_ g_l_] w) : Calls Tryz.prog 131 ⟨[vL g_l_ l_]⟩ w (fun e w' => ∃ v, e = .returned v ∧ v = vW [vG (cC r.1), vB r.2] ∧ SH M (fpl [eI tyValue l_ g_l_]) w [] w') := by
 rw [r26_rgb] at hm
 have hS0 : SH M (fpl [eI tyValue l_ g_l_]) w [eI tyValue l_ g_l_] w := hS
 generalize hX : fpl [eI tyValue l_ g_l_] = X at hS0 ⊢
 clear hS hX
 have hS := hS0
 clear hS0
 refine calls_entryP Tryz.func131 rfl Tryz.ntmps131 rfl fun _ H => ?_
 apply w_seq
 apply wl_start
 have hd := hS.hand [] [0] rfl rfl
 refine m_stp [2, 0] [(0, [], vL g_l_ l_)] H rfl rfl rfl rfl (o_alloc [vU 0, vU 0, vU 0, vU 0] (z := vG [vU 0, vU 0, vU 0, vU 0]) hd (by kernel_rfl) rfl) (fun _ => rfl) fun _ _ v H3 hq => ?_
 clear H hd
 obtain ⟨b1, rfl, hq⟩ := hq
 replace hS : SH M X w [eB b1 [vU 0, vU 0, vU 0, vU 0], eI tyValue l_ g_l_] _ := hS.join [] [0] rfl rfl hq
 clear hq
 refine wl_batch 1 2 [] [0, 2] (fS [0, 2] [vL g_l_ l_, vP b1]) [] H3 (by decide) (by kernel_rfl) trivial fun _ _ H5 hb => ?_
 replace hS := hS.below hb
 clear H3 hb
 apply wl_end rfl
 apply w_seq
 apply wl_start
 refine wl_batch 0 1 [] [2, 12] (fS [2, 12] [vP b1, vL g_l_ l_]) [] H5 (by decide) (by kernel_rfl) trivial fun _ _ H7 hb => ?_
 replace hS := hS.below hb
 clear H5 hb
 obtain ⟨y8, hy8, hm⟩ := bindE hm
 have hd := hS.hand [1] [0, 1] rfl rfl
 refine m_stp [13, 2] [(2, [], vP b1)] H7 rfl rfl rfl rfl (o_callx H7 rfl rfl (r26_Spaceless_ok (g_l_ := g_l_) m _ _ hy8 _ _ hd)) (fun _ => rfl) fun _ _ v H12 hq => ?_
 clear H7 hd
 obtain ⟨g9, rfl, hq⟩ := hq
 replace hS : SH M X w [eO 51 tyValue y8 g9, eB b1 [vU 0, vU 0, vU 0, vU 0], eI tyValue l_ g_l_] _ := hS.join [1] [0, 1] rfl rfl hq
 clear hq
 refine wl_batch 2 3 [] [0, 2] (fS [0, 2] [vL g9 y8, vP b1]) [] H12 (by decide) (by kernel_rfl) trivial fun _ _ H14 hb => ?_
 replace hS := hS.below hb
 clear H12 hb
 apply wl_end rfl
 replace hS : SH M X w [eO 51 tyValue y8 g9, eB b1 [vU 0, vU 0, vU 0, vU 0]] _ := hS.sel [0, 1] rfl
 refine s_reg [] [0, 2, 4] (fS [0, 2, 4] [vL g9 y8, vP b1, vO]) [] H14 (by kernel_rfl) trivial fun _ _ H16 hb => ?_
 replace hS := hS.below hb
 clear H14 hb
 refine s_reg [] [0, 2, 4, 5] (fS [0, 2, 4, 5] [vL g9 y8, vP b1, vO, vO]) [] H16 (by kernel_rfl) trivial fun _ _ H18 hb => ?_
 replace hS := hS.below hb
 clear H16 hb
 refine s_reg [] [0, 2, 4, 5, 6] (fS [0, 2, 4, 5, 6] [vL g9 y8, vP b1, vO, vO, vI 0]) [] H18 (by kernel_rfl) trivial fun _ _ H20 hb => ?_
 replace hS := hS.below hb
 clear H18 hb
 obtain ⟨z21, hz, hm_z21⟩ := bindE hm
 refine w_cut (fun a' w' => ∃ s_z21 : (List Int) × (List Int) × Int, z21 = Sum.inr s_z21 ∧ ∃ (g113 : Gh) (g115 : Gh), Fr 146 (fS [2, 4, 5, 6] [vP b1, vL g113 s_z21.1, vL g115 s_z21.2.1, vI s_z21.2.2]) a' ∧ SH M X w [eO 2 (tI .i64) s_z21.1 g113, eO 3 (tI .i64) s_z21.2.1 g115, eO 51 tyValue y8 g9, eB b1 [vU 0, vU 0, vU 0, vU 0]] w') ?_ ?_
 ·replace hm := hz
  refine s_reg [] [0, 2, 4, 5, 6, 7] (fS [0, 2, 4, 5, 6, 7] [vL g9 y8, vP b1, vO, vO, vI 0, vI 0]) [] H20 (by kernel_rfl) trivial fun _ _ H23 hb => ?_
  replace hS := hS.below hb
  clear H20 hb
  apply w_block
  replace hS : SH M X w [eO 2 (tI .i64) ([] : List Int) (.nil), eO 51 tyValue y8 g9, eB b1 [vU 0, vU 0, vU 0, vU 0]] _ := hS.addNil 2 (tI .i64)
  replace hS : SH M X w [eO 3 (tI .i64) ([] : List Int) (.nil), eO 2 (tI .i64) ([] : List Int) (.nil), eO 51 tyValue y8 g9, eB b1 [vU 0, vU 0, vU 0, vU 0]] _ := hS.addNil 3 (tI .i64)
  refine w_loop (fun kk a' w' => ∃ (v26 : List Int) (v28 : List Int) (v30 : Int) (v31 : Int) (g27 : Gh) (g29 : Gh), r26_rgb_L1 m y8 kk v26 v28 v30 v31 = some _ ∧ Fr 146 (fS [0, 2, 4, 5, 6, 7] [vL g9 y8, vP b1, vL g27 v26, vL g29 v28, vI v30, vI v31]) a' ∧ SH M X w [eO 3 (tI .i64) v28 g29, eO 2 (tI .i64) v26 g27, eO 51 tyValue y8 g9, eB b1 [vU 0, vU 0, vU 0, vU 0]] w') ⟨_, ([] : List Int), ([] : List Int), 0, 0, Gh.nil, Gh.nil, hm, FrG.keep (ks := [0, 2, 4, 5, 6, 7]) H23 (by kernel_rfl), hS⟩ ?_
  clear hm H23 hS
  rintro kk _ _ ⟨v26, v28, v30, v31, g27, g29, hm, H, hS⟩
  cases kk with
  | zero => exact noneE hm
  | succ kk =>
   rw [r26_rgb_L1] at hm
   apply w_seq
   refine s_reg [] [0, 2, 4, 5, 6, 7, 17] (fS [0, 2, 4, 5, 6, 7, 17] [vL g9 y8, vP b1, vL g27 v26, vL g29 v28, vI v30, vI v31, vB (decide (v31 < (ln y8)))]) [] H (by kernel_rfl) trivial fun _ _ H33 hb => ?_
   replace hS := hS.below hb
   clear H hb
   refine w_if H33 rfl (fun hc => ?_) (fun hc => ?c111)
   case c111 =>
    replace hm := bF hc hm
    apply w_exit rfl
    obtain rfl := someE hm
    replace hS : SH M X w [eO 2 (tI .i64) v26 g27, eO 3 (tI .i64) v28 g29, eO 51 tyValue y8 g9, eB b1 [vU 0, vU 0, vU 0, vU 0]] _ := hS.sel [1, 0, 2, 3] rfl
    exact ⟨_, rfl, g27, g29, FrG.keep (ks := [2, 4, 5, 6]) H33 (by kernel_rfl), hS⟩
   replace hm := bT hc hm
   apply w_skip
   obtain ⟨z34, hz, hm_z34⟩ := bindE hm
   refine w_cut (fun a' w' => ∃ s_z34 : Int × (List Int) × (List Int), z34 = Sum.inr s_z34 ∧ ∃ (g106 : Gh) (g107 : Gh), Fr 146 (fS [0, 2, 7, 4, 5, 6] [vL g9 y8, vP b1, vI v31, vL g107 s_z34.2.2, vL g106 s_z34.2.1, vI s_z34.1]) a' ∧ SH M X w [eO 3 (tI .i64) s_z34.2.1 g106, eO 2 (tI .i64) s_z34.2.2 g107, eO 51 tyValue y8 g9, eB b1 [vU 0, vU 0, vU 0, vU 0]] w') ?_ ?_
   ·replace hm := hz
    apply w_block
    apply w_seq
    apply wl_start
    obtain ⟨ho35, hm⟩ := chkE hm
    refine wl_batch 0 5 [(vG [vU ((gi y8 v31).Token.Kind), vS (gi y8 v31).Token.Text, vI ((gi y8 v31).Token.Num), vS (gi y8 v31).Token.Unit, vB ((gi y8 v31).Token.Flag)])] [0, 2, 4, 5, 6, 7, 24] (fS [0, 2, 4, 5, 6, 7, 24] [vL g9 y8, vP b1, vL g27 v26, vL g29 v28, vI v30, vI v31, vG [vU ((gi y8 v31).Token.Kind), vS (gi y8 v31).Token.Text, vI ((gi y8 v31).Token.Num), vS (gi y8 v31).Token.Unit, vB ((gi y8 v31).Token.Flag)]]) [fun _ => oka g9.a ∧ 0 ≤ v31 ∧ v31 < ln y8, fun wz => V.atN (ab g9.a) (ao g9.a + (v31).toNat * 6) [vU ((gi y8 v31).Token.Kind), vS (gi y8 v31).Token.Text, vI ((gi y8 v31).Token.Num), vS (gi y8 v31).Token.Unit, vB ((gi y8 v31).Token.Flag)] 0 wz] H33 (by decide) (by kernel_rfl) ⟨((hS.osl 2 rfl).oki ho35), ((hS.osl 2 rfl).atA ho35 0 rfl), trivial⟩ fun _ _ H37 hb => ?_
    replace hS := hS.below hb
    clear H33 hb
    have hd := hS.hand [] [0, 1, 2, 3] rfl rfl
    refine m_stp [8, 0, 2, 4, 5, 6, 7, 24] (fS [0, 2, 4, 5, 6, 7, 24] [vL g9 y8, vP b1, vL g27 v26, vL g29 v28, vI v30, vI v31, vG [vU ((gi y8 v31).Token.Kind), vS (gi y8 v31).Token.Text, vI ((gi y8 v31).Token.Num), vS (gi y8 v31).Token.Unit, vB ((gi y8 v31).Token.Flag)]]) H37 rfl rfl rfl rfl (o_alloc [vU 0, vN, vI 0, vN, vF] (z := vG [vU 0, vN, vI 0, vN, vF]) hd (by kernel_rfl) rfl) (fun _ => rfl) fun _ _ v H40 hq => ?_
    clear H37 hd
    obtain ⟨b38, rfl, hq⟩ := hq
    replace hS : SH M X w [eB b38 [vU 0, vN, vI 0, vN, vF], eO 3 (tI .i64) v28 g29, eO 2 (tI .i64) v26 g27, eO 51 tyValue y8 g9, eB b1 [vU 0, vU 0, vU 0, vU 0]] _ := hS.join [] [0, 1, 2, 3] rfl rfl hq
    clear hq
    have hd := hS.hand [0] [1, 2, 3, 4] rfl rfl
    refine m_stp0 [0, 2, 4, 5, 6, 7, 8] (fS [0, 2, 4, 5, 6, 7, 8] [vL g9 y8, vP b1, vL g27 v26, vL g29 v28, vI v30, vI v31, vP b38]) H40 rfl rfl rfl (o_store [vU ((gi y8 v31).Token.Kind), vS (gi y8 v31).Token.Text, vI ((gi y8 v31).Token.Num), vS (gi y8 v31).Token.Unit, vB ((gi y8 v31).Token.Flag)] H40 hd rfl rfl (by kernel_rfl) rfl rfl rfl) rfl fun _ _ H42 hq => ?_
    clear H40 hd
    obtain ⟨_, hq⟩ := hq
    replace hS : SH M X w [eB b38 [vU ((gi y8 v31).Token.Kind), vS (gi y8 v31).Token.Text, vI ((gi y8 v31).Token.Num), vS (gi y8 v31).Token.Unit, vB ((gi y8 v31).Token.Flag)], eO 3 (tI .i64) v28 g29, eO 2 (tI .i64) v26 g27, eO 51 tyValue y8 g9, eB b1 [vU 0, vU 0, vU 0, vU 0]] _ := hS.join [0] [1, 2, 3, 4] rfl rfl hq
    clear hq
    apply wl_end rfl
    apply w_block
    refine s_reg [(vU ((gi y8 v31).Token.Kind))] [0, 2, 4, 5, 6, 7, 8, 26] (fS [0, 2, 4, 5, 6, 7, 8, 26] [vL g9 y8, vP b1, vL g27 v26, vL g29 v28, vI v30, vI v31, vP b38, vB (((gi y8 v31).Token.Kind) == 10)]) [rA b38 0 (vU ((gi y8 v31).Token.Kind))] H42 (by kernel_rfl) ⟨((hS.bk 0 rfl).at1 rfl), trivial⟩ fun _ _ H44 hb => ?_
    replace hS := hS.below hb
    clear H42 hb
    refine w_if H44 rfl (fun hc => ?c105) (fun hc => ?_)
    case c105 =>
     replace hm := bT hc hm
     obtain ⟨z45, hz, hm⟩ := bindE hm
     refine w_cut (fun a' w' => ∃ (g62 : Gh), Fr 146 (fS [0, 2, 4, 7, 8, 5] [vL g9 y8, vP b1, vL g27 v26, vI v31, vP b38, vL g62 z45]) a' ∧ SH M X w [eB b38 [vU ((gi y8 v31).Token.Kind), vS (gi y8 v31).Token.Text, vI ((gi y8 v31).Token.Num), vS (gi y8 v31).Token.Unit, vB ((gi y8 v31).Token.Flag)], eO 3 (tI .i64) z45 g62, eO 2 (tI .i64) v26 g27, eO 51 tyValue y8 g9, eB b1 [vU 0, vU 0, vU 0, vU 0]] w') ?_ ?_
     ·replace hm := hz
      refine s_reg [] [0, 2, 4, 5, 6, 7, 8, 32] (fS [0, 2, 4, 5, 6, 7, 8, 32] [vL g9 y8, vP b1, vL g27 v26, vL g29 v28, vI v30, vI v31, vP b38, vB (decide (0 < (ln v26)))]) [] H44 (by kernel_rfl) trivial fun _ _ H47 hb => ?_
      replace hS := hS.below hb
      clear H44 hb
      refine w_if H47 rfl (fun hc => ?_) (fun hc => ?c61)
      case c61 =>
       replace hm := bF hc hm
       apply w_skip
       obtain rfl := someE hm
       exact ⟨g29, FrG.keep (ks := [0, 2, 4, 7, 8, 5]) H47 (by kernel_rfl), hS⟩
      replace hm := bT hc hm
      apply wl_start
      refine wl_batch 0 2 [] [0, 2, 4, 7, 8, 33, 34] (fS [0, 2, 4, 7, 8, 33, 34] [vL g9 y8, vP b1, vL g27 v26, vI v31, vP b38, vL g29 v28, vI v30]) [] H47 (by decide) (by kernel_rfl) trivial fun _ _ H49 hb => ?_
      replace hS := hS.below hb
      clear H47 hb
      have hd := hS.hand [] [0, 1, 2, 3, 4] rfl rfl
      refine m_stp [35, 0, 2, 4, 7, 8, 33] (fS [0, 2, 4, 7, 8, 33] [vL g9 y8, vP b1, vL g27 v26, vI v31, vP b38, vL g29 v28]) H49 rfl rfl rfl rfl (o_lit (T := (tI .i64)) (E := 3) (zv := vI 0) [vI v30] ([v30] : List Int) [gL []] _ H49 hd rfl (by kernel_rfl) (by kernel_rfl) (by kernel_rfl) (by kernel_rfl) (by kernel_rfl) (by kernel_rfl) (by kernel_rfl) rfl (InnL.cons trivial InnL.nil)) (fun _ => rfl) fun _ _ v H53 hq => ?_
      clear H49 hd
      obtain ⟨g50, rfl, hq⟩ := hq
      replace hS : SH M X w [eO 3 (tI .i64) ([v30] : List Int) g50, eB b38 [vU ((gi y8 v31).Token.Kind), vS (gi y8 v31).Token.Text, vI ((gi y8 v31).Token.Num), vS (gi y8 v31).Token.Unit, vB ((gi y8 v31).Token.Flag)], eO 3 (tI .i64) v28 g29, eO 2 (tI .i64) v26 g27, eO 51 tyValue y8 g9, eB b1 [vU 0, vU 0, vU 0, vU 0]] _ := hS.join [] [0, 1, 2, 3, 4] rfl rfl hq
      clear hq
      obtain ⟨ho54, hm⟩ := chkE hm
      obtain ⟨q55, hq55, hm⟩ := letE hm
      have hd := hS.hand [2, 0] [1, 3, 4, 5] rfl rfl
      refine m_stp [36, 0, 2, 4, 7, 8] (fS [0, 2, 4, 7, 8] [vL g9 y8, vP b1, vL g27 v26, vI v31, vP b38]) H53 rfl rfl rfl rfl (o_app2 (T := (tI .i64)) (zv := vI 0) (g1 := g29) (g2 := g50) (l1 := v28) (l2 := ([v30] : List Int)) q55 hq55.symm H53 hd rfl rfl rfl rfl rfl rfl rfl (by kernel_rfl) (by kernel_rfl) rfl rfl ho54) (fun _ => rfl) fun _ _ v H57 hq => ?_
      clear H53 hd
      obtain ⟨g58, rfl, hq⟩ := hq
      replace hS : SH M X w [eO 3 (tI .i64) q55 g58, eO 3 (tI .i64) ([v30] : List Int) g50, eB b38 [vU ((gi y8 v31).Token.Kind), vS (gi y8 v31).Token.Text, vI ((gi y8 v31).Token.Num), vS (gi y8 v31).Token.Unit, vB ((gi y8 v31).Token.Flag)], eO 2 (tI .i64) v26 g27, eO 51 tyValue y8 g9, eB b1 [vU 0, vU 0, vU 0, vU 0]] _ := hS.join [2, 0] [1, 3, 4, 5] rfl rfl hq
      clear hq
      refine wl_batch 4 5 [] [0, 2, 4, 5, 7, 8] (fS [0, 2, 4, 5, 7, 8] [vL g9 y8, vP b1, vL g27 v26, vL g58 q55, vI v31, vP b38]) [] H57 (by decide) (by kernel_rfl) trivial fun _ _ H60 hb => ?_
      replace hS := hS.below hb
      clear H57 hb
      apply wl_end rfl
      replace hS : SH M X w [eO 3 (tI .i64) q55 g58, eB b38 [vU ((gi y8 v31).Token.Kind), vS (gi y8 v31).Token.Text, vI ((gi y8 v31).Token.Num), vS (gi y8 v31).Token.Unit, vB ((gi y8 v31).Token.Flag)], eO 2 (tI .i64) v26 g27, eO 51 tyValue y8 g9, eB b1 [vU 0, vU 0, vU 0, vU 0]] _ := hS.sel [0, 2, 3, 4, 5] rfl
      obtain rfl := someE hm
      replace hS : SH M X w [eB b38 [vU ((gi y8 v31).Token.Kind), vS (gi y8 v31).Token.Text, vI ((gi y8 v31).Token.Num), vS (gi y8 v31).Token.Unit, vB ((gi y8 v31).Token.Flag)], eO 3 (tI .i64) q55 g58, eO 2 (tI .i64) v26 g27, eO 51 tyValue y8 g9, eB b1 [vU 0, vU 0, vU 0, vU 0]] _ := hS.sel [1, 0, 2, 3, 4] rfl
      exact ⟨g58, FrG.keep (ks := [0, 2, 4, 7, 8, 5]) H60 (by kernel_rfl), hS⟩
     ·rintro _ _ ⟨g62, H, hS⟩
      apply w_seq
      apply wl_start
      refine wl_batch 0 3 [(vI ((gi y8 v31).Token.Num))] [0, 2, 5, 7, 37, 39] (fS [0, 2, 5, 7, 37, 39] [vL g9 y8, vP b1, vL g62 z45, vI v31, vL g27 v26, vI ((gi y8 v31).Token.Num)]) [rA b38 2 (vI ((gi y8 v31).Token.Num))] H (by decide) (by kernel_rfl) ⟨((hS.bk 0 rfl).at1 rfl), trivial⟩ fun _ _ H64 hb => ?_
      replace hS := hS.below hb
      clear H hb
      have hd := hS.hand [] [0, 1, 2, 3, 4] rfl rfl
      refine m_stp [40, 0, 2, 5, 7, 37] (fS [0, 2, 5, 7, 37] [vL g9 y8, vP b1, vL g62 z45, vI v31, vL g27 v26]) H64 rfl rfl rfl rfl (o_lit (T := (tI .i64)) (E := 2) (zv := vI 0) [vI ((gi y8 v31).Token.Num)] ([(gi y8 v31).Token.Num] : List Int) [gL []] _ H64 hd rfl (by kernel_rfl) (by kernel_rfl) (by kernel_rfl) (by kernel_rfl) (by kernel_rfl) (by kernel_rfl) (by kernel_rfl) rfl (InnL.cons trivial InnL.nil)) (fun _ => rfl) fun _ _ v H68 hq => ?_
      clear H64 hd
      obtain ⟨g65, rfl, hq⟩ := hq
      replace hS : SH M X w [eO 2 (tI .i64) ([(gi y8 v31).Token.Num] : List Int) g65, eB b38 [vU ((gi y8 v31).Token.Kind), vS (gi y8 v31).Token.Text, vI ((gi y8 v31).Token.Num), vS (gi y8 v31).Token.Unit, vB ((gi y8 v31).Token.Flag)], eO 3 (tI .i64) z45 g62, eO 2 (tI .i64) v26 g27, eO 51 tyValue y8 g9, eB b1 [vU 0, vU 0, vU 0, vU 0]] _ := hS.join [] [0, 1, 2, 3, 4] rfl rfl hq
      clear hq
      obtain ⟨ho69, hm⟩ := chkE hm
      obtain ⟨q70, hq70, hm⟩ := letE hm
      have hd := hS.hand [3, 0] [1, 2, 4, 5] rfl rfl
      refine m_stp [41, 0, 2, 5, 7] (fS [0, 2, 5, 7] [vL g9 y8, vP b1, vL g62 z45, vI v31]) H68 rfl rfl rfl rfl (o_app2 (T := (tI .i64)) (zv := vI 0) (g1 := g27) (g2 := g65) (l1 := v26) (l2 := ([(gi y8 v31).Token.Num] : List Int)) q70 hq70.symm H68 hd rfl rfl rfl rfl rfl rfl rfl (by kernel_rfl) (by kernel_rfl) rfl rfl ho69) (fun _ => rfl) fun _ _ v H72 hq => ?_
      clear H68 hd
      obtain ⟨g73, rfl, hq⟩ := hq
      replace hS : SH M X w [eO 2 (tI .i64) q70 g73, eO 2 (tI .i64) ([(gi y8 v31).Token.Num] : List Int) g65, eB b38 [vU ((gi y8 v31).Token.Kind), vS (gi y8 v31).Token.Text, vI ((gi y8 v31).Token.Num), vS (gi y8 v31).Token.Unit, vB ((gi y8 v31).Token.Flag)], eO 3 (tI .i64) z45 g62, eO 51 tyValue y8 g9, eB b1 [vU 0, vU 0, vU 0, vU 0]] _ := hS.join [3, 0] [1, 2, 4, 5] rfl rfl hq
      clear hq
      refine wl_batch 5 6 [] [0, 2, 4, 5, 7] (fS [0, 2, 4, 5, 7] [vL g9 y8, vP b1, vL g73 q70, vL g62 z45, vI v31]) [] H72 (by decide) (by kernel_rfl) trivial fun _ _ H75 hb => ?_
      replace hS := hS.below hb
      clear H72 hb
      apply wl_end rfl
      replace hS : SH M X w [eO 2 (tI .i64) q70 g73, eO 3 (tI .i64) z45 g62, eO 51 tyValue y8 g9, eB b1 [vU 0, vU 0, vU 0, vU 0]] _ := hS.sel [0, 3, 4, 5] rfl
      refine w_reg [] [0, 2, 4, 5, 6, 7] (fS [0, 2, 4, 5, 6, 7] [vL g9 y8, vP b1, vL g73 q70, vL g62 z45, vI 0, vI v31]) [] H75 (by kernel_rfl) trivial fun _ _ H77 hb => ?_
      replace hS := hS.below hb
      clear H75 hb
      obtain rfl := someE hm
      replace hS : SH M X w [eO 3 (tI .i64) z45 g62, eO 2 (tI .i64) q70 g73, eO 51 tyValue y8 g9, eB b1 [vU 0, vU 0, vU 0, vU 0]] _ := hS.sel [1, 0, 2, 3] rfl
      exact ⟨_, rfl, g62, g73, FrG.keep (ks := [0, 2, 7, 4, 5, 6]) H77 (by kernel_rfl), hS⟩
    replace hm := bF hc hm
    refine s_reg [] [0, 2, 4, 5, 7, 8, 42] (fS [0, 2, 4, 5, 7, 8, 42] [vL g9 y8, vP b1, vL g27 v26, vL g29 v28, vI v31, vP b38, vB (cond (v30 != 0) true ((ln v26) == 0))]) [] H44 (by kernel_rfl) trivial fun _ _ H80 hb => ?_
    replace hS := hS.below hb
    clear H44 hb
    refine w_if H80 rfl (fun hc => ?c104) (fun hc => ?_)
    case c104 =>
     replace hm := bT hc hm
     apply w_seq
     apply wl_start
     refine wl_batch 0 1 [] [2, 50] (fS [2, 50] [vP b1, vG [vU 0, vU 0, vU 0, vU 0]]) [] H80 (by decide) (by kernel_rfl) trivial fun _ _ H82 hb => ?_
     replace hS := hS.below hb
     clear H80 hb
     have hd := hS.hand [4] [0, 1, 2, 3] rfl rfl
     refine m_stp0 [2] [(2, [], vP b1)] H82 rfl rfl rfl (o_store [vU 0, vU 0, vU 0, vU 0] H82 hd rfl rfl (by kernel_rfl) rfl rfl rfl) rfl fun _ _ H84 hq => ?_
     clear H82 hd
     obtain ⟨_, hq⟩ := hq
     replace hS : SH M X w [eB b1 [vU 0, vU 0, vU 0, vU 0], eB b38 [vU ((gi y8 v31).Token.Kind), vS (gi y8 v31).Token.Text, vI ((gi y8 v31).Token.Num), vS (gi y8 v31).Token.Unit, vB ((gi y8 v31).Token.Flag)], eO 3 (tI .i64) v28 g29, eO 2 (tI .i64) v26 g27, eO 51 tyValue y8 g9] _ := hS.join [4] [0, 1, 2, 3] rfl rfl hq
     clear hq
     refine wl_batch 2 3 [] [2, 3] (fS [2, 3] [vP b1, vF]) [] H84 (by decide) (by kernel_rfl) trivial fun _ _ H86 hb => ?_
     replace hS := hS.below hb
     clear H84 hb
     apply wl_end rfl
     replace hS : SH M X w [eB b1 [vU 0, vU 0, vU 0, vU 0], eO 3 (tI .i64) v28 g29, eO 2 (tI .i64) v26 g27, eO 51 tyValue y8 g9] _ := hS.sel [0, 2, 3, 4] rfl
     apply w_ret
     obtain rfl := someE hm
     have hm := hm_z34
     obtain rfl := someE hm
     have hm := hm_z21
     obtain rfl := someE hm
     exact retR2 H86 rfl (oneRes_agg rfl (hS.bk 0 rfl) Tryz.underlying55 rfl (by kernel_rfl)) rfl ⟨_, rfl, rfl, (hS.sel [] rfl)⟩
    replace hm := bF hc hm
    refine s_reg [(vU ((gi y8 v31).Token.Kind))] [0, 2, 4, 5, 7, 8, 51] (fS [0, 2, 4, 5, 7, 8, 51] [vL g9 y8, vP b1, vL g27 v26, vL g29 v28, vI v31, vP b38, vB (((gi y8 v31).Token.Kind) == 18)]) [rA b38 0 (vU ((gi y8 v31).Token.Kind))] H80 (by kernel_rfl) ⟨((hS.bk 0 rfl).at1 rfl), trivial⟩ fun _ _ H88 hb => ?_
    replace hS := hS.below hb
    clear H80 hb
    refine w_if H88 rfl (fun hc => ?c103) (fun hc => ?_)
    case c103 =>
     replace hm := bT hc hm
     refine w_reg [] [0, 2, 4, 5, 6, 7] (fS [0, 2, 4, 5, 6, 7] [vL g9 y8, vP b1, vL g27 v26, vL g29 v28, vI 1, vI v31]) [] H88 (by kernel_rfl) trivial fun _ _ H90 hb => ?_
     replace hS := hS.below hb
     clear H88 hb
     replace hS : SH M X w [eO 3 (tI .i64) v28 g29, eO 2 (tI .i64) v26 g27, eO 51 tyValue y8 g9, eB b1 [vU 0, vU 0, vU 0, vU 0]] _ := hS.sel [1, 2, 3, 4] rfl
     obtain rfl := someE hm
     exact ⟨_, rfl, g29, g27, FrG.keep (ks := [0, 2, 7, 4, 5, 6]) H90 (by kernel_rfl), hS⟩
    replace hm := bF hc hm
    obtain ⟨x91, hx91, hm⟩ := letE hm
    refine s_reg [(vU ((gi y8 v31).Token.Kind)), (vS (gi y8 v31).Token.Text)] [0, 2, 4, 5, 7, 55] (fS [0, 2, 4, 5, 7, 55] [vL g9 y8, vP b1, vL g27 v26, vL g29 v28, vI v31, vB x91]) [rA b38 0 (vU ((gi y8 v31).Token.Kind)), fun wz => ((((gi y8 v31).Token.Kind) == 9) = true ∧ True → V.at1 ⟨b38, 1, none⟩ (vS (gi y8 v31).Token.Text) wz)] H88 (by subst hx91; kernel_rfl) ⟨((hS.bk 0 rfl).at1 rfl), fun hg => (hS.bk 0 rfl).at1 rfl, trivial⟩ fun _ _ H93 hb => ?_
    replace hS := hS.below hb
    clear H88 hb
    replace hS : SH M X w [eO 3 (tI .i64) v28 g29, eO 2 (tI .i64) v26 g27, eO 51 tyValue y8 g9, eB b1 [vU 0, vU 0, vU 0, vU 0]] _ := hS.sel [1, 2, 3, 4] rfl
    refine w_if H93 rfl (fun hc => ?c102) (fun hc => ?_)
    case c102 =>
     replace hm := bT hc hm
     refine w_reg [] [0, 2, 4, 5, 6, 7] (fS [0, 2, 4, 5, 6, 7] [vL g9 y8, vP b1, vL g27 v26, vL g29 v28, vI 2, vI v31]) [] H93 (by kernel_rfl) trivial fun _ _ H95 hb => ?_
     replace hS := hS.below hb
     clear H93 hb
     obtain rfl := someE hm
     exact ⟨_, rfl, g29, g27, FrG.keep (ks := [0, 2, 7, 4, 5, 6]) H95 (by kernel_rfl), hS⟩
    replace hm := bF hc hm
    apply w_seq
    apply wl_start
    refine wl_batch 0 1 [] [2, 25] (fS [2, 25] [vP b1, vG [vU 0, vU 0, vU 0, vU 0]]) [] H93 (by decide) (by kernel_rfl) trivial fun _ _ H97 hb => ?_
    replace hS := hS.below hb
    clear H93 hb
    have hd := hS.hand [3] [0, 1, 2] rfl rfl
    refine m_stp0 [2] [(2, [], vP b1)] H97 rfl rfl rfl (o_store [vU 0, vU 0, vU 0, vU 0] H97 hd rfl rfl (by kernel_rfl) rfl rfl rfl) rfl fun _ _ H99 hq => ?_
    clear H97 hd
    obtain ⟨_, hq⟩ := hq
    replace hS : SH M X w [eB b1 [vU 0, vU 0, vU 0, vU 0], eO 3 (tI .i64) v28 g29, eO 2 (tI .i64) v26 g27, eO 51 tyValue y8 g9] _ := hS.join [3] [0, 1, 2] rfl rfl hq
    clear hq
    refine wl_batch 2 3 [] [2, 3] (fS [2, 3] [vP b1, vF]) [] H99 (by decide) (by kernel_rfl) trivial fun _ _ H101 hb => ?_
    replace hS := hS.below hb
    clear H99 hb
    apply wl_end rfl
    apply w_ret
    obtain rfl := someE hm
    have hm := hm_z34
    obtain rfl := someE hm
    have hm := hm_z21
    obtain rfl := someE hm
    exact retR2 H101 rfl (oneRes_agg rfl (hS.bk 0 rfl) Tryz.underlying55 rfl (by kernel_rfl)) rfl ⟨_, rfl, rfl, (hS.sel [] rfl)⟩
   ·rintro _ _ ⟨s_z34, hz, g106, g107, H, hS⟩
    subst hz
    replace hm := sumR hm_z34
    refine w_reg [] [0, 2, 4, 5, 6, 7] (fS [0, 2, 4, 5, 6, 7] [vL g9 y8, vP b1, vL g107 s_z34.2.2, vL g106 s_z34.2.1, vI s_z34.1, vI (w64 (v31 + 1))]) [] H (by kernel_rfl) trivial fun _ _ H109 hb => ?_
    replace hS := hS.below hb
    clear H hb
    exact ⟨_, Nat.lt_succ_self _, s_z34.2.2, s_z34.2.1, s_z34.1, w64 (v31 + 1), g107, g106, hm, FrG.keep (ks := [0, 2, 4, 5, 6, 7]) H109 (by kernel_rfl), hS⟩
 ·rintro _ _ ⟨s_z21, hz, g113, g115, H, hS⟩
  subst hz
  replace hm := sumR hm_z21
  replace hS : SH M X w [eO 2 (tI .i64) s_z21.1 g113, eO 3 (tI .i64) s_z21.2.1 g115, eB b1 [vU 0, vU 0, vU 0, vU 0]] _ := hS.sel [0, 1, 3] rfl
  apply w_seq
  obtain ⟨x117, hx117, hm⟩ := letE hm
  obtain ⟨ho118, hm⟩ := chkE hm
  obtain ⟨x119, hx119, hm⟩ := letE hm
  obtain ⟨ho120, hm⟩ := chkE hm
  obtain ⟨ho121, hm⟩ := chkE hm
  obtain ⟨x122, hx122, hm⟩ := letE hm
  refine s_draw [(vI (gi s_z21.2.1 (0 : Int))), (vI (gi s_z21.2.1 (1 : Int))), (vI (gi s_z21.2.1 (0 : Int)))] [2, 4, 5, 90] (fS [2, 4, 5, 90] [vP b1, vL g113 s_z21.1, vL g115 s_z21.2.1, vB x122]) [fun _ => (x117 = false ∧ True → oka g115.a ∧ 0 ≤ (0 : Int) ∧ (0 : Int) < ln s_z21.2.1), fun wz => (x117 = false ∧ True → V.at1 ⟨ab g115.a, ao g115.a + ((0 : Int)).toNat * 1, none⟩ (vI (gi s_z21.2.1 (0 : Int))) wz), fun _ => (x119 = false ∧ True → oka g115.a ∧ 0 ≤ (1 : Int) ∧ (1 : Int) < ln s_z21.2.1), fun wz => (x119 = false ∧ True → V.at1 ⟨ab g115.a, ao g115.a + ((1 : Int)).toNat * 1, none⟩ (vI (gi s_z21.2.1 (1 : Int))) wz), fun _ => (x119 = false ∧ True → oka g115.a ∧ 0 ≤ (0 : Int) ∧ (0 : Int) < ln s_z21.2.1), fun wz => (x119 = false ∧ True → V.at1 ⟨ab g115.a, ao g115.a + ((0 : Int)).toNat * 1, none⟩ (vI (gi s_z21.2.1 (0 : Int))) wz)] H (by kernel_rfl) (by kernel_rfl) (by subst hx117 hx119 hx122; kernel_rfl) ⟨fun hg => (hS.osl 1 rfl).oki (ho118 hg.1), fun hg => (hS.osl 1 rfl).at1 (ho118 hg.1) 0 rfl, fun hg => (hS.osl 1 rfl).oki (ho120 hg.1), fun hg => (hS.osl 1 rfl).at1 (ho120 hg.1) 0 rfl, fun hg => (hS.osl 1 rfl).oki (ho121 hg.1), fun hg => (hS.osl 1 rfl).at1 (ho121 hg.1) 0 rfl, trivial⟩ fun _ _ H124 hb => ?_
  replace hS := hS.below hb
  clear H hb
  refine w_if H124 rfl (fun hc => ?c188) (fun hc => ?_)
  case c188 =>
   replace hm := bT hc hm
   apply w_seq
   apply wl_start
   refine wl_batch 0 1 [] [2, 91] (fS [2, 91] [vP b1, vG [vU 0, vU 0, vU 0, vU 0]]) [] H124 (by decide) (by kernel_rfl) trivial fun _ _ H126 hb => ?_
   replace hS := hS.below hb
   clear H124 hb
   have hd := hS.hand [2] [0, 1] rfl rfl
   refine m_stp0 [2] [(2, [], vP b1)] H126 rfl rfl rfl (o_store [vU 0, vU 0, vU 0, vU 0] H126 hd rfl rfl (by kernel_rfl) rfl rfl rfl) rfl fun _ _ H128 hq => ?_
   clear H126 hd
   obtain ⟨_, hq⟩ := hq
   replace hS : SH M X w [eB b1 [vU 0, vU 0, vU 0, vU 0], eO 2 (tI .i64) s_z21.1 g113, eO 3 (tI .i64) s_z21.2.1 g115] _ := hS.join [2] [0, 1] rfl rfl hq
   clear hq
   refine wl_batch 2 3 [] [2, 3] (fS [2, 3] [vP b1, vF]) [] H128 (by decide) (by kernel_rfl) trivial fun _ _ H130 hb => ?_
   replace hS := hS.below hb
   clear H128 hb
   apply wl_end rfl
   replace hS : SH M X w [eB b1 [vU 0, vU 0, vU 0, vU 0]] _ := hS.sel [0] rfl
   apply w_ret
   obtain rfl := someE hm
   exact retR2 H130 rfl (oneRes_agg rfl (hS.bk 0 rfl) Tryz.underlying55 rfl (by kernel_rfl)) rfl ⟨_, rfl, rfl, (hS.sel [] rfl)⟩
  replace hm := bF hc hm
  apply w_skip
  refine s_reg [] [2, 4, 5, 9] (fS [2, 4, 5, 9] [vP b1, vL g113 s_z21.1, vL g115 s_z21.2.1, vI 1000]) [] H124 (by kernel_rfl) trivial fun _ _ H132 hb => ?_
  replace hS := hS.below hb
  clear H124 hb
  obtain ⟨z133, hz, hm_z133⟩ := bindE hm
  refine w_cut (fun a' w' => ∃ s_z133 : Int, z133 = Sum.inr s_z133 ∧ Fr 146 (fS [2, 4, 9] [vP b1, vL g113 s_z21.1, vI s_z133]) a' ∧ SH M X w [eO 2 (tI .i64) s_z21.1 g113, eO 3 (tI .i64) s_z21.2.1 g115, eB b1 [vU 0, vU 0, vU 0, vU 0]] w') ?_ ?_
  ·replace hm := hz
   refine s_reg [] [2, 4, 5, 9, 94] (fS [2, 4, 5, 9, 94] [vP b1, vL g113 s_z21.1, vL g115 s_z21.2.1, vI 1000, vB ((ln s_z21.1) == 4)]) [] H132 (by kernel_rfl) trivial fun _ _ H135 hb => ?_
   replace hS := hS.below hb
   clear H132 hb
   refine w_if H135 rfl (fun hc => ?_) (fun hc => ?c153)
   case c153 =>
    replace hm := bF hc hm
    apply w_skip
    obtain rfl := someE hm
    exact ⟨_, rfl, FrG.keep (ks := [2, 4, 9]) H135 (by kernel_rfl), hS⟩
   replace hm := bT hc hm
   apply w_seq
   obtain ⟨ho136, hm⟩ := chkE hm
   obtain ⟨ho137, hm⟩ := chkE hm
   obtain ⟨x138, hx138, hm⟩ := letE hm
   obtain ⟨ho139, hm⟩ := chkE hm
   obtain ⟨x140, hx140, hm⟩ := letE hm
   refine s_reg [(vI (gi s_z21.2.1 (0 : Int))), (vI (gi s_z21.2.1 (2 : Int))), (vI (gi s_z21.2.1 (0 : Int))), (vI (gi s_z21.2.1 (2 : Int)))] [2, 4, 116] (fS [2, 4, 116] [vP b1, vL g113 s_z21.1, vB x140]) [fun _ => oka g115.a ∧ 0 ≤ (0 : Int) ∧ (0 : Int) < ln s_z21.2.1, fun wz => V.at1 ⟨ab g115.a, ao g115.a + ((0 : Int)).toNat * 1, none⟩ (vI (gi s_z21.2.1 (0 : Int))) wz, fun _ => (((gi s_z21.2.1 (0 : Int)) == 1) = true ∧ True → oka g115.a ∧ 0 ≤ (2 : Int) ∧ (2 : Int) < ln s_z21.2.1), fun wz => (((gi s_z21.2.1 (0 : Int)) == 1) = true ∧ True → V.at1 ⟨ab g115.a, ao g115.a + ((2 : Int)).toNat * 1, none⟩ (vI (gi s_z21.2.1 (2 : Int))) wz), fun _ => (x138 = false ∧ True → oka g115.a ∧ 0 ≤ (0 : Int) ∧ (0 : Int) < ln s_z21.2.1), fun wz => (x138 = false ∧ True → V.at1 ⟨ab g115.a, ao g115.a + ((0 : Int)).toNat * 1, none⟩ (vI (gi s_z21.2.1 (0 : Int))) wz), fun _ => (((gi s_z21.2.1 (0 : Int)) == 0) = true ∧ x138 = false ∧ True → oka g115.a ∧ 0 ≤ (2 : Int) ∧ (2 : Int) < ln s_z21.2.1), fun wz => (((gi s_z21.2.1 (0 : Int)) == 0) = true ∧ x138 = false ∧ True → V.at1 ⟨ab g115.a, ao g115.a + ((2 : Int)).toNat * 1, none⟩ (vI (gi s_z21.2.1 (2 : Int))) wz)] H135 (by subst hx138 hx140; kernel_rfl) ⟨((hS.osl 1 rfl).oki ho136), ((hS.osl 1 rfl).at1 ho136 0 rfl), fun hg => (hS.osl 1 rfl).oki (ho137 hg.1), fun hg => (hS.osl 1 rfl).at1 (ho137 hg.1) 0 rfl, fun hg => (hS.osl 1 rfl).oki ho136, fun hg => (hS.osl 1 rfl).at1 ho136 0 rfl, fun hg => (hS.osl 1 rfl).oki (ho139 hg.1 hg.2.1), fun hg => (hS.osl 1 rfl).at1 (ho139 hg.1 hg.2.1) 0 rfl, trivial⟩ fun _ _ H142 hb => ?_
   replace hS := hS.below hb
   clear H135 hb
   refine w_if H142 rfl (fun hc => ?_) (fun hc => ?c152)
   case c152 =>
    replace hm := bF hc hm
    apply w_skip
    obtain ⟨ho149, hm⟩ := chkE hm
    refine w_reg [(vI (gi s_z21.1 (3 : Int))), (vI (r26_held (gi s_z21.1 (3 : Int)) 0 1000))] [2, 4, 9] (fS [2, 4, 9] [vP b1, vL g113 s_z21.1, vI (r26_held (gi s_z21.1 (3 : Int)) 0 1000)]) [fun _ => oka g113.a ∧ 0 ≤ (3 : Int) ∧ (3 : Int) < ln s_z21.1, fun wz => V.at1 ⟨ab g113.a, ao g113.a + ((3 : Int)).toNat * 1, none⟩ (vI (gi s_z21.1 (3 : Int))) wz, rB 152 [vI (gi s_z21.1 (3 : Int)), vI 0, vI 1000] (vI (r26_held (gi s_z21.1 (3 : Int)) 0 1000))] H142 (by kernel_rfl) ⟨((hS.osl 0 rfl).oki ho149), ((hS.osl 0 rfl).at1 ho149 0 rfl), ((r26_held_ok _ _ _).b), trivial⟩ fun _ _ H151 hb => ?_
    replace hS := hS.below hb
    clear H142 hb
    obtain rfl := someE hm
    exact ⟨_, rfl, FrG.keep (ks := [2, 4, 9]) H151 (by kernel_rfl), hS⟩
   replace hm := bT hc hm
   apply w_seq
   apply wl_start
   refine wl_batch 0 1 [] [2, 117] (fS [2, 117] [vP b1, vG [vU 0, vU 0, vU 0, vU 0]]) [] H142 (by decide) (by kernel_rfl) trivial fun _ _ H144 hb => ?_
   replace hS := hS.below hb
   clear H142 hb
   have hd := hS.hand [2] [0, 1] rfl rfl
   refine m_stp0 [2] [(2, [], vP b1)] H144 rfl rfl rfl (o_store [vU 0, vU 0, vU 0, vU 0] H144 hd rfl rfl (by kernel_rfl) rfl rfl rfl) rfl fun _ _ H146 hq => ?_
   clear H144 hd
   obtain ⟨_, hq⟩ := hq
   replace hS : SH M X w [eB b1 [vU 0, vU 0, vU 0, vU 0], eO 2 (tI .i64) s_z21.1 g113, eO 3 (tI .i64) s_z21.2.1 g115] _ := hS.join [2] [0, 1] rfl rfl hq
   clear hq
   refine wl_batch 2 3 [] [2, 3] (fS [2, 3] [vP b1, vF]) [] H146 (by decide) (by kernel_rfl) trivial fun _ _ H148 hb => ?_
   replace hS := hS.below hb
   clear H146 hb
   apply wl_end rfl
   apply w_ret
   obtain rfl := someE hm
   have hm := hm_z133
   obtain rfl := someE hm
   exact retR2 H148 rfl (oneRes_agg rfl (hS.bk 0 rfl) Tryz.underlying55 rfl (by kernel_rfl)) rfl ⟨_, rfl, rfl, (hS.sel [] rfl)⟩
  ·rintro _ _ ⟨s_z133, hz, H, hS⟩
   subst hz
   replace hm := sumR hm_z133
   replace hS : SH M X w [eO 2 (tI .i64) s_z21.1 g113, eB b1 [vU 0, vU 0, vU 0, vU 0]] _ := hS.sel [0, 2] rfl
   apply w_seq
   apply wl_start
   have hd := hS.hand [] [0, 1] rfl rfl
   refine m_stp [10, 2, 4, 9] (fS [2, 4, 9] [vP b1, vL g113 s_z21.1, vI s_z133]) H rfl rfl rfl rfl (o_allocR .u8 [0, 0, 0] (z := vG [vU 0, vU 0, vU 0]) hd (by kernel_rfl) rfl) (fun _ => rfl) fun _ _ v H156 hq => ?_
   clear H hd
   obtain ⟨b154, rfl, hq⟩ := hq
   replace hS : SH M X w [Ent.row .u8 b154 [0, 0, 0] (3 : Int), eO 2 (tI .i64) s_z21.1 g113, eB b1 [vU 0, vU 0, vU 0, vU 0]] _ := hS.join [] [0, 1] rfl rfl hq
   clear hq
   apply wl_end rfl
   obtain ⟨z157, hz, hm⟩ := bindE hm
   refine w_cut (fun a' w' => Fr 146 (fS [2, 9, 10] [vP b1, vI s_z133, vP b154]) a' ∧ SH M X w [Ent.row .u8 b154 z157 (3 : Int), eO 2 (tI .i64) s_z21.1 g113, eB b1 [vU 0, vU 0, vU 0, vU 0]] w') ?_ ?_
   ·replace hm := hz
    refine s_reg [] [2, 4, 9, 10, 11] (fS [2, 4, 9, 10, 11] [vP b1, vL g113 s_z21.1, vI s_z133, vP b154, vI 0]) [] H156 (by kernel_rfl) trivial fun _ _ H159 hb => ?_
    replace hS := hS.below hb
    clear H156 hb
    apply w_block
    refine w_loop (fun kk a' w' => ∃ (v160 : Int) (v161 : List Int), r26_rgb_L2 m s_z21 kk v160 v161 = some _ ∧ Fr 146 (fS [2, 4, 9, 10, 11] [vP b1, vL g113 s_z21.1, vI s_z133, vP b154, vI v160]) a' ∧ SH M X w [Ent.row .u8 b154 v161 (3 : Int), eO 2 (tI .i64) s_z21.1 g113, eB b1 [vU 0, vU 0, vU 0, vU 0]] w') ⟨_, 0, [0, 0, 0], hm, FrG.keep (ks := [2, 4, 9, 10, 11]) H159 (by kernel_rfl), hS⟩ ?_
    clear hm H159 hS
    rintro kk _ _ ⟨v160, v161, hm, H, hS⟩
    cases kk with
    | zero => exact noneE hm
    | succ kk =>
     rw [r26_rgb_L2] at hm
     apply w_seq
     refine s_reg [] [2, 4, 9, 10, 11, 123] (fS [2, 4, 9, 10, 11, 123] [vP b1, vL g113 s_z21.1, vI s_z133, vP b154, vI v160, vB (decide (v160 < 3))]) [] H (by kernel_rfl) trivial fun _ _ H163 hb => ?_
     replace hS := hS.below hb
     clear H hb
     refine w_if H163 rfl (fun hc => ?_) (fun hc => ?c174)
     case c174 =>
      replace hm := bF hc hm
      apply w_exit rfl
      obtain rfl := someE hm
      exact ⟨FrG.keep (ks := [2, 9, 10]) H163 (by kernel_rfl), hS⟩
     replace hm := bT hc hm
     apply w_skip
     apply w_seq
     apply w_block
     apply wl_start
     obtain ⟨ho164, hm⟩ := chkE hm
     obtain ⟨y165, hy165, hm⟩ := letE hm
     obtain ⟨ho166, hm⟩ := chkE hm
     refine wl_batch 0 9 [(vI (gi s_z21.1 v160)), (vI y165)] [2, 4, 9, 10, 11, 133, 134] (fS [2, 4, 9, 10, 11, 133, 134] [vP b1, vL g113 s_z21.1, vI s_z133, vP b154, vI v160, vU (wu8 y165), .pointer (some ⟨b154, 0 + (v160).toNat * 1, none⟩)]) [fun _ => oka g113.a ∧ 0 ≤ v160 ∧ v160 < ln s_z21.1, fun wz => V.at1 ⟨ab g113.a, ao g113.a + (v160).toNat * 1, none⟩ (vI (gi s_z21.1 v160)) wz, fun _ => (1000 : Int) ≠ 0, rB 152 [vI (w64 (Int.tdiv (gi s_z21.1 v160) 1000)), vI 0, vI 255] (vI y165), fun _ => 0 ≤ v160 ∧ v160 < (3 : Int)] H163 (by decide) (by subst hy165; kernel_rfl) ⟨((hS.osl 1 rfl).oki ho164), ((hS.osl 1 rfl).at1 ho164 0 rfl), (by show (1000 : Int) ≠ 0; decide), ((by rw [hy165]; exact (r26_held_ok _ _ _).b)), ho166, trivial⟩ fun _ _ H168 hb => ?_
     replace hS := hS.below hb
     clear H163 hb
     have hd := hS.hand [0] [1, 2] rfl rfl
     refine m_stp0 [2, 4, 9, 10, 11] (fS [2, 4, 9, 10, 11] [vP b1, vL g113 s_z21.1, vI s_z133, vP b154, vI v160]) H168 rfl rfl rfl (o_rstore H168 hd rfl rfl (by kernel_rfl) ho166) rfl fun _ _ H170 hq => ?_
     clear H168 hd
     obtain ⟨_, hq⟩ := hq
     obtain ⟨q171, hq171, hm⟩ := letE hm
     rw [← hq171] at hq
     replace hS : SH M X w [Ent.row .u8 b154 q171 (3 : Int), eO 2 (tI .i64) s_z21.1 g113, eB b1 [vU 0, vU 0, vU 0, vU 0]] _ := hS.join [0] [1, 2] rfl rfl hq
     clear hq
     apply wl_end rfl
     refine w_reg [] [2, 4, 9, 10, 11] (fS [2, 4, 9, 10, 11] [vP b1, vL g113 s_z21.1, vI s_z133, vP b154, vI (w64 (v160 + 1))]) [] H170 (by kernel_rfl) trivial fun _ _ H173 hb => ?_
     replace hS := hS.below hb
     clear H170 hb
     exact ⟨_, Nat.lt_succ_self _, w64 (v160 + 1), q171, hm, FrG.keep (ks := [2, 4, 9, 10, 11]) H173 (by kernel_rfl), hS⟩
   ·rintro _ _ ⟨H, hS⟩
    replace hS : SH M X w [Ent.row .u8 b154 z157 (3 : Int), eB b1 [vU 0, vU 0, vU 0, vU 0]] _ := hS.sel [0, 2] rfl
    apply w_seq
    apply wl_start
    obtain ⟨ho176, hm⟩ := chkE hm
    obtain ⟨ho177, hm⟩ := chkE hm
    obtain ⟨ho178, hm⟩ := chkE hm
    obtain ⟨x179, hx179, hm⟩ := letE hm
    refine wl_batch 0 11 [(vU (gi z157 (0 : Int))), (vU (gi z157 (1 : Int))), (vU (gi z157 (2 : Int)))] [2, 145] (fS [2, 145] [vP b1, vG [vU (gi z157 (0 : Int)), vU (gi z157 (1 : Int)), vU (gi z157 (2 : Int)), vU x179]]) [fun _ => 0 ≤ (0 : Int) ∧ (0 : Int) < (3 : Int), fun wz => V.at1 ⟨b154, 0 + ((0 : Int)).toNat * 1, none⟩ (vU (gi z157 (0 : Int))) wz, fun _ => 0 ≤ (1 : Int) ∧ (1 : Int) < (3 : Int), fun wz => V.at1 ⟨b154, 0 + ((1 : Int)).toNat * 1, none⟩ (vU (gi z157 (1 : Int))) wz, fun _ => 0 ≤ (2 : Int) ∧ (2 : Int) < (3 : Int), fun wz => V.at1 ⟨b154, 0 + ((2 : Int)).toNat * 1, none⟩ (vU (gi z157 (2 : Int))) wz, fun _ => (1000 : Int) ≠ 0] H (by decide) (by subst hx179; kernel_rfl) ⟨ho176, (Rw.ixn (hS.rw 0 rfl) ho176), ho177, (Rw.ixn (hS.rw 0 rfl) ho177), ho178, (Rw.ixn (hS.rw 0 rfl) ho178), (by show (1000 : Int) ≠ 0; decide), trivial⟩ fun _ _ H181 hb => ?_
    replace hS := hS.below hb
    clear H hb
    have hd := hS.hand [1] [0] rfl rfl
    refine m_stp0 [2] [(2, [], vP b1)] H181 rfl rfl rfl (o_store [vU (gi z157 (0 : Int)), vU (gi z157 (1 : Int)), vU (gi z157 (2 : Int)), vU x179] H181 hd rfl rfl (by kernel_rfl) rfl rfl rfl) rfl fun _ _ H183 hq => ?_
    clear H181 hd
    obtain ⟨_, hq⟩ := hq
    replace hS : SH M X w [eB b1 [vU (gi z157 (0 : Int)), vU (gi z157 (1 : Int)), vU (gi z157 (2 : Int)), vU x179], Ent.row .u8 b154 z157 (3 : Int)] _ := hS.join [1] [0] rfl rfl hq
    clear hq
    refine wl_batch 12 13 [] [2, 3] (fS [2, 3] [vP b1, vT]) [] H183 (by decide) (by kernel_rfl) trivial fun _ _ H185 hb => ?_
    replace hS := hS.below hb
    clear H183 hb
    apply wl_end rfl
    replace hS : SH M X w [eB b1 [vU (gi z157 (0 : Int)), vU (gi z157 (1 : Int)), vU (gi z157 (2 : Int)), vU x179]] _ := hS.sel [0] rfl
    apply w_ret
    obtain rfl := someE hm
    exact retR2 H185 rfl (oneRes_agg rfl (hS.bk 0 rfl) Tryz.underlying55 rfl (by kernel_rfl)) rfl ⟨_, rfl, rfl, (hS.sel [] rfl)⟩
theorem r26_rgb_ok {g_l_ : Gh} (m : Nat) (l_ : List TValue) (r : TColor × Bool) (hm : r26_rgb m l_ = some r) (w : World) (hL : S0 F0 [eI tyValue l_ g_l_] w ∧ fpl [eI tyValue l_ g_l_] = []) : RetB Tryz.prog 131 ⟨[vL g_l_ l_]⟩ (vW [vG (cC r.1), vB r.2]) w := retB_of hL (Tryz.call131 _) (fun w' h => r26_rgb_w F0 m   l_ r hm w' h)

theorem r26_color_w {g_v__0 : Gh} (M : Av) (m : Nat) (v_ : TValue) (r : TColor × Bool) (hm : r26_color m v_ = some r) (w : World) (hS : S0 M [eI tyValue v_.List_ g_v__0] w) : Calls Tryz.prog 116 ⟨[vG [vU v_.Token.Kind, vS v_.Token.Text, vI v_.Token.Num, vS v_.Token.Unit, vB v_.Token.Flag, vL g_v__0 v_.List_]]⟩ w (fun e w' => ∃ v, e = .returned v ∧ v = vW [vG (cC r.1), vB r.2] ∧ SH M (fpl [eI tyValue v_.List_ g_v__0]) w [] w') := by
 rw [r26_color] at hm
 have hS0 : SH M (fpl [eI tyValue v_.List_ g_v__0]) w [eI tyValue v_.List_ g_v__0] w := hS
 generalize hX : fpl [eI tyValue v_.List_ g_v__0] = X at hS0 ⊢
 clear hS hX
 have hS := hS0
 clear hS0
 refine calls_entryP Tryz.func116 rfl Tryz.ntmps116 rfl fun _ H => ?_
 apply w_seq
 apply wl_start
 have hd := hS.hand [] [0] rfl rfl
 refine m_stp [1] [] H rfl rfl rfl rfl (o_box [vU v_.Token.Kind, vS v_.Token.Text, vI v_.Token.Num, vS v_.Token.Unit, vB v_.Token.Flag, vL g_v__0 v_.List_] H hd rfl rfl) (fun _ => rfl) fun _ _ v H3 hq => ?_
 clear H hd
 obtain ⟨b1, rfl, hq⟩ := hq
 replace hS : SH M X w [eB b1 [vU v_.Token.Kind, vS v_.Token.Text, vI v_.Token.Num, vS v_.Token.Unit, vB v_.Token.Flag, vL g_v__0 v_.List_], eI tyValue v_.List_ g_v__0] _ := hS.join [] [0] rfl rfl hq
 clear hq
 have hd := hS.hand [] [0, 1] rfl rfl
 refine m_stp [2, 1] [(1, [], vP b1)] H3 rfl rfl rfl rfl (o_alloc [vU 0, vU 0, vU 0, vU 0] (z := vG [vU 0, vU 0, vU 0, vU 0]) hd (by kernel_rfl) rfl) (fun _ => rfl) fun _ _ v H6 hq => ?_
 clear H3 hd
 obtain ⟨b4, rfl, hq⟩ := hq
 replace hS : SH M X w [eB b4 [vU 0, vU 0, vU 0, vU 0], eB b1 [vU v_.Token.Kind, vS v_.Token.Text, vI v_.Token.Num, vS v_.Token.Unit, vB v_.Token.Flag, vL g_v__0 v_.List_], eI tyValue v_.List_ g_v__0] _ := hS.join [] [0, 1] rfl rfl hq
 clear hq
 refine wl_batch 2 3 [] [1, 2] (fS [1, 2] [vP b1, vP b4]) [] H6 (by decide) (by kernel_rfl) trivial fun _ _ H8 hb => ?_
 replace hS := hS.below hb
 clear H6 hb
 apply wl_end rfl
 obtain ⟨z9, hz, hm_z9⟩ := bindE hm
 refine w_cut (fun a' w' => ∃ s_z9 : Unit, z9 = Sum.inr s_z9 ∧ Fr 48 [(2, [], vP b4)] a' ∧ SH M X w [eB b4 [vU 0, vU 0, vU 0, vU 0], eB b1 [vU v_.Token.Kind, vS v_.Token.Text, vI v_.Token.Num, vS v_.Token.Unit, vB v_.Token.Flag, vL g_v__0 v_.List_], eI tyValue v_.List_ g_v__0] w') ?_ ?_
 ·replace hm := hz
  refine s_reg [(vU v_.Token.Kind)] [1, 2, 9] (fS [1, 2, 9] [vP b1, vP b4, vU v_.Token.Kind]) [rA b1 0 (vU v_.Token.Kind)] H8 (by kernel_rfl) ⟨((hS.bk 1 rfl).at1 rfl), trivial⟩ fun _ _ H11 hb => ?_
  replace hS := hS.below hb
  clear H8 hb
  apply w_block
  refine s_reg [] [1, 2, 9, 10] (fS [1, 2, 9, 10] [vP b1, vP b4, vU v_.Token.Kind, vB (v_.Token.Kind == 1)]) [] H11 (by kernel_rfl) trivial fun _ _ H13 hb => ?_
  replace hS := hS.below hb
  clear H11 hb
  refine w_if H13 rfl (fun hc => ?c57) (fun hc => ?_)
  case c57 =>
   replace hm := bT hc hm
   apply w_seq
   apply wl_start
   obtain ⟨y14, hy14, hm⟩ := bindE hm
   refine wl_batch 0 7 [(vS v_.Token.Text), (vW [vG (cC y14.1), vI y14.2])] [2, 17, 18] (fS [2, 17, 18] [vP b4, vG (cC y14.1), vI y14.2]) [rA b1 1 (vS v_.Token.Text), rB 129 [vS v_.Token.Text] (vW [vG (cC y14.1), vI y14.2])] H13 (by decide) (by kernel_rfl) ⟨((hS.bk 1 rfl).at1 rfl), ((r26_Named_ok m _ _ hy14).b), trivial⟩ fun _ _ H16 hb => ?_
   replace hS := hS.below hb
   clear H13 hb
   have hd := hS.hand [] [0, 1, 2] rfl rfl
   refine m_stp [4, 2, 17, 18] (fS [2, 17, 18] [vP b4, vG (cC y14.1), vI y14.2]) H16 rfl rfl rfl rfl (o_alloc [vU 0, vU 0, vU 0, vU 0] (z := vG [vU 0, vU 0, vU 0, vU 0]) hd (by kernel_rfl) rfl) (fun _ => rfl) fun _ _ v H19 hq => ?_
   clear H16 hd
   obtain ⟨b17, rfl, hq⟩ := hq
   replace hS : SH M X w [eB b17 [vU 0, vU 0, vU 0, vU 0], eB b4 [vU 0, vU 0, vU 0, vU 0], eB b1 [vU v_.Token.Kind, vS v_.Token.Text, vI v_.Token.Num, vS v_.Token.Unit, vB v_.Token.Flag, vL g_v__0 v_.List_], eI tyValue v_.List_ g_v__0] _ := hS.join [] [0, 1, 2] rfl rfl hq
   clear hq
   have hd := hS.hand [0] [1, 2, 3] rfl rfl
   refine m_stp0 [2, 4, 18] (fS [2, 4, 18] [vP b4, vP b17, vI y14.2]) H19 rfl rfl rfl (o_store (cC y14.1) H19 hd rfl rfl (by kernel_rfl) rfl rfl rfl) rfl fun _ _ H21 hq => ?_
   clear H19 hd
   obtain ⟨_, hq⟩ := hq
   replace hS : SH M X w [eB b17 (cC y14.1), eB b4 [vU 0, vU 0, vU 0, vU 0], eB b1 [vU v_.Token.Kind, vS v_.Token.Text, vI v_.Token.Num, vS v_.Token.Unit, vB v_.Token.Flag, vL g_v__0 v_.List_], eI tyValue v_.List_ g_v__0] _ := hS.join [0] [1, 2, 3] rfl rfl hq
   clear hq
   refine wl_batch 9 10 [] [2, 4, 5] (fS [2, 4, 5] [vP b4, vP b17, vI y14.2]) [] H21 (by decide) (by kernel_rfl) trivial fun _ _ H23 hb => ?_
   replace hS := hS.below hb
   clear H21 hb
   apply wl_end rfl
   apply w_seq
   apply wl_start
   refine wl_batch 0 3 [(vG (cC y14.1))] [2, 19, 21] (fS [2, 19, 21] [vP b4, vG (cC y14.1), vB (y14.2 == 0)]) [rN b17 0 (cC y14.1)] H23 (by decide) (by kernel_rfl) ⟨((hS.bk 0 rfl).atD rfl), trivial⟩ fun _ _ H25 hb => ?_
   replace hS := hS.below hb
   clear H23 hb
   have hd := hS.hand [1] [0, 2, 3] rfl rfl
   refine m_stp0 [2, 21] (fS [2, 21] [vP b4, vB (y14.2 == 0)]) H25 rfl rfl rfl (o_store (cC y14.1) H25 hd rfl rfl (by kernel_rfl) rfl rfl rfl) rfl fun _ _ H27 hq => ?_
   clear H25 hd
   obtain ⟨_, hq⟩ := hq
   replace hS : SH M X w [eB b4 (cC y14.1), eB b17 (cC y14.1), eB b1 [vU v_.Token.Kind, vS v_.Token.Text, vI v_.Token.Num, vS v_.Token.Unit, vB v_.Token.Flag, vL g_v__0 v_.List_], eI tyValue v_.List_ g_v__0] _ := hS.join [1] [0, 2, 3] rfl rfl hq
   clear hq
   refine wl_batch 4 5 [] [2, 3] (fS [2, 3] [vP b4, vB (y14.2 == 0)]) [] H27 (by decide) (by kernel_rfl) trivial fun _ _ H29 hb => ?_
   replace hS := hS.below hb
   clear H27 hb
   apply wl_end rfl
   replace hS : SH M X w [eB b4 (cC y14.1), eB b1 [vU v_.Token.Kind, vS v_.Token.Text, vI v_.Token.Num, vS v_.Token.Unit, vB v_.Token.Flag, vL g_v__0 v_.List_], eI tyValue v_.List_ g_v__0] _ := hS.sel [0, 2, 3] rfl
   apply w_ret
   obtain rfl := someE hm
   have hm := hm_z9
   obtain rfl := someE hm
   exact retR2 H29 rfl (oneRes_agg rfl (hS.bk 0 rfl) Tryz.underlying55 rfl (by kernel_rfl)) rfl ⟨_, rfl, rfl, (hS.sel [] rfl)⟩
  replace hm := bF hc hm
  refine s_reg [] [1, 2, 9, 22] (fS [1, 2, 9, 22] [vP b1, vP b4, vU v_.Token.Kind, vB (v_.Token.Kind == 4)]) [] H13 (by kernel_rfl) trivial fun _ _ H31 hb => ?_
  replace hS := hS.below hb
  clear H13 hb
  refine w_if H31 rfl (fun hc => ?c56) (fun hc => ?_)
  case c56 =>
   replace hm := bT hc hm
   apply w_seq
   apply wl_start
   obtain ⟨y32, hy32, hm⟩ := bindE hm
   refine wl_batch 0 6 [(vS v_.Token.Text), (vW [vG (cC y32.1), vB y32.2])] [2, 28, 29] (fS [2, 28, 29] [vP b4, vG (cC y32.1), vB y32.2]) [rA b1 1 (vS v_.Token.Text), rB 130 [vS v_.Token.Text] (vW [vG (cC y32.1), vB y32.2])] H31 (by decide) (by kernel_rfl) ⟨((hS.bk 1 rfl).at1 rfl), ((r26_hash_ok m _ _ hy32).b), trivial⟩ fun _ _ H34 hb => ?_
   replace hS := hS.below hb
   clear H31 hb
   have hd := hS.hand [0] [1, 2] rfl rfl
   refine m_stp0 [2, 29] (fS [2, 29] [vP b4, vB y32.2]) H34 rfl rfl rfl (o_store (cC y32.1) H34 hd rfl rfl (by kernel_rfl) rfl rfl rfl) rfl fun _ _ H36 hq => ?_
   clear H34 hd
   obtain ⟨_, hq⟩ := hq
   replace hS : SH M X w [eB b4 (cC y32.1), eB b1 [vU v_.Token.Kind, vS v_.Token.Text, vI v_.Token.Num, vS v_.Token.Unit, vB v_.Token.Flag, vL g_v__0 v_.List_], eI tyValue v_.List_ g_v__0] _ := hS.join [0] [1, 2] rfl rfl hq
   clear hq
   refine wl_batch 7 8 [] [2, 3] (fS [2, 3] [vP b4, vB y32.2]) [] H36 (by decide) (by kernel_rfl) trivial fun _ _ H38 hb => ?_
   replace hS := hS.below hb
   clear H36 hb
   apply wl_end rfl
   apply w_ret
   obtain rfl := someE hm
   have hm := hm_z9
   obtain rfl := someE hm
   exact retR2 H38 rfl (oneRes_agg rfl (hS.bk 0 rfl) Tryz.underlying55 rfl (by kernel_rfl)) rfl ⟨_, rfl, rfl, (hS.sel [] rfl)⟩
  replace hm := bF hc hm
  refine s_reg [] [1, 2, 30] (fS [1, 2, 30] [vP b1, vP b4, vB (v_.Token.Kind == 2)]) [] H31 (by kernel_rfl) trivial fun _ _ H40 hb => ?_
  replace hS := hS.below hb
  clear H31 hb
  refine w_if H40 rfl (fun hc => ?_) (fun hc => ?c55)
  case c55 =>
   replace hm := bF hc hm
   apply w_skip
   obtain rfl := someE hm
   exact ⟨_, rfl, FrG.keep (ks := [2]) H40 (by kernel_rfl), hS⟩
  replace hm := bT hc hm
  obtain ⟨y41, hy41, hm⟩ := bindE hm
  refine s_reg [(vS v_.Token.Text), (vS y41)] [1, 2, 6] (fS [1, 2, 6] [vP b1, vP b4, vS y41]) [rA b1 1 (vS v_.Token.Text), rB 117 [vS v_.Token.Text] (vS y41)] H40 (by kernel_rfl) ⟨((hS.bk 1 rfl).at1 rfl), ((r26_Small_ok m _ _ hy41).b), trivial⟩ fun _ _ H43 hb => ?_
  replace hS := hS.below hb
  clear H40 hb
  obtain ⟨x44, hx44, hm⟩ := letE hm
  refine s_reg [] [1, 2, 41] (fS [1, 2, 41] [vP b1, vP b4, vB x44]) [] H43 (by subst hx44; kernel_rfl) trivial fun _ _ H46 hb => ?_
  replace hS := hS.below hb
  clear H43 hb
  refine w_if H46 rfl (fun hc => ?_) (fun hc => ?c54)
  case c54 =>
   replace hm := bF hc hm
   apply w_skip
   obtain rfl := someE hm
   exact ⟨_, rfl, FrG.keep (ks := [2]) H46 (by kernel_rfl), hS⟩
  replace hm := bT hc hm
  apply w_seq
  apply wl_start
  obtain ⟨y47, hy47, hm⟩ := bindE hm
  refine wl_batch 0 5 [(vL g_v__0 v_.List_), (vW [vG (cC y47.1), vB y47.2])] [2, 45, 46] (fS [2, 45, 46] [vP b4, vG (cC y47.1), vB y47.2]) [rA b1 5 (vL g_v__0 v_.List_), rB 131 [vL g_v__0 v_.List_] (vW [vG (cC y47.1), vB y47.2])] H46 (by decide) (by kernel_rfl) ⟨((hS.bk 1 rfl).at1 rfl), (r26_rgb_ok (g_l_ := g_v__0) m _ _ hy47 _ (s0im s0nil (hS.im 2 rfl))), trivial⟩ fun _ _ H49 hb => ?_
  replace hS := hS.below hb
  clear H46 hb
  have hd := hS.hand [0] [1, 2] rfl rfl
  refine m_stp0 [2, 46] (fS [2, 46] [vP b4, vB y47.2]) H49 rfl rfl rfl (o_store (cC y47.1) H49 hd rfl rfl (by kernel_rfl) rfl rfl rfl) rfl fun _ _ H51 hq => ?_
  clear H49 hd
  obtain ⟨_, hq⟩ := hq
  replace hS : SH M X w [eB b4 (cC y47.1), eB b1 [vU v_.Token.Kind, vS v_.Token.Text, vI v_.Token.Num, vS v_.Token.Unit, vB v_.Token.Flag, vL g_v__0 v_.List_], eI tyValue v_.List_ g_v__0] _ := hS.join [0] [1, 2] rfl rfl hq
  clear hq
  refine wl_batch 6 7 [] [2, 3] (fS [2, 3] [vP b4, vB y47.2]) [] H51 (by decide) (by kernel_rfl) trivial fun _ _ H53 hb => ?_
  replace hS := hS.below hb
  clear H51 hb
  apply wl_end rfl
  apply w_ret
  obtain rfl := someE hm
  have hm := hm_z9
  obtain rfl := someE hm
  exact retR2 H53 rfl (oneRes_agg rfl (hS.bk 0 rfl) Tryz.underlying55 rfl (by kernel_rfl)) rfl ⟨_, rfl, rfl, (hS.sel [] rfl)⟩
 ·rintro _ _ ⟨s_z9, hz, H, hS⟩
  subst hz
  replace hm := sumR hm_z9
  replace hS : SH M X w [eB b4 [vU 0, vU 0, vU 0, vU 0]] _ := hS.sel [0] rfl
  apply w_seq
  apply wl_start
  refine wl_batch 0 1 [] [2, 47] (fS [2, 47] [vP b4, vG [vU 0, vU 0, vU 0, vU 0]]) [] H (by decide) (by kernel_rfl) trivial fun _ _ H59 hb => ?_
  replace hS := hS.below hb
  clear H hb
  have hd := hS.hand [0] [] rfl rfl
  refine m_stp0 [2] [(2, [], vP b4)] H59 rfl rfl rfl (o_store [vU 0, vU 0, vU 0, vU 0] H59 hd rfl rfl (by kernel_rfl) rfl rfl rfl) rfl fun _ _ H61 hq => ?_
  clear H59 hd
  obtain ⟨_, hq⟩ := hq
  replace hS : SH M X w [eB b4 [vU 0, vU 0, vU 0, vU 0]] _ := hS.join [0] [] rfl rfl hq
  clear hq
  refine wl_batch 2 3 [] [2, 3] (fS [2, 3] [vP b4, vF]) [] H61 (by decide) (by kernel_rfl) trivial fun _ _ H63 hb => ?_
  replace hS := hS.below hb
  clear H61 hb
  apply wl_end rfl
  apply w_ret
  obtain rfl := someE hm
  exact retR2 H63 rfl (oneRes_agg rfl (hS.bk 0 rfl) Tryz.underlying55 rfl (by kernel_rfl)) rfl ⟨_, rfl, rfl, (hS.sel [] rfl)⟩
theorem r26_color_ok {g_v__0 : Gh} (m : Nat) (v_ : TValue) (r : TColor × Bool) (hm : r26_color m v_ = some r) (w : World) (hL : S0 F0 [eI tyValue v_.List_ g_v__0] w ∧ fpl [eI tyValue v_.List_ g_v__0] = []) : RetB Tryz.prog 116 ⟨[vG [vU v_.Token.Kind, vS v_.Token.Text, vI v_.Token.Num, vS v_.Token.Unit, vB v_.Token.Flag, vL g_v__0 v_.List_]]⟩ (vW [vG (cC r.1), vB r.2]) w := retB_of hL (Tryz.call116 _) (fun w' h => r26_color_w F0 m   v_ r hm w' h)

theorem r26_maybe_w {g_v__0 : Gh} (M : Av) (m : Nat) (v_ : TValue) (r : List TVal) (hm : r26_maybe m v_ = some r) (w : World) (hS : S0 M [eI tyValue v_.List_ g_v__0] w) : Calls Tryz.prog 96 ⟨[vG [vU v_.Token.Kind, vS v_.Token.Text, vI v_.Token.Num, vS v_.Token.Unit, vB v_.Token.Flag, vL g_v__0 v_.List_]]⟩ w (fun e w' => ∃ v, e = .returned v ∧ ∃ (g901 : Gh), v = vL g901 r ∧ SH M (fpl [eI tyValue v_.List_ g_v__0]) w [eO 57 tyVal r g901] w') := by
 rw [r26_maybe] at hm
 have hS0 : SH M (fpl [eI tyValue v_.List_ g_v__0]) w [eI tyValue v_.List_ g_v__0] w := hS
 generalize hX : fpl [eI tyValue v_.List_ g_v__0] = X at hS0 ⊢
 clear hS hX
 have hS := hS0
 clear hS0
 refine calls_entryP Tryz.func96 rfl Tryz.ntmps96 rfl fun _ H => ?_
 apply w_seq
 apply wl_start
 have hd := hS.hand [] [0] rfl rfl
 refine m_stp [1] [] H rfl rfl rfl rfl (o_box [vU v_.Token.Kind, vS v_.Token.Text, vI v_.Token.Num, vS v_.Token.Unit, vB v_.Token.Flag, vL g_v__0 v_.List_] H hd rfl rfl) (fun _ => rfl) fun _ _ v H3 hq => ?_
 clear H hd
 obtain ⟨b1, rfl, hq⟩ := hq
 replace hS : SH M X w [eB b1 [vU v_.Token.Kind, vS v_.Token.Text, vI v_.Token.Num, vS v_.Token.Unit, vB v_.Token.Flag, vL g_v__0 v_.List_], eI tyValue v_.List_ g_v__0] _ := hS.join [] [0] rfl rfl hq
 clear hq
 refine wl_batch 1 2 [] [1] [(1, [], vP b1)] [] H3 (by decide) (by kernel_rfl) trivial fun _ _ H5 hb => ?_
 replace hS := hS.below hb
 clear H3 hb
 apply wl_end rfl
 apply w_seq
 apply wl_start
 refine wl_batch 0 2 [(vG (cT v_.Token))] [1, 10] (fS [1, 10] [vP b1, vG (cT v_.Token)]) [rN b1 0 (cT v_.Token)] H5 (by decide) (by kernel_rfl) ⟨((hS.bk 0 rfl).atD rfl), trivial⟩ fun _ _ H7 hb => ?_
 replace hS := hS.below hb
 clear H5 hb
 have hd := hS.hand [] [0, 1] rfl rfl
 refine m_stp [3, 1, 10] (fS [1, 10] [vP b1, vG (cT v_.Token)]) H7 rfl rfl rfl rfl (o_alloc [vU 0, vN, vI 0, vN, vF] (z := vG [vU 0, vN, vI 0, vN, vF]) hd (by kernel_rfl) rfl) (fun _ => rfl) fun _ _ v H10 hq => ?_
 clear H7 hd
 obtain ⟨b8, rfl, hq⟩ := hq
 replace hS : SH M X w [eB b8 [vU 0, vN, vI 0, vN, vF], eB b1 [vU v_.Token.Kind, vS v_.Token.Text, vI v_.Token.Num, vS v_.Token.Unit, vB v_.Token.Flag, vL g_v__0 v_.List_], eI tyValue v_.List_ g_v__0] _ := hS.join [] [0, 1] rfl rfl hq
 clear hq
 have hd := hS.hand [0] [1, 2] rfl rfl
 refine m_stp0 [1, 3] (fS [1, 3] [vP b1, vP b8]) H10 rfl rfl rfl (o_store (cT v_.Token) H10 hd rfl rfl (by kernel_rfl) rfl rfl rfl) rfl fun _ _ H12 hq => ?_
 clear H10 hd
 obtain ⟨_, hq⟩ := hq
 replace hS : SH M X w [eB b8 (cT v_.Token), eB b1 [vU v_.Token.Kind, vS v_.Token.Text, vI v_.Token.Num, vS v_.Token.Unit, vB v_.Token.Flag, vL g_v__0 v_.List_], eI tyValue v_.List_ g_v__0] _ := hS.join [0] [1, 2] rfl rfl hq
 clear hq
 apply wl_end rfl
 refine s_reg [] [1, 3, 4] (fS [1, 3, 4] [vP b1, vP b8, vO]) [] H12 (by kernel_rfl) trivial fun _ _ H14 hb => ?_
 replace hS := hS.below hb
 clear H12 hb
 obtain ⟨z15, hz, hm⟩ := bindE hm
 refine w_cut (fun a' w' => ∃ (g44 : Gh), Fr 90 (fS [3, 4] [vP b8, vL g44 z15]) a' ∧ SH M X w [eO 57 tyVal z15 g44, eB b8 (cT v_.Token), eB b1 [vU v_.Token.Kind, vS v_.Token.Text, vI v_.Token.Num, vS v_.Token.Unit, vB v_.Token.Flag, vL g_v__0 v_.List_], eI tyValue v_.List_ g_v__0] w') ?_ ?_
 ·replace hm := hz
  apply w_seq
  apply wl_start
  obtain ⟨y16, hy16, hm⟩ := bindE hm
  refine wl_batch 0 5 [(vG [vU v_.Token.Kind, vS v_.Token.Text, vI v_.Token.Num, vS v_.Token.Unit, vB v_.Token.Flag, vL g_v__0 v_.List_]), (vW [vG (cC y16.1), vB y16.2])] [3, 4, 14, 15] (fS [3, 4, 14, 15] [vP b8, vO, vG (cC y16.1), vB y16.2]) [rN b1 0 [vU v_.Token.Kind, vS v_.Token.Text, vI v_.Token.Num, vS v_.Token.Unit, vB v_.Token.Flag, vL g_v__0 v_.List_], rB 116 [vG [vU v_.Token.Kind, vS v_.Token.Text, vI v_.Token.Num, vS v_.Token.Unit, vB v_.Token.Flag, vL g_v__0 v_.List_]] (vW [vG (cC y16.1), vB y16.2])] H14 (by decide) (by kernel_rfl) ⟨((hS.bk 1 rfl).atD rfl), (r26_color_ok (g_v__0 := g_v__0) m _ _ hy16 _ (s0im s0nil (hS.im 2 rfl))), trivial⟩ fun _ _ H18 hb => ?_
  replace hS := hS.below hb
  clear H14 hb
  have hd := hS.hand [] [0, 1, 2] rfl rfl
  refine m_stp [5, 3, 4, 14, 15] (fS [3, 4, 14, 15] [vP b8, vO, vG (cC y16.1), vB y16.2]) H18 rfl rfl rfl rfl (o_alloc [vU 0, vU 0, vU 0, vU 0] (z := vG [vU 0, vU 0, vU 0, vU 0]) hd (by kernel_rfl) rfl) (fun _ => rfl) fun _ _ v H21 hq => ?_
  clear H18 hd
  obtain ⟨b19, rfl, hq⟩ := hq
  replace hS : SH M X w [eB b19 [vU 0, vU 0, vU 0, vU 0], eB b8 (cT v_.Token), eB b1 [vU v_.Token.Kind, vS v_.Token.Text, vI v_.Token.Num, vS v_.Token.Unit, vB v_.Token.Flag, vL g_v__0 v_.List_], eI tyValue v_.List_ g_v__0] _ := hS.join [] [0, 1, 2] rfl rfl hq
  clear hq
  have hd := hS.hand [0] [1, 2, 3] rfl rfl
  refine m_stp0 [3, 4, 5, 15] (fS [3, 4, 5, 15] [vP b8, vO, vP b19, vB y16.2]) H21 rfl rfl rfl (o_store (cC y16.1) H21 hd rfl rfl (by kernel_rfl) rfl rfl rfl) rfl fun _ _ H23 hq => ?_
  clear H21 hd
  obtain ⟨_, hq⟩ := hq
  replace hS : SH M X w [eB b19 (cC y16.1), eB b8 (cT v_.Token), eB b1 [vU v_.Token.Kind, vS v_.Token.Text, vI v_.Token.Num, vS v_.Token.Unit, vB v_.Token.Flag, vL g_v__0 v_.List_], eI tyValue v_.List_ g_v__0] _ := hS.join [0] [1, 2, 3] rfl rfl hq
  clear hq
  refine wl_batch 7 8 [] [3, 4, 5, 6] (fS [3, 4, 5, 6] [vP b8, vO, vP b19, vB y16.2]) [] H23 (by decide) (by kernel_rfl) trivial fun _ _ H25 hb => ?_
  replace hS := hS.below hb
  clear H23 hb
  apply wl_end rfl
  refine s_reg [] [3, 4, 5, 16] (fS [3, 4, 5, 16] [vP b8, vO, vP b19, vB y16.2]) [] H25 (by kernel_rfl) trivial fun _ _ H27 hb => ?_
  replace hS := hS.below hb
  clear H25 hb
  refine w_if H27 rfl (fun hc => ?_) (fun hc => ?c43)
  case c43 =>
   replace hm := bF hc hm
   apply w_skip
   obtain rfl := someE hm
   replace hS : SH M X w [eO 57 tyVal ([] : List TVal) (.nil), eB b19 (cC y16.1), eB b8 (cT v_.Token), eB b1 [vU v_.Token.Kind, vS v_.Token.Text, vI v_.Token.Num, vS v_.Token.Unit, vB v_.Token.Flag, vL g_v__0 v_.List_], eI tyValue v_.List_ g_v__0] _ := hS.addNil 57 tyVal
   replace hS : SH M X w [eO 57 tyVal ([] : List TVal) (.nil), eB b8 (cT v_.Token), eB b1 [vU v_.Token.Kind, vS v_.Token.Text, vI v_.Token.Num, vS v_.Token.Unit, vB v_.Token.Flag, vL g_v__0 v_.List_], eI tyValue v_.List_ g_v__0] _ := hS.sel [0, 2, 3, 4] rfl
   exact ⟨Gh.nil, FrG.keep (ks := [3, 4]) H27 (by kernel_rfl), hS⟩
  replace hm := bT hc hm
  apply wl_start
  refine wl_batch 0 3 [(vG (cC y16.1))] [3, 17, 19] (fS [3, 17, 19] [vP b8, vO, vG [vU 7, vN, vI 0, vU y16.1.Red, vU y16.1.Green, vU y16.1.Blue, vU y16.1.Alpha]]) [rN b19 0 (cC y16.1)] H27 (by decide) (by kernel_rfl) ⟨((hS.bk 0 rfl).atD rfl), trivial⟩ fun _ _ H29 hb => ?_
  replace hS := hS.below hb
  clear H27 hb
  have hd := hS.hand [] [0, 1, 2, 3] rfl rfl
  refine m_stp [20, 3, 17] (fS [3, 17] [vP b8, vO]) H29 rfl rfl rfl rfl (o_lit (T := tyVal) (E := 57) (zv := vG [vU 0, vN, vI 0, vU 0, vU 0, vU 0, vU 0]) [vU 7, vN, vI 0, vU y16.1.Red, vU y16.1.Green, vU y16.1.Blue, vU y16.1.Alpha] ([(TVal.mk 7 [] 0 y16.1)] : List TVal) [gL []] _ H29 hd rfl (by kernel_rfl) (by kernel_rfl) (by kernel_rfl) (by kernel_rfl) (by kernel_rfl) (by kernel_rfl) (by kernel_rfl) rfl (InnL.cons trivial InnL.nil)) (fun _ => rfl) fun _ _ v H33 hq => ?_
  clear H29 hd
  obtain ⟨g30, rfl, hq⟩ := hq
  replace hS : SH M X w [eO 57 tyVal ([(TVal.mk 7 [] 0 y16.1)] : List TVal) g30, eB b19 (cC y16.1), eB b8 (cT v_.Token), eB b1 [vU v_.Token.Kind, vS v_.Token.Text, vI v_.Token.Num, vS v_.Token.Unit, vB v_.Token.Flag, vL g_v__0 v_.List_], eI tyValue v_.List_ g_v__0] _ := hS.join [] [0, 1, 2, 3] rfl rfl hq
  clear hq
  replace hS : SH M X w [eO 57 tyVal ([] : List TVal) (.nil), eO 57 tyVal ([(TVal.mk 7 [] 0 y16.1)] : List TVal) g30, eB b19 (cC y16.1), eB b8 (cT v_.Token), eB b1 [vU v_.Token.Kind, vS v_.Token.Text, vI v_.Token.Num, vS v_.Token.Unit, vB v_.Token.Flag, vL g_v__0 v_.List_], eI tyValue v_.List_ g_v__0] _ := hS.addNil 57 tyVal
  obtain ⟨ho35, hm⟩ := chkE hm
  obtain ⟨q36, hq36, hm⟩ := letE hm
  have hd := hS.hand [0, 1] [2, 3, 4, 5] rfl rfl
  refine m_stp [21, 3] [(3, [], vP b8)] H33 rfl rfl rfl rfl (o_app2 (T := tyVal) (zv := vG [vU 0, vN, vI 0, vU 0, vU 0, vU 0, vU 0]) (g1 := Gh.nil) (g2 := g30) (l1 := ([] : List TVal)) (l2 := ([(TVal.mk 7 [] 0 y16.1)] : List TVal)) q36 hq36.symm H33 hd rfl rfl rfl rfl rfl rfl rfl (by kernel_rfl) (by kernel_rfl) rfl rfl ho35) (fun _ => rfl) fun _ _ v H38 hq => ?_
  clear H33 hd
  obtain ⟨g39, rfl, hq⟩ := hq
  replace hS : SH M X w [eO 57 tyVal q36 g39, eO 57 tyVal ([(TVal.mk 7 [] 0 y16.1)] : List TVal) g30, eB b19 (cC y16.1), eB b8 (cT v_.Token), eB b1 [vU v_.Token.Kind, vS v_.Token.Text, vI v_.Token.Num, vS v_.Token.Unit, vB v_.Token.Flag, vL g_v__0 v_.List_], eI tyValue v_.List_ g_v__0] _ := hS.join [0, 1] [2, 3, 4, 5] rfl rfl hq
  clear hq
  refine wl_batch 5 6 [] [3, 4] (fS [3, 4] [vP b8, vL g39 q36]) [] H38 (by decide) (by kernel_rfl) trivial fun _ _ H41 hb => ?_
  replace hS := hS.below hb
  clear H38 hb
  apply wl_end rfl
  replace hS : SH M X w [eO 57 tyVal q36 g39, eB b8 (cT v_.Token), eB b1 [vU v_.Token.Kind, vS v_.Token.Text, vI v_.Token.Num, vS v_.Token.Unit, vB v_.Token.Flag, vL g_v__0 v_.List_], eI tyValue v_.List_ g_v__0] _ := hS.sel [0, 3, 4, 5] rfl
  obtain rfl := someE hm
  exact ⟨g39, FrG.keep (ks := [3, 4]) H41 (by kernel_rfl), hS⟩
 ·rintro _ _ ⟨g44, H, hS⟩
  replace hS : SH M X w [eO 57 tyVal z15 g44, eB b8 (cT v_.Token)] _ := hS.sel [0, 1] rfl
  obtain ⟨z46, hz, hm⟩ := bindE hm
  refine w_cut (fun a' w' => ∃ (g177 : Gh), Fr 90 [(4, [], vL g177 z46)] a' ∧ SH M X w [eO 57 tyVal z46 g177, eB b8 (cT v_.Token)] w') ?_ ?_
  ·replace hm := hz
   refine s_reg [(vU v_.Token.Kind)] [3, 4, 23] (fS [3, 4, 23] [vP b8, vL g44 z15, vU v_.Token.Kind]) [rA b8 0 (vU v_.Token.Kind)] H (by kernel_rfl) ⟨((hS.bk 1 rfl).at1 rfl), trivial⟩ fun _ _ H48 hb => ?_
   replace hS := hS.below hb
   clear H hb
   apply w_block
   refine s_reg [] [3, 4, 23, 24] (fS [3, 4, 23, 24] [vP b8, vL g44 z15, vU v_.Token.Kind, vB (v_.Token.Kind == 1)]) [] H48 (by kernel_rfl) trivial fun _ _ H50 hb => ?_
   replace hS := hS.below hb
   clear H48 hb
   refine w_if H50 rfl (fun hc => ?c176) (fun hc => ?_)
   case c176 =>
    replace hm := bT hc hm
    apply w_seq
    apply wl_start
    obtain ⟨y51, hy51, hm⟩ := bindE hm
    refine wl_batch 0 5 [(vS v_.Token.Text), (vS y51)] [3, 26, 30] (fS [3, 26, 30] [vP b8, vL g44 z15, vG [vU 1, vS y51, vI 0, vU 0, vU 0, vU 0, vU 0]]) [rA b8 1 (vS v_.Token.Text), rB 117 [vS v_.Token.Text] (vS y51)] H50 (by decide) (by kernel_rfl) ⟨((hS.bk 1 rfl).at1 rfl), ((r26_Small_ok m _ _ hy51).b), trivial⟩ fun _ _ H53 hb => ?_
    replace hS := hS.below hb
    clear H50 hb
    have hd := hS.hand [] [0, 1] rfl rfl
    refine m_stp [31, 3, 26] (fS [3, 26] [vP b8, vL g44 z15]) H53 rfl rfl rfl rfl (o_lit (T := tyVal) (E := 57) (zv := vG [vU 0, vN, vI 0, vU 0, vU 0, vU 0, vU 0]) [vU 1, vS y51, vI 0, vU 0, vU 0, vU 0, vU 0] ([(TVal.mk 1 y51 0 (TColor.mk 0 0 0 0))] : List TVal) [gL []] _ H53 hd rfl (by kernel_rfl) (by kernel_rfl) (by kernel_rfl) (by kernel_rfl) (by kernel_rfl) (by kernel_rfl) (by kernel_rfl) rfl (InnL.cons trivial InnL.nil)) (fun _ => rfl) fun _ _ v H57 hq => ?_
    clear H53 hd
    obtain ⟨g54, rfl, hq⟩ := hq
    replace hS : SH M X w [eO 57 tyVal ([(TVal.mk 1 y51 0 (TColor.mk 0 0 0 0))] : List TVal) g54, eO 57 tyVal z15 g44, eB b8 (cT v_.Token)] _ := hS.join [] [0, 1] rfl rfl hq
    clear hq
    obtain ⟨ho58, hm⟩ := chkE hm
    obtain ⟨q59, hq59, hm⟩ := letE hm
    have hd := hS.hand [1, 0] [2] rfl rfl
    refine m_stp [32, 3] [(3, [], vP b8)] H57 rfl rfl rfl rfl (o_app2 (T := tyVal) (zv := vG [vU 0, vN, vI 0, vU 0, vU 0, vU 0, vU 0]) (g1 := g44) (g2 := g54) (l1 := z15) (l2 := ([(TVal.mk 1 y51 0 (TColor.mk 0 0 0 0))] : List TVal)) q59 hq59.symm H57 hd rfl rfl rfl rfl rfl rfl rfl (by kernel_rfl) (by kernel_rfl) rfl rfl ho58) (fun _ => rfl) fun _ _ v H61 hq => ?_
    clear H57 hd
    obtain ⟨g62, rfl, hq⟩ := hq
    replace hS : SH M X w [eO 57 tyVal q59 g62, eO 57 tyVal ([(TVal.mk 1 y51 0 (TColor.mk 0 0 0 0))] : List TVal) g54, eB b8 (cT v_.Token)] _ := hS.join [1, 0] [2] rfl rfl hq
    clear hq
    refine wl_batch 7 8 [] [3, 4] (fS [3, 4] [vP b8, vL g62 q59]) [] H61 (by decide) (by kernel_rfl) trivial fun _ _ H64 hb => ?_
    replace hS := hS.below hb
    clear H61 hb
    apply wl_end rfl
    replace hS : SH M X w [eO 57 tyVal q59 g62, eB b8 (cT v_.Token)] _ := hS.sel [0, 2] rfl
    obtain ⟨y65, hy65, hm⟩ := bindE hm
    obtain ⟨x66, hx66, hm⟩ := letE hm
    refine s_reg [(vS v_.Token.Text), (vS y65)] [4, 36] (fS [4, 36] [vL g62 q59, vB x66]) [rA b8 1 (vS v_.Token.Text), rB 117 [vS v_.Token.Text] (vS y65)] H64 (by subst hx66; kernel_rfl) ⟨((hS.bk 1 rfl).at1 rfl), ((r26_Small_ok m _ _ hy65).b), trivial⟩ fun _ _ H68 hb => ?_
    replace hS := hS.below hb
    clear H64 hb
    refine w_if H68 rfl (fun hc => ?_) (fun hc => ?c82)
    case c82 =>
     replace hm := bF hc hm
     apply w_skip
     obtain rfl := someE hm
     exact ⟨g62, FrG.keep (ks := [4]) H68 (by kernel_rfl), hS⟩
    replace hm := bT hc hm
    apply wl_start
    refine wl_batch 0 2 [] [37, 38] (fS [37, 38] [vL g62 q59, vG [vU 8, vN, vI 0, vU 0, vU 0, vU 0, vU 0]]) [] H68 (by decide) (by kernel_rfl) trivial fun _ _ H70 hb => ?_
    replace hS := hS.below hb
    clear H68 hb
    have hd := hS.hand [] [0, 1] rfl rfl
    refine m_stp [39, 37] [(37, [], vL g62 q59)] H70 rfl rfl rfl rfl (o_lit (T := tyVal) (E := 57) (zv := vG [vU 0, vN, vI 0, vU 0, vU 0, vU 0, vU 0]) [vU 8, vN, vI 0, vU 0, vU 0, vU 0, vU 0] ([(TVal.mk 8 [] 0 (TColor.mk 0 0 0 0))] : List TVal) [gL []] _ H70 hd rfl (by kernel_rfl) (by kernel_rfl) (by kernel_rfl) (by kernel_rfl) (by kernel_rfl) (by kernel_rfl) (by kernel_rfl) rfl (InnL.cons trivial InnL.nil)) (fun _ => rfl) fun _ _ v H74 hq => ?_
    clear H70 hd
    obtain ⟨g71, rfl, hq⟩ := hq
    replace hS : SH M X w [eO 57 tyVal ([(TVal.mk 8 [] 0 (TColor.mk 0 0 0 0))] : List TVal) g71, eO 57 tyVal q59 g62, eB b8 (cT v_.Token)] _ := hS.join [] [0, 1] rfl rfl hq
    clear hq
    obtain ⟨ho75, hm⟩ := chkE hm
    obtain ⟨q76, hq76, hm⟩ := letE hm
    have hd := hS.hand [1, 0] [2] rfl rfl
    refine m_stp [40] [] H74 rfl rfl rfl rfl (o_app2 (T := tyVal) (zv := vG [vU 0, vN, vI 0, vU 0, vU 0, vU 0, vU 0]) (g1 := g62) (g2 := g71) (l1 := q59) (l2 := ([(TVal.mk 8 [] 0 (TColor.mk 0 0 0 0))] : List TVal)) q76 hq76.symm H74 hd rfl rfl rfl rfl rfl rfl rfl (by kernel_rfl) (by kernel_rfl) rfl rfl ho75) (fun _ => rfl) fun _ _ v H78 hq => ?_
    clear H74 hd
    obtain ⟨g79, rfl, hq⟩ := hq
    replace hS : SH M X w [eO 57 tyVal q76 g79, eO 57 tyVal ([(TVal.mk 8 [] 0 (TColor.mk 0 0 0 0))] : List TVal) g71, eB b8 (cT v_.Token)] _ := hS.join [1, 0] [2] rfl rfl hq
    clear hq
    refine wl_batch 4 5 [] [4] [(4, [], vL g79 q76)] [] H78 (by decide) (by kernel_rfl) trivial fun _ _ H81 hb => ?_
    replace hS := hS.below hb
    clear H78 hb
    apply wl_end rfl
    replace hS : SH M X w [eO 57 tyVal q76 g79, eB b8 (cT v_.Token)] _ := hS.sel [0, 2] rfl
    obtain rfl := someE hm
    exact ⟨g79, FrG.keep (ks := [4]) H81 (by kernel_rfl), hS⟩
   replace hm := bF hc hm
   refine s_reg [] [3, 4, 23, 41] (fS [3, 4, 23, 41] [vP b8, vL g44 z15, vU v_.Token.Kind, vB (v_.Token.Kind == 12)]) [] H50 (by kernel_rfl) trivial fun _ _ H84 hb => ?_
   replace hS := hS.below hb
   clear H50 hb
   refine w_if H84 rfl (fun hc => ?c175) (fun hc => ?_)
   case c175 =>
    replace hm := bT hc hm
    apply w_seq
    apply wl_start
    have hd := hS.hand [] [0, 1] rfl rfl
    refine m_stp [43, 3, 4] (fS [3, 4] [vP b8, vL g44 z15]) H84 rfl rfl rfl rfl (o_lit (T := tS) (E := 9) (zv := vN) [vS [112, 120], vS [101, 109], vS [114, 101, 109]] kL7 [gL [], gL [], gL []] _ H84 hd rfl (by kernel_rfl) (by kernel_rfl) (by kernel_rfl) (by kernel_rfl) (by kernel_rfl) (by kernel_rfl) (by kernel_rfl) rfl (InnL.cons trivial (InnL.cons trivial (InnL.cons trivial InnL.nil)))) (fun _ => rfl) fun _ _ v H88 hq => ?_
    clear H84 hd
    obtain ⟨g85, rfl, hq⟩ := hq
    replace hS : SH M X w [eO 9 tS kL7 g85, eO 57 tyVal z15 g44, eB b8 (cT v_.Token)] _ := hS.join [] [0, 1] rfl rfl hq
    clear hq
    refine wl_batch 1 2 [] [3, 4, 7] (fS [3, 4, 7] [vP b8, vL g44 z15, vK g85 3]) [] H88 (by decide) (by kernel_rfl) trivial fun _ _ H90 hb => ?_
    replace hS := hS.below hb
    clear H88 hb
    apply wl_end rfl
    refine s_reg [] [3, 4, 7, 8] (fS [3, 4, 7, 8] [vP b8, vL g44 z15, vK g85 3, vI 0]) [] H90 (by kernel_rfl) trivial fun _ _ H92 hb => ?_
    replace hS := hS.below hb
    clear H90 hb
    apply w_block
    refine w_loop (fun kk a' w' => ∃ (v93 : List TVal) (v95 : Int) (g94 : Gh), r26_maybe_L1 m v_ kk v93 v95 = some _ ∧ Fr 90 (fS [3, 7, 4, 8] [vP b8, vK g85 3, vL g94 v93, vI v95]) a' ∧ SH M X w [eO 9 tS kL7 g85, eO 57 tyVal v93 g94, eB b8 (cT v_.Token)] w') ⟨_, z15, 0, g44, hm, FrG.keep (ks := [3, 7, 4, 8]) H92 (by kernel_rfl), hS⟩ ?_
    clear hm H92 hS
    rintro kk _ _ ⟨v93, v95, g94, hm, H, hS⟩
    cases kk with
    | zero => exact noneE hm
    | succ kk =>
     rw [r26_maybe_L1] at hm
     apply w_seq
     refine s_reg [] [3, 4, 7, 8, 45] (fS [3, 4, 7, 8, 45] [vP b8, vL g94 v93, vK g85 3, vI v95, vB (decide (v95 < 3))]) [] H (by kernel_rfl) trivial fun _ _ H97 hb => ?_
     replace hS := hS.below hb
     clear H hb
     refine w_if H97 rfl (fun hc => ?_) (fun hc => ?c122)
     case c122 =>
      replace hm := bF hc hm
      apply w_exit rfl
      obtain rfl := someE hm
      replace hS : SH M X w [eO 57 tyVal v93 g94, eB b8 (cT v_.Token)] _ := hS.sel [1, 2] rfl
      exact ⟨g94, FrG.keep (ks := [4]) H97 (by kernel_rfl), hS⟩
     replace hm := bT hc hm
     apply w_skip
     obtain ⟨z98, hz, hm⟩ := bindE hm
     refine w_cut (fun a' w' => ∃ (g118 : Gh), Fr 90 (fS [3, 7, 8, 4] [vP b8, vK g85 3, vI v95, vL g118 z98]) a' ∧ SH M X w [eO 9 tS kL7 g85, eO 57 tyVal z98 g118, eB b8 (cT v_.Token)] w') ?_ ?_
     ·replace hm := hz
      apply w_block
      obtain ⟨y99, hy99, hm⟩ := bindE hm
      obtain ⟨ho100, hm⟩ := chkE hm
      obtain ⟨x101, hx101, hm⟩ := letE hm
      refine s_draw [(vS v_.Token.Unit), (vS y99), (vS (gi kL7 v95))] [3, 4, 7, 8, 55] (fS [3, 4, 7, 8, 55] [vP b8, vL g94 v93, vK g85 3, vI v95, vB (y99 == x101)]) [rA b8 3 (vS v_.Token.Unit), rB 117 [vS v_.Token.Unit] (vS y99), fun _ => oka g85.a ∧ 0 ≤ v95 ∧ v95 < ln kL7, fun wz => V.at1 ⟨ab g85.a, ao g85.a + (v95).toNat * 1, none⟩ (vS (gi kL7 v95)) wz] H97 (by kernel_rfl) (by kernel_rfl) (by subst hx101; kernel_rfl) ⟨((hS.bk 2 rfl).at1 rfl), ((r26_Small_ok m _ _ hy99).b), ((hS.osl 0 rfl).oki ho100), ((hS.osl 0 rfl).at1 ho100 0 rfl), trivial⟩ fun _ _ H103 hb => ?_
      replace hS := hS.below hb
      clear H97 hb
      refine w_if H103 rfl (fun hc => ?_) (fun hc => ?c117)
      case c117 =>
       replace hm := bF hc hm
       apply w_skip
       obtain rfl := someE hm
       exact ⟨g94, FrG.keep (ks := [3, 7, 8, 4]) H103 (by kernel_rfl), hS⟩
      replace hm := bT hc hm
      apply wl_start
      refine wl_batch 0 7 [(vI v_.Token.Num)] [3, 7, 8, 56, 62] (fS [3, 7, 8, 56, 62] [vP b8, vK g85 3, vI v95, vL g94 v93, vG [vU (wu8 (2 + (wu8 v95))), vN, vI v_.Token.Num, vU 0, vU 0, vU 0, vU 0]]) [rA b8 2 (vI v_.Token.Num)] H103 (by decide) (by kernel_rfl) ⟨((hS.bk 2 rfl).at1 rfl), trivial⟩ fun _ _ H105 hb => ?_
      replace hS := hS.below hb
      clear H103 hb
      have hd := hS.hand [] [0, 1, 2] rfl rfl
      refine m_stp [63, 3, 7, 8, 56] (fS [3, 7, 8, 56] [vP b8, vK g85 3, vI v95, vL g94 v93]) H105 rfl rfl rfl rfl (o_lit (T := tyVal) (E := 57) (zv := vG [vU 0, vN, vI 0, vU 0, vU 0, vU 0, vU 0]) [vU (wu8 (2 + (wu8 v95))), vN, vI v_.Token.Num, vU 0, vU 0, vU 0, vU 0] ([(TVal.mk (wu8 (2 + (wu8 v95))) [] v_.Token.Num (TColor.mk 0 0 0 0))] : List TVal) [gL []] _ H105 hd rfl (by kernel_rfl) (by kernel_rfl) (by kernel_rfl) (by kernel_rfl) (by kernel_rfl) (by kernel_rfl) (by kernel_rfl) rfl (InnL.cons trivial InnL.nil)) (fun _ => rfl) fun _ _ v H109 hq => ?_
      clear H105 hd
      obtain ⟨g106, rfl, hq⟩ := hq
      replace hS : SH M X w [eO 57 tyVal ([(TVal.mk (wu8 (2 + (wu8 v95))) [] v_.Token.Num (TColor.mk 0 0 0 0))] : List TVal) g106, eO 9 tS kL7 g85, eO 57 tyVal v93 g94, eB b8 (cT v_.Token)] _ := hS.join [] [0, 1, 2] rfl rfl hq
      clear hq
      obtain ⟨ho110, hm⟩ := chkE hm
      obtain ⟨q111, hq111, hm⟩ := letE hm
      have hd := hS.hand [2, 0] [1, 3] rfl rfl
      refine m_stp [64, 3, 7, 8] (fS [3, 7, 8] [vP b8, vK g85 3, vI v95]) H109 rfl rfl rfl rfl (o_app2 (T := tyVal) (zv := vG [vU 0, vN, vI 0, vU 0, vU 0, vU 0, vU 0]) (g1 := g94) (g2 := g106) (l1 := v93) (l2 := ([(TVal.mk (wu8 (2 + (wu8 v95))) [] v_.Token.Num (TColor.mk 0 0 0 0))] : List TVal)) q111 hq111.symm H109 hd rfl rfl rfl rfl rfl rfl rfl (by kernel_rfl) (by kernel_rfl) rfl rfl ho110) (fun _ => rfl) fun _ _ v H113 hq => ?_
      clear H109 hd
      obtain ⟨g114, rfl, hq⟩ := hq
      replace hS : SH M X w [eO 57 tyVal q111 g114, eO 57 tyVal ([(TVal.mk (wu8 (2 + (wu8 v95))) [] v_.Token.Num (TColor.mk 0 0 0 0))] : List TVal) g106, eO 9 tS kL7 g85, eB b8 (cT v_.Token)] _ := hS.join [2, 0] [1, 3] rfl rfl hq
      clear hq
      refine wl_batch 9 10 [] [3, 4, 7, 8] (fS [3, 4, 7, 8] [vP b8, vL g114 q111, vK g85 3, vI v95]) [] H113 (by decide) (by kernel_rfl) trivial fun _ _ H116 hb => ?_
      replace hS := hS.below hb
      clear H113 hb
      apply wl_end rfl
      replace hS : SH M X w [eO 57 tyVal q111 g114, eO 9 tS kL7 g85, eB b8 (cT v_.Token)] _ := hS.sel [0, 2, 3] rfl
      obtain rfl := someE hm
      replace hS : SH M X w [eO 9 tS kL7 g85, eO 57 tyVal q111 g114, eB b8 (cT v_.Token)] _ := hS.sel [1, 0, 2] rfl
      exact ⟨g114, FrG.keep (ks := [3, 7, 8, 4]) H116 (by kernel_rfl), hS⟩
     ·rintro _ _ ⟨g118, H, hS⟩
      refine w_reg [] [3, 4, 7, 8] (fS [3, 4, 7, 8] [vP b8, vL g118 z98, vK g85 3, vI (w64 (v95 + 1))]) [] H (by kernel_rfl) trivial fun _ _ H120 hb => ?_
      replace hS := hS.below hb
      clear H hb
      exact ⟨_, Nat.lt_succ_self _, z98, w64 (v95 + 1), g118, hm, FrG.keep (ks := [3, 7, 4, 8]) H120 (by kernel_rfl), hS⟩
   replace hm := bF hc hm
   refine s_reg [] [3, 4, 65] (fS [3, 4, 65] [vP b8, vL g44 z15, vB (v_.Token.Kind == 10)]) [] H84 (by kernel_rfl) trivial fun _ _ H125 hb => ?_
   replace hS := hS.below hb
   clear H84 hb
   refine w_if H125 rfl (fun hc => ?_) (fun hc => ?c174)
   case c174 =>
    replace hm := bF hc hm
    apply w_skip
    obtain rfl := someE hm
    exact ⟨g44, FrG.keep (ks := [4]) H125 (by kernel_rfl), hS⟩
   replace hm := bT hc hm
   obtain ⟨z126, hz, hm⟩ := bindE hm
   refine w_cut (fun a' w' => ∃ (g143 : Gh), Fr 90 (fS [3, 4] [vP b8, vL g143 z126]) a' ∧ SH M X w [eO 57 tyVal z126 g143, eB b8 (cT v_.Token)] w') ?_ ?_
   ·replace hm := hz
    refine s_reg [(vB v_.Token.Flag)] [3, 4, 68] (fS [3, 4, 68] [vP b8, vL g44 z15, vB v_.Token.Flag]) [rA b8 4 (vB v_.Token.Flag)] H125 (by kernel_rfl) ⟨((hS.bk 1 rfl).at1 rfl), trivial⟩ fun _ _ H128 hb => ?_
    replace hS := hS.below hb
    clear H125 hb
    refine w_if H128 rfl (fun hc => ?_) (fun hc => ?c142)
    case c142 =>
     replace hm := bF hc hm
     apply w_skip
     obtain rfl := someE hm
     exact ⟨g44, FrG.keep (ks := [3, 4]) H128 (by kernel_rfl), hS⟩
    replace hm := bT hc hm
    apply wl_start
    refine wl_batch 0 5 [(vI v_.Token.Num)] [3, 69, 73] (fS [3, 69, 73] [vP b8, vL g44 z15, vG [vU 6, vN, vI (w64 (Int.tdiv v_.Token.Num 1000)), vU 0, vU 0, vU 0, vU 0]]) [rA b8 2 (vI v_.Token.Num), fun _ => (1000 : Int) ≠ 0] H128 (by decide) (by kernel_rfl) ⟨((hS.bk 1 rfl).at1 rfl), (by show (1000 : Int) ≠ 0; decide), trivial⟩ fun _ _ H130 hb => ?_
    replace hS := hS.below hb
    clear H128 hb
    have hd := hS.hand [] [0, 1] rfl rfl
    refine m_stp [74, 3, 69] (fS [3, 69] [vP b8, vL g44 z15]) H130 rfl rfl rfl rfl (o_lit (T := tyVal) (E := 57) (zv := vG [vU 0, vN, vI 0, vU 0, vU 0, vU 0, vU 0]) [vU 6, vN, vI (w64 (Int.tdiv v_.Token.Num 1000)), vU 0, vU 0, vU 0, vU 0] ([(TVal.mk 6 [] (w64 (Int.tdiv v_.Token.Num 1000)) (TColor.mk 0 0 0 0))] : List TVal) [gL []] _ H130 hd rfl (by kernel_rfl) (by kernel_rfl) (by kernel_rfl) (by kernel_rfl) (by kernel_rfl) (by kernel_rfl) (by kernel_rfl) rfl (InnL.cons trivial InnL.nil)) (fun _ => rfl) fun _ _ v H134 hq => ?_
    clear H130 hd
    obtain ⟨g131, rfl, hq⟩ := hq
    replace hS : SH M X w [eO 57 tyVal ([(TVal.mk 6 [] (w64 (Int.tdiv v_.Token.Num 1000)) (TColor.mk 0 0 0 0))] : List TVal) g131, eO 57 tyVal z15 g44, eB b8 (cT v_.Token)] _ := hS.join [] [0, 1] rfl rfl hq
    clear hq
    obtain ⟨ho135, hm⟩ := chkE hm
    obtain ⟨q136, hq136, hm⟩ := letE hm
    have hd := hS.hand [1, 0] [2] rfl rfl
    refine m_stp [75, 3] [(3, [], vP b8)] H134 rfl rfl rfl rfl (o_app2 (T := tyVal) (zv := vG [vU 0, vN, vI 0, vU 0, vU 0, vU 0, vU 0]) (g1 := g44) (g2 := g131) (l1 := z15) (l2 := ([(TVal.mk 6 [] (w64 (Int.tdiv v_.Token.Num 1000)) (TColor.mk 0 0 0 0))] : List TVal)) q136 hq136.symm H134 hd rfl rfl rfl rfl rfl rfl rfl (by kernel_rfl) (by kernel_rfl) rfl rfl ho135) (fun _ => rfl) fun _ _ v H138 hq => ?_
    clear H134 hd
    obtain ⟨g139, rfl, hq⟩ := hq
    replace hS : SH M X w [eO 57 tyVal q136 g139, eO 57 tyVal ([(TVal.mk 6 [] (w64 (Int.tdiv v_.Token.Num 1000)) (TColor.mk 0 0 0 0))] : List TVal) g131, eB b8 (cT v_.Token)] _ := hS.join [1, 0] [2] rfl rfl hq
    clear hq
    refine wl_batch 7 8 [] [3, 4] (fS [3, 4] [vP b8, vL g139 q136]) [] H138 (by decide) (by kernel_rfl) trivial fun _ _ H141 hb => ?_
    replace hS := hS.below hb
    clear H138 hb
    apply wl_end rfl
    replace hS : SH M X w [eO 57 tyVal q136 g139, eB b8 (cT v_.Token)] _ := hS.sel [0, 2] rfl
    obtain rfl := someE hm
    exact ⟨g139, FrG.keep (ks := [3, 4]) H141 (by kernel_rfl), hS⟩
   ·rintro _ _ ⟨g143, H, hS⟩
    apply w_seq
    apply wl_start
    refine wl_batch 0 4 [(vI v_.Token.Num)] [3, 76, 79] (fS [3, 76, 79] [vP b8, vL g143 z126, vG [vU 5, vN, vI v_.Token.Num, vU 0, vU 0, vU 0, vU 0]]) [rA b8 2 (vI v_.Token.Num)] H (by decide) (by kernel_rfl) ⟨((hS.bk 1 rfl).at1 rfl), trivial⟩ fun _ _ H145 hb => ?_
    replace hS := hS.below hb
    clear H hb
    have hd := hS.hand [] [0, 1] rfl rfl
    refine m_stp [80, 3, 76] (fS [3, 76] [vP b8, vL g143 z126]) H145 rfl rfl rfl rfl (o_lit (T := tyVal) (E := 57) (zv := vG [vU 0, vN, vI 0, vU 0, vU 0, vU 0, vU 0]) [vU 5, vN, vI v_.Token.Num, vU 0, vU 0, vU 0, vU 0] ([(TVal.mk 5 [] v_.Token.Num (TColor.mk 0 0 0 0))] : List TVal) [gL []] _ H145 hd rfl (by kernel_rfl) (by kernel_rfl) (by kernel_rfl) (by kernel_rfl) (by kernel_rfl) (by kernel_rfl) (by kernel_rfl) rfl (InnL.cons trivial InnL.nil)) (fun _ => rfl) fun _ _ v H149 hq => ?_
    clear H145 hd
    obtain ⟨g146, rfl, hq⟩ := hq
    replace hS : SH M X w [eO 57 tyVal ([(TVal.mk 5 [] v_.Token.Num (TColor.mk 0 0 0 0))] : List TVal) g146, eO 57 tyVal z126 g143, eB b8 (cT v_.Token)] _ := hS.join [] [0, 1] rfl rfl hq
    clear hq
    obtain ⟨ho150, hm⟩ := chkE hm
    obtain ⟨q151, hq151, hm⟩ := letE hm
    have hd := hS.hand [1, 0] [2] rfl rfl
    refine m_stp [81, 3] [(3, [], vP b8)] H149 rfl rfl rfl rfl (o_app2 (T := tyVal) (zv := vG [vU 0, vN, vI 0, vU 0, vU 0, vU 0, vU 0]) (g1 := g143) (g2 := g146) (l1 := z126) (l2 := ([(TVal.mk 5 [] v_.Token.Num (TColor.mk 0 0 0 0))] : List TVal)) q151 hq151.symm H149 hd rfl rfl rfl rfl rfl rfl rfl (by kernel_rfl) (by kernel_rfl) rfl rfl ho150) (fun _ => rfl) fun _ _ v H153 hq => ?_
    clear H149 hd
    obtain ⟨g154, rfl, hq⟩ := hq
    replace hS : SH M X w [eO 57 tyVal q151 g154, eO 57 tyVal ([(TVal.mk 5 [] v_.Token.Num (TColor.mk 0 0 0 0))] : List TVal) g146, eB b8 (cT v_.Token)] _ := hS.join [1, 0] [2] rfl rfl hq
    clear hq
    refine wl_batch 6 7 [] [3, 4] (fS [3, 4] [vP b8, vL g154 q151]) [] H153 (by decide) (by kernel_rfl) trivial fun _ _ H156 hb => ?_
    replace hS := hS.below hb
    clear H153 hb
    apply wl_end rfl
    replace hS : SH M X w [eO 57 tyVal q151 g154, eB b8 (cT v_.Token)] _ := hS.sel [0, 2] rfl
    refine s_reg [(vI v_.Token.Num)] [4, 84] (fS [4, 84] [vL g154 q151, vB (v_.Token.Num == 0)]) [rA b8 2 (vI v_.Token.Num)] H156 (by kernel_rfl) ⟨((hS.bk 1 rfl).at1 rfl), trivial⟩ fun _ _ H158 hb => ?_
    replace hS := hS.below hb
    clear H156 hb
    refine w_if H158 rfl (fun hc => ?_) (fun hc => ?c172)
    case c172 =>
     replace hm := bF hc hm
     apply w_skip
     obtain rfl := someE hm
     exact ⟨g154, FrG.keep (ks := [4]) H158 (by kernel_rfl), hS⟩
    replace hm := bT hc hm
    apply wl_start
    refine wl_batch 0 2 [] [85, 86] (fS [85, 86] [vL g154 q151, vG [vU 2, vN, vI 0, vU 0, vU 0, vU 0, vU 0]]) [] H158 (by decide) (by kernel_rfl) trivial fun _ _ H160 hb => ?_
    replace hS := hS.below hb
    clear H158 hb
    have hd := hS.hand [] [0, 1] rfl rfl
    refine m_stp [87, 85] [(85, [], vL g154 q151)] H160 rfl rfl rfl rfl (o_lit (T := tyVal) (E := 57) (zv := vG [vU 0, vN, vI 0, vU 0, vU 0, vU 0, vU 0]) [vU 2, vN, vI 0, vU 0, vU 0, vU 0, vU 0] ([(TVal.mk 2 [] 0 (TColor.mk 0 0 0 0))] : List TVal) [gL []] _ H160 hd rfl (by kernel_rfl) (by kernel_rfl) (by kernel_rfl) (by kernel_rfl) (by kernel_rfl) (by kernel_rfl) (by kernel_rfl) rfl (InnL.cons trivial InnL.nil)) (fun _ => rfl) fun _ _ v H164 hq => ?_
    clear H160 hd
    obtain ⟨g161, rfl, hq⟩ := hq
    replace hS : SH M X w [eO 57 tyVal ([(TVal.mk 2 [] 0 (TColor.mk 0 0 0 0))] : List TVal) g161, eO 57 tyVal q151 g154, eB b8 (cT v_.Token)] _ := hS.join [] [0, 1] rfl rfl hq
    clear hq
    obtain ⟨ho165, hm⟩ := chkE hm
    obtain ⟨q166, hq166, hm⟩ := letE hm
    have hd := hS.hand [1, 0] [2] rfl rfl
    refine m_stp [88] [] H164 rfl rfl rfl rfl (o_app2 (T := tyVal) (zv := vG [vU 0, vN, vI 0, vU 0, vU 0, vU 0, vU 0]) (g1 := g154) (g2 := g161) (l1 := q151) (l2 := ([(TVal.mk 2 [] 0 (TColor.mk 0 0 0 0))] : List TVal)) q166 hq166.symm H164 hd rfl rfl rfl rfl rfl rfl rfl (by kernel_rfl) (by kernel_rfl) rfl rfl ho165) (fun _ => rfl) fun _ _ v H168 hq => ?_
    clear H164 hd
    obtain ⟨g169, rfl, hq⟩ := hq
    replace hS : SH M X w [eO 57 tyVal q166 g169, eO 57 tyVal ([(TVal.mk 2 [] 0 (TColor.mk 0 0 0 0))] : List TVal) g161, eB b8 (cT v_.Token)] _ := hS.join [1, 0] [2] rfl rfl hq
    clear hq
    refine wl_batch 4 5 [] [4] [(4, [], vL g169 q166)] [] H168 (by decide) (by kernel_rfl) trivial fun _ _ H171 hb => ?_
    replace hS := hS.below hb
    clear H168 hb
    apply wl_end rfl
    replace hS : SH M X w [eO 57 tyVal q166 g169, eB b8 (cT v_.Token)] _ := hS.sel [0, 2] rfl
    obtain rfl := someE hm
    exact ⟨g169, FrG.keep (ks := [4]) H171 (by kernel_rfl), hS⟩
  ·rintro _ _ ⟨g177, H, hS⟩
   replace hS : SH M X w [eO 57 tyVal z46 g177] _ := hS.sel [0] rfl
   refine s_reg [] [2] [(2, [], vL g177 z46)] [] H (by kernel_rfl) trivial fun _ _ H179 hb => ?_
   replace hS := hS.below hb
   clear H hb
   apply w_ret
   obtain rfl := someE hm
   exact retR1 H179 rfl rfl ⟨_, rfl, g177, rfl, (hS.sel [0] rfl)⟩
theorem r26_maybe_ok {g_v__0 : Gh} (m : Nat) (v_ : TValue) (r : List TVal) (hm : r26_maybe m v_ = some r) (M : Av) (w : World) (hS : S0 M [eI tyValue v_.List_ g_v__0] w) : DoesX Tryz.prog 96 ⟨[vG [vU v_.Token.Kind, vS v_.Token.Text, vI v_.Token.Num, vS v_.Token.Unit, vB v_.Token.Flag, vL g_v__0 v_.List_]]⟩ w (fun v w' => ∃ (g901 : Gh), v = vL g901 r ∧ SH M (fpl [eI tyValue v_.List_ g_v__0]) w [eO 57 tyVal r g901] w') := ⟨Tryz.call96 _, r26_maybe_w M m   v_ r hm w hS⟩

theorem r26_Parse_w {g_l_ : Gh} (M : Av) (m : Nat) (prop : Int) (l_ : List TValue) (r : TVal × Int) (hm : r26_Parse m prop l_ = some r) (w : World) (hS : S0 M [eI tyValue l_ g_l_] w) : Calls Tryz.prog 83 ⟨[vI prop, vL g_l_ l_]⟩ w (fun e w' => ∃ v, e = .returned v ∧ v = vW [vG (cV r.1), vI r.2] ∧ SH M (fpl [eI tyValue l_ g_l_]) w [] w') := by
 rw [r26_Parse] at hm
 have hS0 : SH M (fpl [eI tyValue l_ g_l_]) w [eI tyValue l_ g_l_] w := hS
 generalize hX : fpl [eI tyValue l_ g_l_] = X at hS0 ⊢
 clear hS hX
 have hS := hS0
 clear hS0
 refine calls_entryP Tryz.func83 rfl Tryz.ntmps83 rfl fun _ H => ?_
 apply w_seq
 apply wl_start
 have hd := hS.hand [] [0] rfl rfl
 refine m_stp [4, 0, 1] (fS [0, 1] [vI prop, vL g_l_ l_]) H rfl rfl rfl rfl (o_alloc [vU 0, vN, vI 0, vU 0, vU 0, vU 0, vU 0] (z := vG [vU 0, vN, vI 0, vU 0, vU 0, vU 0, vU 0]) hd (by kernel_rfl) rfl) (fun _ => rfl) fun _ _ v H3 hq => ?_
 clear H hd
 obtain ⟨b1, rfl, hq⟩ := hq
 replace hS : SH M X w [eB b1 [vU 0, vN, vI 0, vU 0, vU 0, vU 0, vU 0], eI tyValue l_ g_l_] _ := hS.join [] [0] rfl rfl hq
 clear hq
 refine wl_batch 1 2 [] [0, 1, 4] (fS [0, 1, 4] [vI prop, vL g_l_ l_, vP b1]) [] H3 (by decide) (by kernel_rfl) trivial fun _ _ H5 hb => ?_
 replace hS := hS.below hb
 clear H3 hb
 apply wl_end rfl
 apply w_seq
 obtain ⟨y6, hy6, hm⟩ := bindE hm
 refine s_reg [(vW [vB y6.1, vI y6.2])] [0, 1, 4, 7] (fS [0, 1, 4, 7] [vI prop, vL g_l_ l_, vP b1, vI y6.2]) [rB 95 [vI prop, vG [vU 0, vN, vI 0, vU 0, vU 0, vU 0, vU 0]] (vW [vB y6.1, vI y6.2])] H5 (by kernel_rfl) ⟨((r25_Has_ok 64 _ _ _ hy6).b), trivial⟩ fun _ _ H8 hb => ?_
 replace hS := hS.below hb
 clear H5 hb
 refine s_reg [] [0, 1, 4, 19] (fS [0, 1, 4, 19] [vI prop, vL g_l_ l_, vP b1, vB (y6.2 != 0)]) [] H8 (by kernel_rfl) trivial fun _ _ H10 hb => ?_
 replace hS := hS.below hb
 clear H8 hb
 refine w_if H10 rfl (fun hc => ?c67) (fun hc => ?_)
 case c67 =>
  replace hm := bT hc hm
  apply w_seq
  apply wl_start
  refine wl_batch 0 1 [] [4, 20] (fS [4, 20] [vP b1, vG [vU 0, vN, vI 0, vU 0, vU 0, vU 0, vU 0]]) [] H10 (by decide) (by kernel_rfl) trivial fun _ _ H12 hb => ?_
  replace hS := hS.below hb
  clear H10 hb
  have hd := hS.hand [0] [1] rfl rfl
  refine m_stp0 [4] [(4, [], vP b1)] H12 rfl rfl rfl (o_store [vU 0, vN, vI 0, vU 0, vU 0, vU 0, vU 0] H12 hd rfl rfl (by kernel_rfl) rfl rfl rfl) rfl fun _ _ H14 hq => ?_
  clear H12 hd
  obtain ⟨_, hq⟩ := hq
  replace hS : SH M X w [eB b1 [vU 0, vN, vI 0, vU 0, vU 0, vU 0, vU 0], eI tyValue l_ g_l_] _ := hS.join [0] [1] rfl rfl hq
  clear hq
  refine wl_batch 2 3 [] [4, 5] (fS [4, 5] [vP b1, vI 2]) [] H14 (by decide) (by kernel_rfl) trivial fun _ _ H16 hb => ?_
  replace hS := hS.below hb
  clear H14 hb
  apply wl_end rfl
  replace hS : SH M X w [eB b1 [vU 0, vN, vI 0, vU 0, vU 0, vU 0, vU 0]] _ := hS.sel [0] rfl
  apply w_ret
  obtain rfl := someE hm
  exact retR2 H16 rfl (oneRes_agg rfl (hS.bk 0 rfl) Tryz.underlying57 rfl (by kernel_rfl)) rfl ⟨_, rfl, rfl, (hS.sel [] rfl)⟩
 replace hm := bF hc hm
 apply w_skip
 apply w_seq
 refine s_reg [] [0, 1, 4, 23] (fS [0, 1, 4, 23] [vI prop, vL g_l_ l_, vP b1, vB ((ln l_) != 1)]) [] H10 (by kernel_rfl) trivial fun _ _ H18 hb => ?_
 replace hS := hS.below hb
 clear H10 hb
 refine w_if H18 rfl (fun hc => ?c66) (fun hc => ?_)
 case c66 =>
  replace hm := bT hc hm
  apply w_seq
  apply wl_start
  refine wl_batch 0 1 [] [4, 24] (fS [4, 24] [vP b1, vG [vU 0, vN, vI 0, vU 0, vU 0, vU 0, vU 0]]) [] H18 (by decide) (by kernel_rfl) trivial fun _ _ H20 hb => ?_
  replace hS := hS.below hb
  clear H18 hb
  have hd := hS.hand [0] [1] rfl rfl
  refine m_stp0 [4] [(4, [], vP b1)] H20 rfl rfl rfl (o_store [vU 0, vN, vI 0, vU 0, vU 0, vU 0, vU 0] H20 hd rfl rfl (by kernel_rfl) rfl rfl rfl) rfl fun _ _ H22 hq => ?_
  clear H20 hd
  obtain ⟨_, hq⟩ := hq
  replace hS : SH M X w [eB b1 [vU 0, vN, vI 0, vU 0, vU 0, vU 0, vU 0], eI tyValue l_ g_l_] _ := hS.join [0] [1] rfl rfl hq
  clear hq
  refine wl_batch 2 3 [] [4, 5] (fS [4, 5] [vP b1, vI 12]) [] H22 (by decide) (by kernel_rfl) trivial fun _ _ H24 hb => ?_
  replace hS := hS.below hb
  clear H22 hb
  apply wl_end rfl
  replace hS : SH M X w [eB b1 [vU 0, vN, vI 0, vU 0, vU 0, vU 0, vU 0]] _ := hS.sel [0] rfl
  apply w_ret
  obtain rfl := someE hm
  exact retR2 H24 rfl (oneRes_agg rfl (hS.bk 0 rfl) Tryz.underlying57 rfl (by kernel_rfl)) rfl ⟨_, rfl, rfl, (hS.sel [] rfl)⟩
 replace hm := bF hc hm
 apply w_skip
 apply w_seq
 apply wl_start
 obtain ⟨ho25, hm⟩ := chkE hm
 refine wl_batch 0 3 [(vG [vU ((gi l_ (0 : Int)).Token.Kind), vS (gi l_ (0 : Int)).Token.Text, vI ((gi l_ (0 : Int)).Token.Num), vS (gi l_ (0 : Int)).Token.Unit, vB ((gi l_ (0 : Int)).Token.Flag), .slice (g_l_.s ((0 : Int)).toNat 0).a (((gi l_ (0 : Int)).List_).length) (g_l_.s ((0 : Int)).toNat 0).c])] [0, 4, 27] (fS [0, 4, 27] [vI prop, vP b1, vG [vU ((gi l_ (0 : Int)).Token.Kind), vS (gi l_ (0 : Int)).Token.Text, vI ((gi l_ (0 : Int)).Token.Num), vS (gi l_ (0 : Int)).Token.Unit, vB ((gi l_ (0 : Int)).Token.Flag), .slice (g_l_.s ((0 : Int)).toNat 0).a (((gi l_ (0 : Int)).List_).length) (g_l_.s ((0 : Int)).toNat 0).c]]) [fun _ => oka g_l_.a ∧ 0 ≤ (0 : Int) ∧ (0 : Int) < ln l_, fun wz => V.atN (ab g_l_.a) (ao g_l_.a + ((0 : Int)).toNat * 6) [vU ((gi l_ (0 : Int)).Token.Kind), vS (gi l_ (0 : Int)).Token.Text, vI ((gi l_ (0 : Int)).Token.Num), vS (gi l_ (0 : Int)).Token.Unit, vB ((gi l_ (0 : Int)).Token.Flag), .slice (g_l_.s ((0 : Int)).toNat 0).a (((gi l_ (0 : Int)).List_).length) (g_l_.s ((0 : Int)).toNat 0).c] 0 wz] H18 (by decide) (by kernel_rfl) ⟨((hS.im 1 rfl).oki ho25), ((hS.im 1 rfl).atA ho25 0 rfl), trivial⟩ fun _ _ H27 hb => ?_
 replace hS := hS.below hb
 clear H18 hb
 replace hS : SH M X w [eI tyValue ((gi l_ (0 : Int)).List_) (g_l_.s ((0 : Int)).toNat 0), eB b1 [vU 0, vN, vI 0, vU 0, vU 0, vU 0, vU 0], eI tyValue l_ g_l_] _ := hS.addIm (tyValue_i0 ((hS.im 1 rfl).el ho25))
 obtain ⟨y29, hy29, hm⟩ := bindE hm
 have hd := hS.hand [0] [0, 1, 2] rfl rfl
 refine m_stp [28, 0, 4] (fS [0, 4] [vI prop, vP b1]) H27 rfl rfl rfl rfl (o_callx H27 rfl rfl (r26_maybe_ok (g_v__0 := (g_l_.s ((0 : Int)).toNat 0)) m _ _ hy29 _ _ hd)) (fun _ => rfl) fun _ _ v H33 hq => ?_
 clear H27 hd
 obtain ⟨g30, rfl, hq⟩ := hq
 replace hS : SH M X w [eO 57 tyVal y29 g30, eI tyValue ((gi l_ (0 : Int)).List_) (g_l_.s ((0 : Int)).toNat 0), eB b1 [vU 0, vN, vI 0, vU 0, vU 0, vU 0, vU 0], eI tyValue l_ g_l_] _ := hS.join [0] [0, 1, 2] rfl rfl hq
 clear hq
 refine wl_batch 4 5 [] [0, 4, 8] (fS [0, 4, 8] [vI prop, vP b1, vL g30 y29]) [] H33 (by decide) (by kernel_rfl) trivial fun _ _ H35 hb => ?_
 replace hS := hS.below hb
 clear H33 hb
 apply wl_end rfl
 replace hS : SH M X w [eO 57 tyVal y29 g30, eB b1 [vU 0, vN, vI 0, vU 0, vU 0, vU 0, vU 0]] _ := hS.sel [0, 2] rfl
 obtain ⟨z36, hz, hm_z36⟩ := bindE hm
 refine w_cut (fun a' w' => ∃ s_z36 : Unit, z36 = Sum.inr s_z36 ∧ Fr 50 [(4, [], vP b1)] a' ∧ SH M X w [eO 57 tyVal y29 g30, eB b1 [vU 0, vN, vI 0, vU 0, vU 0, vU 0, vU 0]] w') ?_ ?_
 ·replace hm := hz
  refine s_reg [] [0, 4, 8, 9] (fS [0, 4, 8, 9] [vI prop, vP b1, vL g30 y29, vI 0]) [] H35 (by kernel_rfl) trivial fun _ _ H38 hb => ?_
  replace hS := hS.below hb
  clear H35 hb
  apply w_block
  refine w_loop (fun kk a' w' => ∃ (v39 : Int), r26_Parse_L1 m prop y29 kk v39 = some _ ∧ Fr 50 (fS [0, 4, 8, 9] [vI prop, vP b1, vL g30 y29, vI v39]) a' ∧ SH M X w [eO 57 tyVal y29 g30, eB b1 [vU 0, vN, vI 0, vU 0, vU 0, vU 0, vU 0]] w') ⟨_, 0, hm, FrG.keep (ks := [0, 4, 8, 9]) H38 (by kernel_rfl), hS⟩ ?_
  clear hm H38 hS
  rintro kk _ _ ⟨v39, hm, H, hS⟩
  cases kk with
  | zero => exact noneE hm
  | succ kk =>
   rw [r26_Parse_L1] at hm
   apply w_seq
   refine s_reg [] [0, 4, 8, 9, 32] (fS [0, 4, 8, 9, 32] [vI prop, vP b1, vL g30 y29, vI v39, vB (decide (v39 < (ln y29)))]) [] H (by kernel_rfl) trivial fun _ _ H41 hb => ?_
   replace hS := hS.below hb
   clear H hb
   refine w_if H41 rfl (fun hc => ?_) (fun hc => ?c57)
   case c57 =>
    replace hm := bF hc hm
    apply w_exit rfl
    obtain rfl := someE hm
    exact ⟨_, rfl, FrG.keep (ks := [4]) H41 (by kernel_rfl), hS⟩
   replace hm := bT hc hm
   apply w_skip
   apply w_seq
   apply w_block
   obtain ⟨ho42, hm⟩ := chkE hm
   obtain ⟨y43, hy43, hm⟩ := bindE hm
   refine s_reg [(vG [vU ((gi y29 v39).Kind), vS (gi y29 v39).Word, vI ((gi y29 v39).Num), vU ((gi y29 v39).Color.Red), vU ((gi y29 v39).Color.Green), vU ((gi y29 v39).Color.Blue), vU ((gi y29 v39).Color.Alpha)]), (vW [vB y43.1, vI y43.2])] [0, 4, 8, 9, 10] (fS [0, 4, 8, 9, 10] [vI prop, vP b1, vL g30 y29, vI v39, vB y43.1]) [fun _ => oka g30.a ∧ 0 ≤ v39 ∧ v39 < ln y29, fun wz => V.atN (ab g30.a) (ao g30.a + (v39).toNat * 7) [vU ((gi y29 v39).Kind), vS (gi y29 v39).Word, vI ((gi y29 v39).Num), vU ((gi y29 v39).Color.Red), vU ((gi y29 v39).Color.Green), vU ((gi y29 v39).Color.Blue), vU ((gi y29 v39).Color.Alpha)] 0 wz, rB 95 [vI prop, vG [vU ((gi y29 v39).Kind), vS (gi y29 v39).Word, vI ((gi y29 v39).Num), vU ((gi y29 v39).Color.Red), vU ((gi y29 v39).Color.Green), vU ((gi y29 v39).Color.Blue), vU ((gi y29 v39).Color.Alpha)]] (vW [vB y43.1, vI y43.2])] H41 (by kernel_rfl) ⟨((hS.osl 0 rfl).oki ho42), ((hS.osl 0 rfl).atA ho42 0 rfl), ((r25_Has_ok 64 _ _ _ hy43).b), trivial⟩ fun _ _ H45 hb => ?_
   replace hS := hS.below hb
   clear H41 hb
   refine s_reg [] [0, 4, 8, 9, 44] (fS [0, 4, 8, 9, 44] [vI prop, vP b1, vL g30 y29, vI v39, vB y43.1]) [] H45 (by kernel_rfl) trivial fun _ _ H47 hb => ?_
   replace hS := hS.below hb
   clear H45 hb
   refine w_if H47 rfl (fun hc => ?_) (fun hc => ?c56)
   case c56 =>
    replace hm := bF hc hm
    apply w_skip
    refine w_reg [] [0, 4, 8, 9] (fS [0, 4, 8, 9] [vI prop, vP b1, vL g30 y29, vI (w64 (v39 + 1))]) [] H47 (by kernel_rfl) trivial fun _ _ H55 hb => ?_
    replace hS := hS.below hb
    clear H47 hb
    exact ⟨_, Nat.lt_succ_self _, w64 (v39 + 1), hm, FrG.keep (ks := [0, 4, 8, 9]) H55 (by kernel_rfl), hS⟩
   replace hm := bT hc hm
   apply w_seq
   apply wl_start
   refine wl_batch 0 4 [(vG [vU ((gi y29 v39).Kind), vS (gi y29 v39).Word, vI ((gi y29 v39).Num), vU ((gi y29 v39).Color.Red), vU ((gi y29 v39).Color.Green), vU ((gi y29 v39).Color.Blue), vU ((gi y29 v39).Color.Alpha)])] [4, 48] (fS [4, 48] [vP b1, vG [vU ((gi y29 v39).Kind), vS (gi y29 v39).Word, vI ((gi y29 v39).Num), vU ((gi y29 v39).Color.Red), vU ((gi y29 v39).Color.Green), vU ((gi y29 v39).Color.Blue), vU ((gi y29 v39).Color.Alpha)]]) [fun _ => oka g30.a ∧ 0 ≤ v39 ∧ v39 < ln y29, fun wz => V.atN (ab g30.a) (ao g30.a + (v39).toNat * 7) [vU ((gi y29 v39).Kind), vS (gi y29 v39).Word, vI ((gi y29 v39).Num), vU ((gi y29 v39).Color.Red), vU ((gi y29 v39).Color.Green), vU ((gi y29 v39).Color.Blue), vU ((gi y29 v39).Color.Alpha)] 0 wz] H47 (by decide) (by kernel_rfl) ⟨((hS.osl 0 rfl).oki ho42), ((hS.osl 0 rfl).atA ho42 0 rfl), trivial⟩ fun _ _ H49 hb => ?_
   replace hS := hS.below hb
   clear H47 hb
   have hd := hS.hand [1] [0] rfl rfl
   refine m_stp0 [4] [(4, [], vP b1)] H49 rfl rfl rfl (o_store [vU ((gi y29 v39).Kind), vS (gi y29 v39).Word, vI ((gi y29 v39).Num), vU ((gi y29 v39).Color.Red), vU ((gi y29 v39).Color.Green), vU ((gi y29 v39).Color.Blue), vU ((gi y29 v39).Color.Alpha)] H49 hd rfl rfl (by kernel_rfl) rfl rfl rfl) rfl fun _ _ H51 hq => ?_
   clear H49 hd
   obtain ⟨_, hq⟩ := hq
   replace hS : SH M X w [eB b1 [vU ((gi y29 v39).Kind), vS (gi y29 v39).Word, vI ((gi y29 v39).Num), vU ((gi y29 v39).Color.Red), vU ((gi y29 v39).Color.Green), vU ((gi y29 v39).Color.Blue), vU ((gi y29 v39).Color.Alpha)], eO 57 tyVal y29 g30] _ := hS.join [1] [0] rfl rfl hq
   clear hq
   refine wl_batch 5 6 [] [4, 5] (fS [4, 5] [vP b1, vI 0]) [] H51 (by decide) (by kernel_rfl) trivial fun _ _ H53 hb => ?_
   replace hS := hS.below hb
   clear H51 hb
   apply wl_end rfl
   apply w_ret
   obtain rfl := someE hm
   have hm := hm_z36
   obtain rfl := someE hm
   exact retR2 H53 rfl (oneRes_agg rfl (hS.bk 0 rfl) Tryz.underlying57 rfl (by kernel_rfl)) rfl ⟨_, rfl, rfl, (hS.sel [] rfl)⟩
 ·rintro _ _ ⟨s_z36, hz, H, hS⟩
  subst hz
  replace hm := sumR hm_z36
  replace hS : SH M X w [eB b1 [vU 0, vN, vI 0, vU 0, vU 0, vU 0, vU 0]] _ := hS.sel [1] rfl
  apply w_seq
  apply wl_start
  refine wl_batch 0 1 [] [4, 49] (fS [4, 49] [vP b1, vG [vU 0, vN, vI 0, vU 0, vU 0, vU 0, vU 0]]) [] H (by decide) (by kernel_rfl) trivial fun _ _ H60 hb => ?_
  replace hS := hS.below hb
  clear H hb
  have hd := hS.hand [0] [] rfl rfl
  refine m_stp0 [4] [(4, [], vP b1)] H60 rfl rfl rfl (o_store [vU 0, vN, vI 0, vU 0, vU 0, vU 0, vU 0] H60 hd rfl rfl (by kernel_rfl) rfl rfl rfl) rfl fun _ _ H62 hq => ?_
  clear H60 hd
  obtain ⟨_, hq⟩ := hq
  replace hS : SH M X w [eB b1 [vU 0, vN, vI 0, vU 0, vU 0, vU 0, vU 0]] _ := hS.join [0] [] rfl rfl hq
  clear hq
  refine wl_batch 2 3 [] [4, 5] (fS [4, 5] [vP b1, vI 12]) [] H62 (by decide) (by kernel_rfl) trivial fun _ _ H64 hb => ?_
  replace hS := hS.below hb
  clear H62 hb
  apply wl_end rfl
  apply w_ret
  obtain rfl := someE hm
  exact retR2 H64 rfl (oneRes_agg rfl (hS.bk 0 rfl) Tryz.underlying57 rfl (by kernel_rfl)) rfl ⟨_, rfl, rfl, (hS.sel [] rfl)⟩
theorem r26_Parse_ok {g_l_ : Gh} (m : Nat) (prop : Int) (l_ : List TValue) (r : TVal × Int) (hm : r26_Parse m prop l_ = some r) (w : World) (hL : S0 F0 [eI tyValue l_ g_l_] w ∧ fpl [eI tyValue l_ g_l_] = []) : RetB Tryz.prog 83 ⟨[vI prop, vL g_l_ l_]⟩ (vW [vG (cV r.1), vI r.2]) w := retB_of hL (Tryz.call83 _) (fun w' h => r26_Parse_w F0 m   prop l_ r hm w' h)

theorem r27_right_w {g_l_ : Gh} (M : Av) (m : Nat) (name_ : Str) (l_ : List TValue) (r : Bool) (hm : r27_right m name_ l_ = some r) (w : World) (hS : S0 M [eI tyValue l_ g_l_] w) : Calls Tryz.prog 65 ⟨[vS name_, vL g_l_ l_]⟩ w (fun e w' => ∃ v, e = .returned v ∧ v = vB r ∧ SH M (fpl [eI tyValue l_ g_l_]) w [] w') := by
 rw [r27_right] at hm
 have hS0 : SH M (fpl [eI tyValue l_ g_l_]) w [eI tyValue l_ g_l_] w := hS
 generalize hX : fpl [eI tyValue l_ g_l_] = X at hS0 ⊢
 clear hS hX
 have hS := hS0
 clear hS0
 refine calls_entryP Tryz.func65 rfl Tryz.ntmps65 rfl fun _ H => ?_
 refine s_reg [] [0, 1] (fS [0, 1] [vS name_, vL g_l_ l_]) [] H (by kernel_rfl) trivial fun _ _ H2 hb => ?_
 replace hS := hS.below hb
 clear H hb
 obtain ⟨y3, hy3, hm⟩ := bindE hm
 refine s_reg [(vW [vI y3.1, vI y3.2])] [1, 5, 6] (fS [1, 5, 6] [vL g_l_ l_, vI y3.1, vI y3.2]) [rB 58 [vS name_] (vW [vI y3.1, vI y3.2])] H2 (by kernel_rfl) ⟨((r25_Find_ok 64 _ _ hy3).b), trivial⟩ fun _ _ H5 hb => ?_
 replace hS := hS.below hb
 clear H2 hb
 apply w_seq
 refine s_reg [] [1, 5, 15] (fS [1, 5, 15] [vL g_l_ l_, vI y3.1, vB (y3.2 != 0)]) [] H5 (by kernel_rfl) trivial fun _ _ H7 hb => ?_
 replace hS := hS.below hb
 clear H5 hb
 refine w_if H7 rfl (fun hc => ?c22) (fun hc => ?_)
 case c22 =>
  replace hm := bT hc hm
  refine s_reg [] [4] [(4, [], vF)] [] H7 (by kernel_rfl) trivial fun _ _ H9 hb => ?_
  replace hS := hS.below hb
  clear H7 hb
  replace hS : SH M X w [] _ := hS.sel [] rfl
  apply w_ret
  obtain rfl := someE hm
  exact retR1 H9 rfl rfl ⟨_, rfl, rfl, (hS.sel [] rfl)⟩
 replace hm := bF hc hm
 apply w_skip
 apply w_seq
 apply wl_start
 obtain ⟨y10, hy10, hm⟩ := bindE hm
 refine wl_batch 0 6 [(vW [vG (cV y10.1), vI y10.2])] [20, 21] (fS [20, 21] [vG (cV y10.1), vI y10.2]) [rB 83 [vI y3.1, vL g_l_ l_] (vW [vG (cV y10.1), vI y10.2])] H7 (by decide) (by kernel_rfl) ⟨(r26_Parse_ok (g_l_ := g_l_) m _ _ _ hy10 _ (s0im s0nil (hS.im 0 rfl))), trivial⟩ fun _ _ H12 hb => ?_
 replace hS := hS.below hb
 clear H7 hb
 have hd := hS.hand [] [0] rfl rfl
 refine m_stp [7, 20, 21] (fS [20, 21] [vG (cV y10.1), vI y10.2]) H12 rfl rfl rfl rfl (o_alloc [vU 0, vN, vI 0, vU 0, vU 0, vU 0, vU 0] (z := vG [vU 0, vN, vI 0, vU 0, vU 0, vU 0, vU 0]) hd (by kernel_rfl) rfl) (fun _ => rfl) fun _ _ v H15 hq => ?_
 clear H12 hd
 obtain ⟨b13, rfl, hq⟩ := hq
 replace hS : SH M X w [eB b13 [vU 0, vN, vI 0, vU 0, vU 0, vU 0, vU 0], eI tyValue l_ g_l_] _ := hS.join [] [0] rfl rfl hq
 clear hq
 have hd := hS.hand [0] [1] rfl rfl
 refine m_stp0 [21] [(21, [], vI y10.2)] H15 rfl rfl rfl (o_store (cV y10.1) H15 hd rfl rfl (by kernel_rfl) rfl rfl rfl) rfl fun _ _ H17 hq => ?_
 clear H15 hd
 obtain ⟨_, hq⟩ := hq
 replace hS : SH M X w [eB b13 (cV y10.1), eI tyValue l_ g_l_] _ := hS.join [0] [1] rfl rfl hq
 clear hq
 refine wl_batch 8 9 [] [8] [(8, [], vI y10.2)] [] H17 (by decide) (by kernel_rfl) trivial fun _ _ H19 hb => ?_
 replace hS := hS.below hb
 clear H17 hb
 apply wl_end rfl
 replace hS : SH M X w [] _ := hS.sel [] rfl
 refine s_reg [] [4] [(4, [], vB (y10.2 == 0))] [] H19 (by kernel_rfl) trivial fun _ _ H21 hb => ?_
 replace hS := hS.below hb
 clear H19 hb
 apply w_ret
 obtain rfl := someE hm
 exact retR1 H21 rfl rfl ⟨_, rfl, rfl, (hS.sel [] rfl)⟩
theorem r27_right_ok {g_l_ : Gh} (m : Nat) (name_ : Str) (l_ : List TValue) (r : Bool) (hm : r27_right m name_ l_ = some r) (w : World) (hL : S0 F0 [eI tyValue l_ g_l_] w ∧ fpl [eI tyValue l_ g_l_] = []) : RetB Tryz.prog 65 ⟨[vS name_, vL g_l_ l_]⟩ (vB r) w := retB_of hL (Tryz.call65 _) (fun w' h => r27_right_w F0 m   name_ l_ r hm w' h)

theorem r27_Parted_w {g_l_ : Gh} (M : Av) (m : Nat) (whole : Str) (l_ : List TValue) (r : List (List TValue)) (hm : r27_Parted m whole l_ = some r) (w : World) (hS : S0 M [eI tyValue l_ g_l_] w) : Calls Tryz.prog 39 ⟨[vS whole, vL g_l_ l_]⟩ w (fun e w' => ∃ v, e = .returned v ∧ ∃ (g901 : Gh), v = vL g901 r ∧ SH M (fpl [eI tyValue l_ g_l_]) w [eO 22 (Ty.sl tyValue) r g901] w') := by
 rw [r27_Parted] at hm
 have hS0 : SH M (fpl [eI tyValue l_ g_l_]) w [eI tyValue l_ g_l_] w := hS
 generalize hX : fpl [eI tyValue l_ g_l_] = X at hS0 ⊢
 clear hS hX
 have hS := hS0
 clear hS0
 refine calls_entryP Tryz.func39 rfl Tryz.ntmps39 rfl fun _ H => ?_
 refine s_reg [] [0, 1] (fS [0, 1] [vS whole, vL g_l_ l_]) [] H (by kernel_rfl) trivial fun _ _ H2 hb => ?_
 replace hS := hS.below hb
 clear H hb
 apply w_seq
 apply wl_start
 refine wl_batch 0 1 [] [0, 1, 8] (fS [0, 1, 8] [vS whole, vL g_l_ l_, vL g_l_ l_]) [] H2 (by decide) (by kernel_rfl) trivial fun _ _ H4 hb => ?_
 replace hS := hS.below hb
 clear H2 hb
 have hd := hS.hand [0] [0] rfl rfl
 refine m_stp [9, 0, 1] (fS [0, 1] [vS whole, vL g_l_ l_]) H4 rfl rfl rfl rfl (o_lit (T := (Ty.sl tyValue)) (E := 22) (zv := vO) [vL g_l_ l_] ([l_] : List (List TValue)) [gL [g_l_]] _ H4 hd rfl (by kernel_rfl) (by kernel_rfl) (by kernel_rfl) (by kernel_rfl) (by kernel_rfl) (by kernel_rfl) (by kernel_rfl) rfl (InnL.cons (hd.im 0 rfl) InnL.nil)) (fun _ => rfl) fun _ _ v H8 hq => ?_
 clear H4 hd
 obtain ⟨g5, rfl, hq⟩ := hq
 replace hS : SH M X w [eO 22 (Ty.sl tyValue) ([l_] : List (List TValue)) g5, eI tyValue l_ g_l_] _ := hS.join [0] [0] rfl rfl hq
 clear hq
 refine wl_batch 2 3 [] [0, 1, 5] (fS [0, 1, 5] [vS whole, vL g_l_ l_, vK g5 1]) [] H8 (by decide) (by kernel_rfl) trivial fun _ _ H10 hb => ?_
 replace hS := hS.below hb
 clear H8 hb
 apply wl_end rfl
 obtain ⟨z11, hz, hm⟩ := bindE hm
 refine w_cut (fun a' w' => ∃ (g24 : Gh), Fr 38 (fS [0, 5] [vS whole, vL g24 z11]) a' ∧ SH M X w [eO 22 (Ty.sl tyValue) z11 g24, eI tyValue l_ g_l_] w') ?_ ?_
 ·replace hm := hz
  refine s_reg [] [0, 1, 5, 11] (fS [0, 1, 5, 11] [vS whole, vL g_l_ l_, vK g5 1, vB (whole == [109, 97, 114, 103, 105, 110])]) [] H10 (by kernel_rfl) trivial fun _ _ H13 hb => ?_
  replace hS := hS.below hb
  clear H10 hb
  refine w_if H13 rfl (fun hc => ?_) (fun hc => ?c23)
  case c23 =>
   replace hm := bF hc hm
   apply w_skip
   obtain rfl := someE hm
   exact ⟨g5, FrG.keep (ks := [0, 5]) H13 (by kernel_rfl), hS⟩
  replace hm := bT hc hm
  apply wl_start
  refine wl_batch 0 1 [] [0, 12] (fS [0, 12] [vS whole, vL g_l_ l_]) [] H13 (by decide) (by kernel_rfl) trivial fun _ _ H15 hb => ?_
  replace hS := hS.below hb
  clear H13 hb
  obtain ⟨y16, hy16, hm⟩ := bindE hm
  have hd := hS.hand [1] [0, 1] rfl rfl
  refine m_stp [13, 0] [(0, [], vS whole)] H15 rfl rfl rfl rfl (o_callx H15 rfl rfl (r27_parts_ok (g_l_ := g_l_) m _ _ hy16 _ _ hd)) (fun _ => rfl) fun _ _ v H20 hq => ?_
  clear H15 hd
  obtain ⟨g17, rfl, hq⟩ := hq
  replace hS : SH M X w [eO 22 (Ty.sl tyValue) y16 g17, eO 22 (Ty.sl tyValue) ([l_] : List (List TValue)) g5, eI tyValue l_ g_l_] _ := hS.join [1] [0, 1] rfl rfl hq
  clear hq
  refine wl_batch 2 3 [] [0, 5] (fS [0, 5] [vS whole, vL g17 y16]) [] H20 (by decide) (by kernel_rfl) trivial fun _ _ H22 hb => ?_
  replace hS := hS.below hb
  clear H20 hb
  apply wl_end rfl
  obtain rfl := someE hm
  replace hS : SH M X w [eO 22 (Ty.sl tyValue) y16 g17, eI tyValue l_ g_l_] _ := hS.sel [0, 2] rfl
  exact ⟨g17, FrG.keep (ks := [0, 5]) H22 (by kernel_rfl), hS⟩
 ·rintro _ _ ⟨g24, H, hS⟩
  replace hS : SH M X w [eO 22 (Ty.sl tyValue) z11 g24] _ := hS.sel [0] rfl
  apply w_seq
  apply wl_start
  refine wl_batch 0 1 [] [5, 14] (fS [5, 14] [vL g24 z11, vS whole]) [] H (by decide) (by kernel_rfl) trivial fun _ _ H27 hb => ?_
  replace hS := hS.below hb
  clear H hb
  obtain ⟨y28, hy28, hm⟩ := bindE hm
  have hd := hS.hand [] [0] rfl rfl
  refine m_stp [15, 5] [(5, [], vL g24 z11)] H27 rfl rfl rfl rfl (o_callx H27 rfl rfl (r27_longs_ok _ _ hy28 _ _ hd)) (fun _ => rfl) fun _ _ v H32 hq => ?_
  clear H27 hd
  obtain ⟨g29, rfl, hq⟩ := hq
  replace hS : SH M X w [eO 9 tS y28 g29, eO 22 (Ty.sl tyValue) z11 g24] _ := hS.join [] [0] rfl rfl hq
  clear hq
  refine wl_batch 2 3 [] [5, 6] (fS [5, 6] [vL g24 z11, vL g29 y28]) [] H32 (by decide) (by kernel_rfl) trivial fun _ _ H34 hb => ?_
  replace hS := hS.below hb
  clear H32 hb
  apply wl_end rfl
  apply w_seq
  refine s_reg [] [5, 6, 20] (fS [5, 6, 20] [vL g24 z11, vL g29 y28, vB ((ln z11) != (ln y28))]) [] H34 (by kernel_rfl) trivial fun _ _ H36 hb => ?_
  replace hS := hS.below hb
  clear H34 hb
  refine w_if H36 rfl (fun hc => ?c62) (fun hc => ?_)
  case c62 =>
   replace hm := bT hc hm
   refine s_reg [] [4] [(4, [], vO)] [] H36 (by kernel_rfl) trivial fun _ _ H38 hb => ?_
   replace hS := hS.below hb
   clear H36 hb
   replace hS : SH M X w [] _ := hS.sel [] rfl
   apply w_ret
   obtain rfl := someE hm
   replace hS : SH M X w [eO 22 (Ty.sl tyValue) ([] : List (List TValue)) (.nil)] _ := hS.addNil 22 (Ty.sl tyValue)
   exact retR1 H38 rfl rfl ⟨_, rfl, Gh.nil, rfl, (hS.sel [0] rfl)⟩
  replace hm := bF hc hm
  apply w_skip
  obtain ⟨z40, hz, hm_z40⟩ := bindE hm
  refine w_cut (fun a' w' => ∃ s_z40 : Unit, z40 = Sum.inr s_z40 ∧ Fr 38 [(5, [], vL g24 z11)] a' ∧ SH M X w [eO 9 tS y28 g29, eO 22 (Ty.sl tyValue) z11 g24] w') ?_ ?_
  ·replace hm := hz
   refine s_reg [] [5, 6, 7] (fS [5, 6, 7] [vL g24 z11, vL g29 y28, vI 0]) [] H36 (by kernel_rfl) trivial fun _ _ H42 hb => ?_
   replace hS := hS.below hb
   clear H36 hb
   apply w_block
   refine w_loop (fun kk a' w' => ∃ (v43 : Int), r27_Parted_L1 m z11 y28 kk v43 = some _ ∧ Fr 38 (fS [5, 6, 7] [vL g24 z11, vL g29 y28, vI v43]) a' ∧ SH M X w [eO 9 tS y28 g29, eO 22 (Ty.sl tyValue) z11 g24] w') ⟨_, 0, hm, FrG.keep (ks := [5, 6, 7]) H42 (by kernel_rfl), hS⟩ ?_
   clear hm H42 hS
   rintro kk _ _ ⟨v43, hm, H, hS⟩
   cases kk with
   | zero => exact noneE hm
   | succ kk =>
    rw [r27_Parted_L1] at hm
    apply w_seq
    refine s_reg [] [5, 6, 7, 24] (fS [5, 6, 7, 24] [vL g24 z11, vL g29 y28, vI v43, vB (decide (v43 < (ln z11)))]) [] H (by kernel_rfl) trivial fun _ _ H45 hb => ?_
    replace hS := hS.below hb
    clear H hb
    refine w_if H45 rfl (fun hc => ?_) (fun hc => ?c57)
    case c57 =>
     replace hm := bF hc hm
     apply w_exit rfl
     obtain rfl := someE hm
     exact ⟨_, rfl, FrG.keep (ks := [5]) H45 (by kernel_rfl), hS⟩
    replace hm := bT hc hm
    apply w_skip
    apply w_seq
    apply w_block
    obtain ⟨ho46, hm⟩ := chkE hm
    obtain ⟨ho47, hm⟩ := chkE hm
    obtain ⟨y48, hy48, hm⟩ := bindE hm
    refine s_draw [(vS (gi y28 v43)), (.slice (g24.s (v43).toNat 0).a ((gi z11 v43).length) (g24.s (v43).toNat 0).c), (vB y48)] [5, 6, 7, 36] (fS [5, 6, 7, 36] [vL g24 z11, vL g29 y28, vI v43, vB (!y48)]) [fun _ => oka g29.a ∧ 0 ≤ v43 ∧ v43 < ln y28, fun wz => V.at1 ⟨ab g29.a, ao g29.a + (v43).toNat * 1, none⟩ (vS (gi y28 v43)) wz, fun _ => oka g24.a ∧ 0 ≤ v43 ∧ v43 < ln z11, fun wz => V.at1 ⟨ab g24.a, ao g24.a + (v43).toNat * 1, none⟩ (.slice (g24.s (v43).toNat 0).a ((gi z11 v43).length) (g24.s (v43).toNat 0).c) wz, rB 65 [vS (gi y28 v43), .slice (g24.s (v43).toNat 0).a ((gi z11 v43).length) (g24.s (v43).toNat 0).c] (vB y48)] H45 (by kernel_rfl) (by kernel_rfl) (by kernel_rfl) ⟨((hS.osl 0 rfl).oki ho46), ((hS.osl 0 rfl).at1 ho46 0 rfl), ((hS.osl 1 rfl).oki ho47), ((hS.osl 1 rfl).at1 ho47 0 rfl), (r27_right_ok (g_l_ := (g24.s (v43).toNat 0)) m _ _ _ hy48 _ (s0im s0nil (sl_inn ((hS.osl 1 rfl).el ho47)))), trivial⟩ fun _ _ H50 hb => ?_
    replace hS := hS.below hb
    clear H45 hb
    refine w_if H50 rfl (fun hc => ?_) (fun hc => ?c56)
    case c56 =>
     replace hm := bF hc hm
     apply w_skip
     refine w_reg [] [5, 6, 7] (fS [5, 6, 7] [vL g24 z11, vL g29 y28, vI (w64 (v43 + 1))]) [] H50 (by kernel_rfl) trivial fun _ _ H55 hb => ?_
     replace hS := hS.below hb
     clear H50 hb
     exact ⟨_, Nat.lt_succ_self _, w64 (v43 + 1), hm, FrG.keep (ks := [5, 6, 7]) H55 (by kernel_rfl), hS⟩
    replace hm := bT hc hm
    refine s_reg [] [4] [(4, [], vO)] [] H50 (by kernel_rfl) trivial fun _ _ H52 hb => ?_
    replace hS := hS.below hb
    clear H50 hb
    apply w_ret
    obtain rfl := someE hm
    have hm := hm_z40
    obtain rfl := someE hm
    replace hS : SH M X w [eO 22 (Ty.sl tyValue) ([] : List (List TValue)) (.nil), eO 9 tS y28 g29, eO 22 (Ty.sl tyValue) z11 g24] _ := hS.addNil 22 (Ty.sl tyValue)
    exact retR1 H52 rfl rfl ⟨_, rfl, Gh.nil, rfl, (hS.sel [0] rfl)⟩
  ·rintro _ _ ⟨s_z40, hz, H, hS⟩
   subst hz
   replace hm := sumR hm_z40
   replace hS : SH M X w [eO 22 (Ty.sl tyValue) z11 g24] _ := hS.sel [1] rfl
   refine s_reg [] [4] [(4, [], vL g24 z11)] [] H (by kernel_rfl) trivial fun _ _ H60 hb => ?_
   replace hS := hS.below hb
   clear H hb
   apply w_ret
   obtain rfl := someE hm
   exact retR1 H60 rfl rfl ⟨_, rfl, g24, rfl, (hS.sel [0] rfl)⟩
theorem r27_Parted_ok {g_l_ : Gh} (m : Nat) (whole : Str) (l_ : List TValue) (r : List (List TValue)) (hm : r27_Parted m whole l_ = some r) (M : Av) (w : World) (hS : S0 M [eI tyValue l_ g_l_] w) : DoesX Tryz.prog 39 ⟨[vS whole, vL g_l_ l_]⟩ w (fun v w' => ∃ (g901 : Gh), v = vL g901 r ∧ SH M (fpl [eI tyValue l_ g_l_]) w [eO 22 (Ty.sl tyValue) r g901] w') := ⟨Tryz.call39 _, r27_Parted_w M m   whole l_ r hm w hS⟩

def r26_Twin_S (rec_ : (List TValue) → Option (List TValue)) : Prop := ∀ (g_l_ : Gh) (M : Av) (l_ : List TValue) (r : List TValue), rec_ l_ = some r → ∀ w, S0 M [eI tyValue l_ g_l_] w → Calls Tryz.prog 40 ⟨[vL g_l_ l_]⟩ w (fun e w' => ∃ v, e = .returned v ∧ ∃ (g901 : Gh), v = vL g901 r ∧ SH M (fpl [eI tyValue l_ g_l_]) w [eO 51 tyValue r g901] w')
theorem r26_Twin_w (m : Nat) : ∀ (k : Nat), r26_Twin_S (r26_Twin_r m  k) := by
 intro k
 induction k with
 | zero => intro g_l_ M l_ r hm; exact noneE hm
 | succ k ih =>
  intro g_l_ M l_ r hm w hS
  rw [r26_Twin_r] at hm
  have hS0 : SH M (fpl [eI tyValue l_ g_l_]) w [eI tyValue l_ g_l_] w := hS
  generalize hX : fpl [eI tyValue l_ g_l_] = X at hS0 ⊢
  clear hS hX
  have hS := hS0
  clear hS0
  refine calls_entryP Tryz.func40 rfl Tryz.ntmps40 rfl fun _ H => ?_
  refine s_reg [] [0] [(0, [], vL g_l_ l_)] [] H (by kernel_rfl) trivial fun _ _ H2 hb => ?_
  replace hS := hS.below hb
  clear H hb
  refine s_reg [] [0, 3] (fS [0, 3] [vL g_l_ l_, vO]) [] H2 (by kernel_rfl) trivial fun _ _ H4 hb => ?_
  replace hS := hS.below hb
  clear H2 hb
  obtain ⟨z5, hz, hm⟩ := bindE hm
  refine w_cut (fun a' w' => ∃ (g35 : Gh), Fr 27 [(3, [], vL g35 z5)] a' ∧ SH M X w [eO 51 tyValue z5 g35, eI tyValue l_ g_l_] w') ?_ ?_
  ·replace hm := hz
   refine s_reg [] [0, 3, 4] (fS [0, 3, 4] [vL g_l_ l_, vO, vI 0]) [] H4 (by kernel_rfl) trivial fun _ _ H7 hb => ?_
   replace hS := hS.below hb
   clear H4 hb
   apply w_block
   replace hS : SH M X w [eO 51 tyValue ([] : List TValue) (.nil), eI tyValue l_ g_l_] _ := hS.addNil 51 tyValue
   refine w_loop (fun kk a' w' => ∃ (v9 : List TValue) (v11 : Int) (g10 : Gh), r26_Twin_L1 m l_ (r26_Twin_r m k) kk v9 v11 = some _ ∧ Fr 27 (fS [0, 3, 4] [vL g_l_ l_, vL g10 v9, vI v11]) a' ∧ SH M X w [eO 51 tyValue v9 g10, eI tyValue l_ g_l_] w') ⟨_, ([] : List TValue), 0, Gh.nil, hm, FrG.keep (ks := [0, 3, 4]) H7 (by kernel_rfl), hS⟩ ?_
   clear hm H7 hS
   rintro kk _ _ ⟨v9, v11, g10, hm, H, hS⟩
   cases kk with
   | zero => exact noneE hm
   | succ kk =>
    rw [r26_Twin_L1] at hm
    apply w_seq
    refine s_reg [] [0, 3, 4, 8] (fS [0, 3, 4, 8] [vL g_l_ l_, vL g10 v9, vI v11, vB (decide (v11 < (ln l_)))]) [] H (by kernel_rfl) trivial fun _ _ H13 hb => ?_
    replace hS := hS.below hb
    clear H hb
    refine w_if H13 rfl (fun hc => ?_) (fun hc => ?c33)
    case c33 =>
     replace hm := bF hc hm
     apply w_exit rfl
     obtain rfl := someE hm
     exact ⟨g10, FrG.keep (ks := [3]) H13 (by kernel_rfl), hS⟩
    replace hm := bT hc hm
    apply w_skip
    apply w_seq
    apply w_block
    obtain ⟨ho15, hm⟩ := chkE hm
    obtain ⟨y17, hy17, hm⟩ := bindE hm
    obtain ⟨ho22, hm⟩ := chkE hm
    obtain ⟨q23, hq23, hm⟩ := letE hm
    refine w_drawS (base := (fS [0, 4] [vL g_l_ l_, vI v11])) (L := [eO 51 tyValue v9 g10, eI tyValue l_ g_l_]) 16 2 (fun yg14 => [vL g10 v9, vL g_l_ l_, vI v11, .pointer (some ⟨ab g_l_.a, ao g_l_.a + (v11).toNat * 6, none⟩), .pointer (some ⟨ab g_l_.a, ao g_l_.a + (v11).toNat * 6, none⟩), vG [vU ((gi l_ v11).Token.Kind), vS (gi l_ v11).Token.Text, vI ((gi l_ v11).Token.Num), vS (gi l_ v11).Token.Unit, vB ((gi l_ v11).Token.Flag)], vL g_l_ l_, vI v11, .pointer (some ⟨ab g_l_.a, ao g_l_.a + (v11).toNat * 6, none⟩), .pointer (some ⟨ab g_l_.a, ao g_l_.a + (v11).toNat * 6 + 5, none⟩), .slice (g_l_.s (v11).toNat 0).a (((gi l_ v11).List_).length) (g_l_.s (v11).toNat 0).c, .slice (yg14 11 0).a y17.length (yg14 11 0).c, vG [vU ((gi l_ v11).Token.Kind), vS (gi l_ v11).Token.Text, vI ((gi l_ v11).Token.Num), vS (gi l_ v11).Token.Unit, vB ((gi l_ v11).Token.Flag), .slice (yg14 11 0).a y17.length (yg14 11 0).c], vK (yg14 13 0) 1, .slice (yg14 14 0).a q23.length (yg14 14 0).c, .slice (yg14 14 0).a q23.length (yg14 14 0).c]) (fun yg14 => [[], [], [], [], [], [], [], [], [], [], [], [eO 51 tyValue y17 (yg14 11 0), eI tyValue ((gi l_ v11).List_) (g_l_.s (v11).toNat 0)], [], [eO 51 tyValue ([(TValue.mk ((gi l_ v11).Token) y17)] : List TValue) (yg14 13 0), eI tyValue y17 (yg14 11 0), eI tyValue ((gi l_ v11).List_) (g_l_.s (v11).toNat 0)], [eO 51 tyValue q23 (yg14 14 0)], []]) [[], [], [], [17], [17], [17], [], [], [17], [17], [17], [17], [11], [11], [13, 16], [14]] [[], [], [], [], [], [], [], [], [], [], [], [], [], [11], [16], []] [[0], [1], [2], [1, 2, 3], [1, 2, 3, 4], [1, 2, 3, 4, 5], [6], [7], [6, 7, 8], [6, 7, 8, 9], [6, 7, 8, 9, 10], [6, 7, 8, 9, 10, 11], [1, 2, 3, 4, 5, 6, 7, 8, 9, 10, 11, 12], [1, 2, 3, 4, 5, 6, 7, 8, 9, 10, 11, 12, 13], [0, 1, 2, 3, 4, 5, 6, 7, 8, 9, 10, 11, 12, 13, 14], [0, 1, 2, 3, 4, 5, 6, 7, 8, 9, 10, 11, 12, 13, 14, 15]] [(3, 15, vL g10 v9)] (FrG.keep (ks := [0, 4]) H13 (by kernel_rfl)) (fun k e h => by rcases k with _ | k <;> first | (obtain rfl := Option.some.inj h; exact FrG.slot H13 (by kernel_rfl)) | cases h) (by kernel_rfl) hS (by kernel_rfl) rfl rfl (by kernel_rfl) (by kernel_rfl) (by kernel_rfl) (gd_none (by kernel_rfl) _ _) ?hloc_yg14 ?hstep_yg14 fun _ _ yg14 H26 hv hS => ?hK_yg14
    case hloc_yg14 => exact ⟨(fun _ _ _ _ => ⟨rfl, rfl⟩), (fun _ _ _ _ => ⟨rfl, rfl⟩), (fun _ _ _ _ => ⟨rfl, rfl⟩), (fun _ _ _ _ => ⟨rfl, rfl⟩), (fun _ _ _ _ => ⟨rfl, rfl⟩), (fun _ _ _ _ => ⟨rfl, rfl⟩), (fun _ _ _ _ => ⟨rfl, rfl⟩), (fun _ _ _ _ => ⟨rfl, rfl⟩), (fun _ _ _ _ => ⟨rfl, rfl⟩), (fun _ _ _ _ => ⟨rfl, rfl⟩), (fun _ _ _ _ => ⟨rfl, rfl⟩), (fun _ i g hi => lcG [11] (fun yg14 => (.slice (yg14 11 0).a y17.length (yg14 11 0).c, [eO 51 tyValue y17 (yg14 11 0), eI tyValue ((gi l_ v11).List_) (g_l_.s (v11).toNat 0)])) hi rfl), (fun _ i g hi => lcG [11] (fun yg14 => (vG [vU ((gi l_ v11).Token.Kind), vS (gi l_ v11).Token.Text, vI ((gi l_ v11).Token.Num), vS (gi l_ v11).Token.Unit, vB ((gi l_ v11).Token.Flag), .slice (yg14 11 0).a y17.length (yg14 11 0).c], [])) hi rfl), (fun _ i g hi => lcG [11, 13] (fun yg14 => (vK (yg14 13 0) 1, [eO 51 tyValue ([(TValue.mk ((gi l_ v11).Token) y17)] : List TValue) (yg14 13 0), eI tyValue y17 (yg14 11 0), eI tyValue ((gi l_ v11).List_) (g_l_.s (v11).toNat 0)])) hi rfl), (fun _ i g hi => lcG [14] (fun yg14 => (.slice (yg14 14 0).a q23.length (yg14 14 0).c, [eO 51 tyValue q23 (yg14 14 0)])) hi rfl), (fun _ i g hi => lcG [14] (fun yg14 => (.slice (yg14 14 0).a q23.length (yg14 14 0).c, [])) hi rfl), trivial⟩
    case hstep_yg14 =>
     refine ⟨?_, ?_, ?_, ?_, ?_, ?_, ?_, ?_, ?_, ?_, ?_, ?_, ?_, ?_, ?_, ?_, trivial⟩
     ·intro o ho a w yg14 M Hb hv hO hS
      obtain rfl := someE ho
      exact Stp.mono (o_evs [] (vL g10 v9) none [] ((Hb).add (hO 0 _ rfl (by kernel_rfl))) rfl (by kernel_rfl) (fun q e => by cases e)) fun _ _ hq => ⟨gL [], fun _ _ => hq.1, (hS.below hq.2.below).sel [] rfl⟩
     ·intro o ho a w yg14 M Hb hv hO hS
      obtain rfl := someE ho
      exact Stp.mono (o_evs [] (vL g_l_ l_) none [] Hb rfl (by kernel_rfl) (fun q e => by cases e)) fun _ _ hq => ⟨gL [], fun _ _ => hq.1, (hS.below hq.2.below).sel [] rfl⟩
     ·intro o ho a w yg14 M Hb hv hO hS
      obtain rfl := someE ho
      exact Stp.mono (o_evs [] (vI v11) none [] Hb rfl (by kernel_rfl) (fun q e => by cases e)) fun _ _ hq => ⟨gL [], fun _ _ => hq.1, (hS.below hq.2.below).sel [] rfl⟩
     ·intro o ho a w yg14 M Hb hv hO hS
      obtain rfl := someE ho
      exact Stp.mono (o_evs [] (.pointer (some ⟨ab g_l_.a, ao g_l_.a + (v11).toNat * 6, none⟩)) (some (fun _ => oka g_l_.a ∧ 0 ≤ v11 ∧ v11 < ln l_)) [] (((Hb).add (hv 1 (by decide) (by decide) 12 rfl)).add (hv 2 (by decide) (by decide) 13 rfl)) rfl (by kernel_rfl) (fun q e => by cases e; exact ((hS.im 0 rfl).oki ho15))) fun _ _ hq => ⟨gL [], fun _ _ => hq.1, (hS.below hq.2.below).sel [0] rfl⟩
     ·intro o ho a w yg14 M Hb hv hO hS
      obtain rfl := someE ho
      exact Stp.mono (o_evs [] (.pointer (some ⟨ab g_l_.a, ao g_l_.a + (v11).toNat * 6, none⟩)) none [] ((Hb).add (hv 3 (by decide) (by decide) 14 rfl)) rfl (by kernel_rfl) (fun q e => by cases e)) fun _ _ hq => ⟨gL [], fun _ _ => hq.1, (hS.below hq.2.below).sel [0] rfl⟩
     ·intro o ho a w yg14 M Hb hv hO hS
      obtain rfl := someE ho
      exact Stp.mono (o_evs [(vG [vU ((gi l_ v11).Token.Kind), vS (gi l_ v11).Token.Text, vI ((gi l_ v11).Token.Num), vS (gi l_ v11).Token.Unit, vB ((gi l_ v11).Token.Flag)])] (vG [vU ((gi l_ v11).Token.Kind), vS (gi l_ v11).Token.Text, vI ((gi l_ v11).Token.Num), vS (gi l_ v11).Token.Unit, vB ((gi l_ v11).Token.Flag)]) (some (fun wz => V.atN (ab g_l_.a) (ao g_l_.a + (v11).toNat * 6) [vU ((gi l_ v11).Token.Kind), vS (gi l_ v11).Token.Text, vI ((gi l_ v11).Token.Num), vS (gi l_ v11).Token.Unit, vB ((gi l_ v11).Token.Flag)] 0 wz)) [] ((Hb).add (hv 4 (by decide) (by decide) 15 rfl)) rfl (by kernel_rfl) (fun q e => by cases e; exact ((hS.im 0 rfl).atA ho15 0 rfl))) fun _ _ hq => ⟨gL [], fun _ _ => hq.1, (hS.below hq.2.below).sel [0] rfl⟩
     ·intro o ho a w yg14 M Hb hv hO hS
      obtain rfl := someE ho
      exact Stp.mono (o_evs [] (vL g_l_ l_) none [] Hb rfl (by kernel_rfl) (fun q e => by cases e)) fun _ _ hq => ⟨gL [], fun _ _ => hq.1, (hS.below hq.2.below).sel [] rfl⟩
     ·intro o ho a w yg14 M Hb hv hO hS
      obtain rfl := someE ho
      exact Stp.mono (o_evs [] (vI v11) none [] Hb rfl (by kernel_rfl) (fun q e => by cases e)) fun _ _ hq => ⟨gL [], fun _ _ => hq.1, (hS.below hq.2.below).sel [] rfl⟩
     ·intro o ho a w yg14 M Hb hv hO hS
      obtain rfl := someE ho
      exact Stp.mono (o_evs [] (.pointer (some ⟨ab g_l_.a, ao g_l_.a + (v11).toNat * 6, none⟩)) (some (fun _ => oka g_l_.a ∧ 0 ≤ v11 ∧ v11 < ln l_)) [] (((Hb).add (hv 6 (by decide) (by decide) 17 rfl)).add (hv 7 (by decide) (by decide) 18 rfl)) rfl (by kernel_rfl) (fun q e => by cases e; exact ((hS.im 0 rfl).oki ho15))) fun _ _ hq => ⟨gL [], fun _ _ => hq.1, (hS.below hq.2.below).sel [0] rfl⟩
     ·intro o ho a w yg14 M Hb hv hO hS
      obtain rfl := someE ho
      exact Stp.mono (o_evs [] (.pointer (some ⟨ab g_l_.a, ao g_l_.a + (v11).toNat * 6 + 5, none⟩)) none [] ((Hb).add (hv 8 (by decide) (by decide) 19 rfl)) rfl (by kernel_rfl) (fun q e => by cases e)) fun _ _ hq => ⟨gL [], fun _ _ => hq.1, (hS.below hq.2.below).sel [0] rfl⟩
     ·intro o ho a w yg14 M Hb hv hO hS
      obtain rfl := someE ho
      exact Stp.mono (o_evs [(.slice (g_l_.s (v11).toNat 0).a (((gi l_ v11).List_).length) (g_l_.s (v11).toNat 0).c)] (.slice (g_l_.s (v11).toNat 0).a (((gi l_ v11).List_).length) (g_l_.s (v11).toNat 0).c) (some (fun wz => V.at1 ⟨ab g_l_.a, ao g_l_.a + (v11).toNat * 6 + 5, none⟩ (.slice (g_l_.s (v11).toNat 0).a (((gi l_ v11).List_).length) (g_l_.s (v11).toNat 0).c) wz)) [] ((Hb).add (hv 9 (by decide) (by decide) 20 rfl)) rfl (by kernel_rfl) (fun q e => by cases e; exact ((hS.im 0 rfl).at1 ho15 5 rfl))) fun _ _ hq => ⟨gL [], fun _ _ => hq.1, (hS.below hq.2.below).sel [0] rfl⟩
     ·intro o ho a w yg14 M Hb hv hO hS0
      obtain rfl := someE ho
      have H : Fr 27 ([(21, [], .slice (g_l_.s (v11).toNat 0).a (((gi l_ v11).List_).length) (g_l_.s (v11).toNat 0).c)] ++ (fS [0, 4] [vL g_l_ l_, vI v11])) _ := (Hb).add (hv 10 (by decide) (by decide) 21 rfl)
      obtain ⟨X, hX⟩ : ∃ X, X = fpl [eI tyValue l_ g_l_] := ⟨_, rfl⟩
      have hS : SH M X w [eI tyValue l_ g_l_] w := by rw [hX]; exact hS0
      replace hS : SH M X w [eI tyValue ((gi l_ v11).List_) (g_l_.s (v11).toNat 0), eI tyValue l_ g_l_] _ := hS.addIm (tyValue_i0 ((hS.im 0 rfl).el ho15))
      have hd := hS.hand [0] [0, 1] rfl rfl
      refine Stp.mono (o_callx H rfl rfl (⟨Tryz.call40 _, ih ((g_l_.s (v11).toNat 0)) _ _ _ hy17 _ hd⟩ : DoesX _ _ _ _ _)) ?_
      rintro v w2 hq
      obtain ⟨g18, rfl, hq⟩ := hq
      replace hS : SH M X w [eO 51 tyValue y17 g18, eI tyValue ((gi l_ v11).List_) (g_l_.s (v11).toNat 0), eI tyValue l_ g_l_] _ := hS.join [0] [0, 1] rfl rfl hq
      clear hq
      rw [hX] at hS
      exact ⟨gL [g18], fun _ _ => rfl, hS.sel [0, 1, 2] rfl⟩
     ·intro o ho a w yg14 M Hb hv hO hS
      obtain rfl := someE ho
      exact Stp.mono (o_evs [] (vG [vU ((gi l_ v11).Token.Kind), vS (gi l_ v11).Token.Text, vI ((gi l_ v11).Token.Num), vS (gi l_ v11).Token.Unit, vB ((gi l_ v11).Token.Flag), .slice (yg14 11 0).a y17.length (yg14 11 0).c]) none [] (((Hb).add (hv 5 (by decide) (by decide) 16 rfl)).add (hv 11 (by decide) (by decide) 22 rfl)) rfl (by kernel_rfl) (fun q e => by cases e)) fun _ _ hq => ⟨gL [], fun _ _ => hq.1, (hS.below hq.2.below).sel [0, 1] rfl⟩
     ·intro o ho a w yg14 M Hb hv hO hS0
      obtain rfl := someE ho
      have H : Fr 27 ([(23, [], vG [vU ((gi l_ v11).Token.Kind), vS (gi l_ v11).Token.Text, vI ((gi l_ v11).Token.Num), vS (gi l_ v11).Token.Unit, vB ((gi l_ v11).Token.Flag), .slice (yg14 11 0).a y17.length (yg14 11 0).c])] ++ (fS [0, 4] [vL g_l_ l_, vI v11])) _ := (Hb).add (hv 12 (by decide) (by decide) 23 rfl)
      obtain ⟨X, hX⟩ : ∃ X, X = fpl [eO 51 tyValue y17 (yg14 11 0), eI tyValue ((gi l_ v11).List_) (g_l_.s (v11).toNat 0)] := ⟨_, rfl⟩
      have hS : SH M X w [eO 51 tyValue y17 (yg14 11 0), eI tyValue ((gi l_ v11).List_) (g_l_.s (v11).toNat 0)] w := by rw [hX]; exact hS0
      replace hS : SH M X w [eI tyValue y17 (yg14 11 0), eI tyValue ((gi l_ v11).List_) (g_l_.s (v11).toNat 0)] _ := SH.frz1 (hS.sel [0, 1] rfl)
      have hd := hS.hand [0] [0, 1] rfl rfl
      refine Stp.mono (o_lit (T := tyValue) (E := 51) (zv := vG [vU 0, vN, vI 0, vN, vF, vO]) [vU ((gi l_ v11).Token.Kind), vS (gi l_ v11).Token.Text, vI ((gi l_ v11).Token.Num), vS (gi l_ v11).Token.Unit, vB ((gi l_ v11).Token.Flag), .slice (yg14 11 0).a y17.length (yg14 11 0).c] ([(TValue.mk ((gi l_ v11).Token) y17)] : List TValue) [gL [(yg14 11 0)]] _ H hd rfl (by kernel_rfl) (by kernel_rfl) (by kernel_rfl) (by kernel_rfl) (by kernel_rfl) (by kernel_rfl) (by kernel_rfl) rfl (InnL.cons (tyValue_mk (hd.im 0 rfl)) InnL.nil)) ?_
      rintro v w2 hq
      obtain ⟨g20, rfl, hq⟩ := hq
      replace hS : SH M X w [eO 51 tyValue ([(TValue.mk ((gi l_ v11).Token) y17)] : List TValue) g20, eI tyValue y17 (yg14 11 0), eI tyValue ((gi l_ v11).List_) (g_l_.s (v11).toNat 0)] _ := hS.join [0] [0, 1] rfl rfl hq
      clear hq
      rw [hX] at hS
      exact ⟨gL [g20], fun _ _ => rfl, hS.sel [0, 1, 2] rfl⟩
     ·intro o ho a w yg14 M Hb hv hO hS0
      obtain rfl := someE ho
      have H : Fr 27 ((fS [24, 11] [vK (yg14 13 0) 1, vL g10 v9]) ++ (fS [0, 4] [vL g_l_ l_, vI v11])) _ := ((Hb).add (hv 0 (by decide) (by decide) 11 rfl)).add (hv 13 (by decide) (by decide) 24 rfl)
      obtain ⟨X, hX⟩ : ∃ X, X = fpl [eO 51 tyValue ([(TValue.mk ((gi l_ v11).Token) y17)] : List TValue) (yg14 13 0), eI tyValue y17 (yg14 11 0), eI tyValue ((gi l_ v11).List_) (g_l_.s (v11).toNat 0), eO 51 tyValue v9 g10] := ⟨_, rfl⟩
      have hS : SH M X w [eO 51 tyValue ([(TValue.mk ((gi l_ v11).Token) y17)] : List TValue) (yg14 13 0), eI tyValue y17 (yg14 11 0), eI tyValue ((gi l_ v11).List_) (g_l_.s (v11).toNat 0), eO 51 tyValue v9 g10] w := by rw [hX]; exact hS0
      have hd := hS.hand [3, 0] [1, 2] rfl rfl
      refine Stp.mono (o_app2 (T := tyValue) (zv := vG [vU 0, vN, vI 0, vN, vF, vO]) (g1 := g10) (g2 := (yg14 13 0)) (l1 := v9) (l2 := ([(TValue.mk ((gi l_ v11).Token) y17)] : List TValue)) q23 hq23.symm H hd rfl rfl rfl rfl rfl rfl rfl (by kernel_rfl) (by kernel_rfl) rfl rfl ho22) ?_
      rintro v w2 hq
      obtain ⟨g24, rfl, hq⟩ := hq
      replace hS : SH M X w [eO 51 tyValue q23 g24, eO 51 tyValue ([(TValue.mk ((gi l_ v11).Token) y17)] : List TValue) (yg14 13 0), eI tyValue y17 (yg14 11 0), eI tyValue ((gi l_ v11).List_) (g_l_.s (v11).toNat 0)] _ := hS.join [3, 0] [1, 2] rfl rfl hq
      clear hq
      rw [hX] at hS
      exact ⟨gL [g24], fun _ _ => rfl, hS.sel [0, 1, 2, 3] rfl⟩
     ·intro o ho a w yg14 M Hb hv hO hS
      obtain rfl := someE ho
      exact Stp.mono (o_evs [] (.slice (yg14 14 0).a q23.length (yg14 14 0).c) none [] ((Hb).add (hv 14 (by decide) (by decide) 25 rfl)) rfl (by kernel_rfl) (fun q e => by cases e)) fun _ _ hq => ⟨gL [], fun _ _ => hq.1, (hS.below hq.2.below).sel [0] rfl⟩
    have H27 : Fr 27 (fS [3, 0, 4] [.slice (yg14 14 0).a q23.length (yg14 14 0).c, vL g_l_ l_, vI v11]) _ := (FrG.add (FrG.keep (ks := [0, 4]) H26 (by kernel_rfl)) (hv 15 3 rfl))
    replace hS : SH M X w [eO 51 tyValue ([(TValue.mk ((gi l_ v11).Token) y17)] : List TValue) (yg14 13 0), eI tyValue y17 (yg14 11 0), eI tyValue ((gi l_ v11).List_) (g_l_.s (v11).toNat 0), eO 51 tyValue q23 (yg14 14 0), eI tyValue l_ g_l_] _ := hS
    clear hv H26
    generalize yg14 14 0 = g28 at H27 hS
    generalize yg14 13 0 = g29 at H27 hS
    generalize yg14 11 0 = g30 at H27 hS
    replace hS : SH M X w [eO 51 tyValue q23 g28, eI tyValue l_ g_l_] _ := hS.sel [3, 4] rfl
    refine w_reg [] [0, 3, 4] (fS [0, 3, 4] [vL g_l_ l_, vL g28 q23, vI (w64 (v11 + 1))]) [] H27 (by kernel_rfl) trivial fun _ _ H32 hb => ?_
    replace hS := hS.below hb
    clear H27 hb
    exact ⟨_, Nat.lt_succ_self _, q23, w64 (v11 + 1), g28, hm, FrG.keep (ks := [0, 3, 4]) H32 (by kernel_rfl), hS⟩
  ·rintro _ _ ⟨g35, H, hS⟩
   replace hS : SH M X w [eO 51 tyValue z5 g35] _ := hS.sel [0] rfl
   refine s_reg [] [2] [(2, [], vL g35 z5)] [] H (by kernel_rfl) trivial fun _ _ H38 hb => ?_
   replace hS := hS.below hb
   clear H hb
   apply w_ret
   obtain rfl := someE hm
   exact retR1 H38 rfl rfl ⟨_, rfl, g35, rfl, (hS.sel [0] rfl)⟩
theorem r26_Twin_ok {g_l_ : Gh} (m : Nat) (l_ : List TValue) (r : List TValue) (hm : r26_Twin m l_ = some r) (M : Av) (w : World) (hS : S0 M [eI tyValue l_ g_l_] w) : DoesX Tryz.prog 40 ⟨[vL g_l_ l_]⟩ w (fun v w' => ∃ (g901 : Gh), v = vL g901 r ∧ SH M (fpl [eI tyValue l_ g_l_]) w [eO 51 tyValue r g901] w') := ⟨Tryz.call40 _, r26_Twin_w m   m g_l_ M l_ r hm w hS⟩

theorem r27_Part_w {g_l_ : Gh} (M : Av) (m : Nat) (whole : Str) (long : Str) (l_ : List TValue) (r : (List TValue) × Int) (hm : r27_Part m whole long l_ = some r) (w : World) (hS : S0 M [eI tyValue l_ g_l_] w) : Calls Tryz.prog 12 ⟨[vS whole, vS long, vL g_l_ l_]⟩ w (fun e w' => ∃ v, e = .returned v ∧ ∃ (g901 : Gh), v = vW [vL g901 r.1, vI r.2] ∧ SH M (fpl [eI tyValue l_ g_l_]) w [eO 51 tyValue r.1 g901] w') := by
 rw [r27_Part] at hm
 have hS0 : SH M (fpl [eI tyValue l_ g_l_]) w [eI tyValue l_ g_l_] w := hS
 generalize hX : fpl [eI tyValue l_ g_l_] = X at hS0 ⊢
 clear hS hX
 have hS := hS0
 clear hS0
 refine calls_entryP Tryz.func12 rfl Tryz.ntmps12 rfl fun _ H => ?_
 refine s_reg [] [0, 1, 2] (fS [0, 1, 2] [vS whole, vS long, vL g_l_ l_]) [] H (by kernel_rfl) trivial fun _ _ H2 hb => ?_
 replace hS := hS.below hb
 clear H hb
 apply w_seq
 obtain ⟨y3, hy3, hm⟩ := bindE hm
 refine s_reg [(vI y3)] [0, 1, 2, 8] (fS [0, 1, 2, 8] [vS whole, vS long, vL g_l_ l_, vI y3]) [rB 38 [vL g_l_ l_] (vI y3)] H2 (by kernel_rfl) ⟨(r04_Check_ok (g_v_ := g_l_) m _ _ hy3 _ (s0im s0nil (hS.im 0 rfl))), trivial⟩ fun _ _ H5 hb => ?_
 replace hS := hS.below hb
 clear H2 hb
 refine s_reg [] [0, 1, 2, 8, 16] (fS [0, 1, 2, 8, 16] [vS whole, vS long, vL g_l_ l_, vI y3, vB (y3 != 0)]) [] H5 (by kernel_rfl) trivial fun _ _ H7 hb => ?_
 replace hS := hS.below hb
 clear H5 hb
 refine w_if H7 rfl (fun hc => ?c74) (fun hc => ?_)
 case c74 =>
  replace hm := bT hc hm
  refine s_reg [] [6, 7] (fS [6, 7] [vO, vI y3]) [] H7 (by kernel_rfl) trivial fun _ _ H9 hb => ?_
  replace hS := hS.below hb
  clear H7 hb
  replace hS : SH M X w [] _ := hS.sel [] rfl
  apply w_ret
  obtain rfl := someE hm
  replace hS : SH M X w [eO 51 tyValue ([] : List TValue) (.nil)] _ := hS.addNil 51 tyValue
  exact retR2 H9 rfl rfl rfl ⟨_, rfl, Gh.nil, rfl, (hS.sel [0] rfl)⟩
 replace hm := bF hc hm
 apply w_skip
 apply w_seq
 apply wl_start
 refine wl_batch 0 1 [] [0, 1, 2, 18] (fS [0, 1, 2, 18] [vS whole, vS long, vL g_l_ l_, vS whole]) [] H7 (by decide) (by kernel_rfl) trivial fun _ _ H12 hb => ?_
 replace hS := hS.below hb
 clear H7 hb
 obtain ⟨y13, hy13, hm⟩ := bindE hm
 have hd := hS.hand [] [0] rfl rfl
 refine m_stp [19, 0, 1, 2] (fS [0, 1, 2] [vS whole, vS long, vL g_l_ l_]) H12 rfl rfl rfl rfl (o_callx H12 rfl rfl (r27_longs_ok _ _ hy13 _ _ hd)) (fun _ => rfl) fun _ _ v H17 hq => ?_
 clear H12 hd
 obtain ⟨g14, rfl, hq⟩ := hq
 replace hS : SH M X w [eO 9 tS y13 g14, eI tyValue l_ g_l_] _ := hS.join [] [0] rfl rfl hq
 clear hq
 refine wl_batch 2 3 [] [0, 1, 2, 9] (fS [0, 1, 2, 9] [vS whole, vS long, vL g_l_ l_, vL g14 y13]) [] H17 (by decide) (by kernel_rfl) trivial fun _ _ H19 hb => ?_
 replace hS := hS.below hb
 clear H17 hb
 apply wl_end rfl
 refine s_reg [] [0, 1, 2, 9, 10] (fS [0, 1, 2, 9, 10] [vS whole, vS long, vL g_l_ l_, vL g14 y13, vI (-1)]) [] H19 (by kernel_rfl) trivial fun _ _ H21 hb => ?_
 replace hS := hS.below hb
 clear H19 hb
 obtain ⟨z22, hz, hm⟩ := bindE hm
 refine w_cut (fun a' w' => Fr 46 (fS [0, 2, 10] [vS whole, vL g_l_ l_, vI z22]) a' ∧ SH M X w [eO 9 tS y13 g14, eI tyValue l_ g_l_] w') ?_ ?_
 ·replace hm := hz
  refine s_reg [] [0, 1, 2, 9, 10, 11] (fS [0, 1, 2, 9, 10, 11] [vS whole, vS long, vL g_l_ l_, vL g14 y13, vI (-1), vI 0]) [] H21 (by kernel_rfl) trivial fun _ _ H24 hb => ?_
  replace hS := hS.below hb
  clear H21 hb
  apply w_block
  refine w_loop (fun kk a' w' => ∃ (v25 : Int) (v26 : Int), r27_Part_L1 m long y13 kk v25 v26 = some _ ∧ Fr 46 (fS [0, 1, 2, 9, 10, 11] [vS whole, vS long, vL g_l_ l_, vL g14 y13, vI v25, vI v26]) a' ∧ SH M X w [eO 9 tS y13 g14, eI tyValue l_ g_l_] w') ⟨_, (-1), 0, hm, FrG.keep (ks := [0, 1, 2, 9, 10, 11]) H24 (by kernel_rfl), hS⟩ ?_
  clear hm H24 hS
  rintro kk _ _ ⟨v25, v26, hm, H, hS⟩
  cases kk with
  | zero => exact noneE hm
  | succ kk =>
   rw [r27_Part_L1] at hm
   apply w_seq
   refine s_reg [] [0, 1, 2, 9, 10, 11, 23] (fS [0, 1, 2, 9, 10, 11, 23] [vS whole, vS long, vL g_l_ l_, vL g14 y13, vI v25, vI v26, vB (decide (v26 < (ln y13)))]) [] H (by kernel_rfl) trivial fun _ _ H28 hb => ?_
   replace hS := hS.below hb
   clear H hb
   refine w_if H28 rfl (fun hc => ?_) (fun hc => ?c39)
   case c39 =>
    replace hm := bF hc hm
    apply w_exit rfl
    obtain rfl := someE hm
    exact ⟨FrG.keep (ks := [0, 2, 10]) H28 (by kernel_rfl), hS⟩
   replace hm := bT hc hm
   apply w_skip
   obtain ⟨z29, hz, hm⟩ := bindE hm
   refine w_cut (fun a' w' => Fr 46 (fS [0, 1, 2, 9, 11, 10] [vS whole, vS long, vL g_l_ l_, vL g14 y13, vI v26, vI z29]) a' ∧ SH M X w [eO 9 tS y13 g14, eI tyValue l_ g_l_] w') ?_ ?_
   ·replace hm := hz
    apply w_block
    obtain ⟨ho30, hm⟩ := chkE hm
    refine s_reg [(vS (gi y13 v26))] [0, 1, 2, 9, 10, 11, 31] (fS [0, 1, 2, 9, 10, 11, 31] [vS whole, vS long, vL g_l_ l_, vL g14 y13, vI v25, vI v26, vB ((gi y13 v26) == long)]) [fun _ => oka g14.a ∧ 0 ≤ v26 ∧ v26 < ln y13, fun wz => V.at1 ⟨ab g14.a, ao g14.a + (v26).toNat * 1, none⟩ (vS (gi y13 v26)) wz] H28 (by kernel_rfl) ⟨((hS.osl 0 rfl).oki ho30), ((hS.osl 0 rfl).at1 ho30 0 rfl), trivial⟩ fun _ _ H32 hb => ?_
    replace hS := hS.below hb
    clear H28 hb
    refine w_if H32 rfl (fun hc => ?_) (fun hc => ?c35)
    case c35 =>
     replace hm := bF hc hm
     apply w_skip
     obtain rfl := someE hm
     exact ⟨FrG.keep (ks := [0, 1, 2, 9, 11, 10]) H32 (by kernel_rfl), hS⟩
    replace hm := bT hc hm
    refine w_reg [] [0, 1, 2, 9, 10, 11] (fS [0, 1, 2, 9, 10, 11] [vS whole, vS long, vL g_l_ l_, vL g14 y13, vI v26, vI v26]) [] H32 (by kernel_rfl) trivial fun _ _ H34 hb => ?_
    replace hS := hS.below hb
    clear H32 hb
    obtain rfl := someE hm
    exact ⟨FrG.keep (ks := [0, 1, 2, 9, 11, 10]) H34 (by kernel_rfl), hS⟩
   ·rintro _ _ ⟨H, hS⟩
    refine w_reg [] [0, 1, 2, 9, 10, 11] (fS [0, 1, 2, 9, 10, 11] [vS whole, vS long, vL g_l_ l_, vL g14 y13, vI z29, vI (w64 (v26 + 1))]) [] H (by kernel_rfl) trivial fun _ _ H37 hb => ?_
    replace hS := hS.below hb
    clear H hb
    exact ⟨_, Nat.lt_succ_self _, z29, w64 (v26 + 1), hm, FrG.keep (ks := [0, 1, 2, 9, 10, 11]) H37 (by kernel_rfl), hS⟩
 ·rintro _ _ ⟨H, hS⟩
  replace hS : SH M X w [eI tyValue l_ g_l_] _ := hS.sel [1] rfl
  apply w_seq
  refine s_reg [] [0, 2, 10, 34] (fS [0, 2, 10, 34] [vS whole, vL g_l_ l_, vI z22, vB (decide (z22 < 0))]) [] H (by kernel_rfl) trivial fun _ _ H42 hb => ?_
  replace hS := hS.below hb
  clear H hb
  refine w_if H42 rfl (fun hc => ?c72) (fun hc => ?_)
  case c72 =>
   replace hm := bT hc hm
   refine s_reg [] [6, 7] (fS [6, 7] [vO, vI 6]) [] H42 (by kernel_rfl) trivial fun _ _ H44 hb => ?_
   replace hS := hS.below hb
   clear H42 hb
   replace hS : SH M X w [] _ := hS.sel [] rfl
   apply w_ret
   obtain rfl := someE hm
   replace hS : SH M X w [eO 51 tyValue ([] : List TValue) (.nil)] _ := hS.addNil 51 tyValue
   exact retR2 H44 rfl rfl rfl ⟨_, rfl, Gh.nil, rfl, (hS.sel [0] rfl)⟩
  replace hm := bF hc hm
  apply w_skip
  apply w_seq
  apply wl_start
  refine wl_batch 0 2 [] [10, 35, 36] (fS [10, 35, 36] [vI z22, vS whole, vL g_l_ l_]) [] H42 (by decide) (by kernel_rfl) trivial fun _ _ H47 hb => ?_
  replace hS := hS.below hb
  clear H42 hb
  obtain ⟨y48, hy48, hm⟩ := bindE hm
  have hd := hS.hand [0] [0] rfl rfl
  refine m_stp [37, 10] [(10, [], vI z22)] H47 rfl rfl rfl rfl (o_callx H47 rfl rfl (r27_Parted_ok (g_l_ := g_l_) m _ _ _ hy48 _ _ hd)) (fun _ => rfl) fun _ _ v H52 hq => ?_
  clear H47 hd
  obtain ⟨g49, rfl, hq⟩ := hq
  replace hS : SH M X w [eO 22 (Ty.sl tyValue) y48 g49, eI tyValue l_ g_l_] _ := hS.join [0] [0] rfl rfl hq
  clear hq
  refine wl_batch 3 4 [] [10, 12] (fS [10, 12] [vI z22, vL g49 y48]) [] H52 (by decide) (by kernel_rfl) trivial fun _ _ H54 hb => ?_
  replace hS := hS.below hb
  clear H52 hb
  apply wl_end rfl
  replace hS : SH M X w [eO 22 (Ty.sl tyValue) y48 g49] _ := hS.sel [0] rfl
  apply w_seq
  refine s_reg [] [10, 12, 40] (fS [10, 12, 40] [vI z22, vL g49 y48, vB ((ln y48) == 0)]) [] H54 (by kernel_rfl) trivial fun _ _ H56 hb => ?_
  replace hS := hS.below hb
  clear H54 hb
  refine w_if H56 rfl (fun hc => ?c71) (fun hc => ?_)
  case c71 =>
   replace hm := bT hc hm
   refine s_reg [] [6, 7] (fS [6, 7] [vO, vI 12]) [] H56 (by kernel_rfl) trivial fun _ _ H58 hb => ?_
   replace hS := hS.below hb
   clear H56 hb
   replace hS : SH M X w [] _ := hS.sel [] rfl
   apply w_ret
   obtain rfl := someE hm
   replace hS : SH M X w [eO 51 tyValue ([] : List TValue) (.nil)] _ := hS.addNil 51 tyValue
   exact retR2 H58 rfl rfl rfl ⟨_, rfl, Gh.nil, rfl, (hS.sel [0] rfl)⟩
  replace hm := bF hc hm
  apply w_skip
  apply w_seq
  apply wl_start
  obtain ⟨ho60, hm⟩ := chkE hm
  refine wl_batch 0 4 [(.slice (g49.s (z22).toNat 0).a ((gi y48 z22).length) (g49.s (z22).toNat 0).c)] [44] [(44, [], .slice (g49.s (z22).toNat 0).a ((gi y48 z22).length) (g49.s (z22).toNat 0).c)] [fun _ => oka g49.a ∧ 0 ≤ z22 ∧ z22 < ln y48, fun wz => V.at1 ⟨ab g49.a, ao g49.a + (z22).toNat * 1, none⟩ (.slice (g49.s (z22).toNat 0).a ((gi y48 z22).length) (g49.s (z22).toNat 0).c) wz] H56 (by decide) (by kernel_rfl) ⟨((hS.osl 0 rfl).oki ho60), ((hS.osl 0 rfl).at1 ho60 0 rfl), trivial⟩ fun _ _ H62 hb => ?_
  replace hS := hS.below hb
  clear H56 hb
  replace hS : SH M X w [eI tyValue (gi y48 z22) (g49.s (z22).toNat 0), eO 22 (Ty.sl tyValue) y48 g49] _ := hS.addIm (sl_inn ((hS.ow 0 rfl).el ho60))
  obtain ⟨y64, hy64, hm⟩ := bindE hm
  have hd := hS.hand [0] [0, 1] rfl rfl
  refine m_stp [45] [] H62 rfl rfl rfl rfl (o_callx H62 rfl rfl (r26_Twin_ok (g_l_ := (g49.s (z22).toNat 0)) m _ _ hy64 _ _ hd)) (fun _ => rfl) fun _ _ v H68 hq => ?_
  clear H62 hd
  obtain ⟨g65, rfl, hq⟩ := hq
  replace hS : SH M X w [eO 51 tyValue y64 g65, eI tyValue (gi y48 z22) (g49.s (z22).toNat 0), eO 22 (Ty.sl tyValue) y48 g49] _ := hS.join [0] [0, 1] rfl rfl hq
  clear hq
  refine wl_batch 5 7 [] [6, 7] (fS [6, 7] [vL g65 y64, vI 0]) [] H68 (by decide) (by kernel_rfl) trivial fun _ _ H70 hb => ?_
  replace hS := hS.below hb
  clear H68 hb
  apply wl_end rfl
  replace hS : SH M X w [eO 51 tyValue y64 g65] _ := hS.sel [0] rfl
  apply w_ret
  obtain rfl := someE hm
  exact retR2 H70 rfl rfl rfl ⟨_, rfl, g65, rfl, (hS.sel [0] rfl)⟩
theorem r27_Part_ok {g_l_ : Gh} (m : Nat) (whole : Str) (long : Str) (l_ : List TValue) (r : (List TValue) × Int) (hm : r27_Part m whole long l_ = some r) (M : Av) (w : World) (hS : S0 M [eI tyValue l_ g_l_] w) : DoesX Tryz.prog 12 ⟨[vS whole, vS long, vL g_l_ l_]⟩ w (fun v w' => ∃ (g901 : Gh), v = vW [vL g901 r.1, vI r.2] ∧ SH M (fpl [eI tyValue l_ g_l_]) w [eO 51 tyValue r.1 g901] w') := ⟨Tryz.call12 _, r27_Part_w M m   whole long l_ r hm w hS⟩

theorem r27_SameTexts_w {g_a_ : Gh} {g_b_ : Gh} (M : Av) (m : Nat) (a_ : List Str) (b_ : List Str) (r : Bool) (hm : r27_SameTexts m a_ b_ = some r) (w : World) (hS : S0 M [eI tS a_ g_a_, eI tS b_ g_b_] w) : Calls Tryz.prog 13 ⟨[vL g_a_ a_, vL g_b_ b_]⟩ w (fun e w' => ∃ v, e = .returned v ∧ v = vB r ∧ SH M (fpl [eI tS a_ g_a_, eI tS b_ g_b_]) w [] w') := by
 rw [r27_SameTexts] at hm
 have hS0 : SH M (fpl [eI tS a_ g_a_, eI tS b_ g_b_]) w [eI tS a_ g_a_, eI tS b_ g_b_] w := hS
 generalize hX : fpl [eI tS a_ g_a_, eI tS b_ g_b_] = X at hS0 ⊢
 clear hS hX
 have hS := hS0
 clear hS0
 refine calls_entryP Tryz.func13 rfl Tryz.ntmps13 rfl fun _ H => ?_
 refine s_reg [] [0, 1] (fS [0, 1] [vL g_a_ a_, vL g_b_ b_]) [] H (by kernel_rfl) trivial fun _ _ H2 hb => ?_
 replace hS := hS.below hb
 clear H hb
 apply w_seq
 refine s_reg [] [0, 1, 10] (fS [0, 1, 10] [vL g_a_ a_, vL g_b_ b_, vB ((ln a_) != (ln b_))]) [] H2 (by kernel_rfl) trivial fun _ _ H4 hb => ?_
 replace hS := hS.below hb
 clear H2 hb
 refine w_if H4 rfl (fun hc => ?c27) (fun hc => ?_)
 case c27 =>
  replace hm := bT hc hm
  refine s_reg [] [4] [(4, [], vF)] [] H4 (by kernel_rfl) trivial fun _ _ H6 hb => ?_
  replace hS := hS.below hb
  clear H4 hb
  replace hS : SH M X w [] _ := hS.sel [] rfl
  apply w_ret
  obtain rfl := someE hm
  exact retR1 H6 rfl rfl ⟨_, rfl, rfl, (hS.sel [] rfl)⟩
 replace hm := bF hc hm
 apply w_skip
 obtain ⟨z7, hz, hm_z7⟩ := bindE hm
 refine w_cut (fun a' w' => ∃ s_z7 : Unit, z7 = Sum.inr s_z7 ∧ Fr 26 [] a' ∧ SH M X w [eI tS a_ g_a_, eI tS b_ g_b_] w') ?_ ?_
 ·replace hm := hz
  refine s_reg [] [0, 1, 5] (fS [0, 1, 5] [vL g_a_ a_, vL g_b_ b_, vI 0]) [] H4 (by kernel_rfl) trivial fun _ _ H9 hb => ?_
  replace hS := hS.below hb
  clear H4 hb
  apply w_block
  refine w_loop (fun kk a' w' => ∃ (v10 : Int), r27_SameTexts_L1 m a_ b_ kk v10 = some _ ∧ Fr 26 (fS [0, 1, 5] [vL g_a_ a_, vL g_b_ b_, vI v10]) a' ∧ SH M X w [eI tS a_ g_a_, eI tS b_ g_b_] w') ⟨_, 0, hm, FrG.keep (ks := [0, 1, 5]) H9 (by kernel_rfl), hS⟩ ?_
  clear hm H9 hS
  rintro kk _ _ ⟨v10, hm, H, hS⟩
  cases kk with
  | zero => exact noneE hm
  | succ kk =>
   rw [r27_SameTexts_L1] at hm
   apply w_seq
   refine s_reg [] [0, 1, 5, 14] (fS [0, 1, 5, 14] [vL g_a_ a_, vL g_b_ b_, vI v10, vB (decide (v10 < (ln a_)))]) [] H (by kernel_rfl) trivial fun _ _ H12 hb => ?_
   replace hS := hS.below hb
   clear H hb
   refine w_if H12 rfl (fun hc => ?_) (fun hc => ?c22)
   case c22 =>
    replace hm := bF hc hm
    apply w_exit rfl
    obtain rfl := someE hm
    exact ⟨_, rfl, FrG.keep (ks := []) H12 (by kernel_rfl), hS⟩
   replace hm := bT hc hm
   apply w_skip
   apply w_seq
   apply w_block
   obtain ⟨ho13, hm⟩ := chkE hm
   obtain ⟨ho14, hm⟩ := chkE hm
   refine s_draw [(vS (gi a_ v10)), (vS (gi b_ v10))] [0, 1, 5, 25] (fS [0, 1, 5, 25] [vL g_a_ a_, vL g_b_ b_, vI v10, vB (!((gi a_ v10) == (gi b_ v10)))]) [fun _ => oka g_a_.a ∧ 0 ≤ v10 ∧ v10 < ln a_, fun wz => V.at1 ⟨ab g_a_.a, ao g_a_.a + (v10).toNat * 1, none⟩ (vS (gi a_ v10)) wz, fun _ => oka g_b_.a ∧ 0 ≤ v10 ∧ v10 < ln b_, fun wz => V.at1 ⟨ab g_b_.a, ao g_b_.a + (v10).toNat * 1, none⟩ (vS (gi b_ v10)) wz] H12 (by kernel_rfl) (by kernel_rfl) (by kernel_rfl) ⟨((hS.im 0 rfl).oki ho13), ((hS.im 0 rfl).at1 ho13 0 rfl), ((hS.im 1 rfl).oki ho14), ((hS.im 1 rfl).at1 ho14 0 rfl), trivial⟩ fun _ _ H16 hb => ?_
   replace hS := hS.below hb
   clear H12 hb
   refine w_if H16 rfl (fun hc => ?_) (fun hc => ?c21)
   case c21 =>
    replace hm := bF hc hm
    apply w_skip
    refine w_reg [] [0, 1, 5] (fS [0, 1, 5] [vL g_a_ a_, vL g_b_ b_, vI (w64 (v10 + 1))]) [] H16 (by kernel_rfl) trivial fun _ _ H20 hb => ?_
    replace hS := hS.below hb
    clear H16 hb
    exact ⟨_, Nat.lt_succ_self _, w64 (v10 + 1), hm, FrG.keep (ks := [0, 1, 5]) H20 (by kernel_rfl), hS⟩
   replace hm := bT hc hm
   refine s_reg [] [4] [(4, [], vF)] [] H16 (by kernel_rfl) trivial fun _ _ H18 hb => ?_
   replace hS := hS.below hb
   clear H16 hb
   apply w_ret
   obtain rfl := someE hm
   have hm := hm_z7
   obtain rfl := someE hm
   exact retR1 H18 rfl rfl ⟨_, rfl, rfl, (hS.sel [] rfl)⟩
 ·rintro _ _ ⟨s_z7, hz, H, hS⟩
  subst hz
  replace hm := sumR hm_z7
  replace hS : SH M X w [] _ := hS.sel [] rfl
  refine s_reg [] [4] [(4, [], vT)] [] H (by kernel_rfl) trivial fun _ _ H25 hb => ?_
  replace hS := hS.below hb
  clear H hb
  apply w_ret
  obtain rfl := someE hm
  exact retR1 H25 rfl rfl ⟨_, rfl, rfl, (hS.sel [] rfl)⟩
theorem r27_SameTexts_ok {g_a_ : Gh} {g_b_ : Gh} (m : Nat) (a_ : List Str) (b_ : List Str) (r : Bool) (hm : r27_SameTexts m a_ b_ = some r) (w : World) (hL : S0 F0 [eI tS a_ g_a_, eI tS b_ g_b_] w ∧ fpl [eI tS a_ g_a_, eI tS b_ g_b_] = []) : RetB Tryz.prog 13 ⟨[vL g_a_ a_, vL g_b_ b_]⟩ (vB r) w := retB_of hL (Tryz.call13 _) (fun w' h => r27_SameTexts_w F0 m   a_ b_ r hm w' h)

def r04_Same_S (rec_ : (List TValue) → (List TValue) → Option (Bool)) : Prop := ∀ (g_a_ : Gh) (g_b_ : Gh) (M : Av) (a_ : List TValue) (b_ : List TValue) (r : Bool), rec_ a_ b_ = some r → ∀ w, S0 M [eI tyValue a_ g_a_, eI tyValue b_ g_b_] w → Calls Tryz.prog 14 ⟨[vL g_a_ a_, vL g_b_ b_]⟩ w (fun e w' => ∃ v, e = .returned v ∧ v = vB r ∧ SH M (fpl [eI tyValue a_ g_a_, eI tyValue b_ g_b_]) w [] w')
theorem r04_Same_w (m : Nat) : ∀ (k : Nat), r04_Same_S (r04_Same_r m  k) := by
 intro k
 induction k with
 | zero => intro g_a_ g_b_ M a_ b_ r hm; exact noneE hm
 | succ k ih =>
  intro g_a_ g_b_ M a_ b_ r hm w hS
  rw [r04_Same_r] at hm
  have hS0 : SH M (fpl [eI tyValue a_ g_a_, eI tyValue b_ g_b_]) w [eI tyValue a_ g_a_, eI tyValue b_ g_b_] w := hS
  generalize hX : fpl [eI tyValue a_ g_a_, eI tyValue b_ g_b_] = X at hS0 ⊢
  clear hS hX
  have hS := hS0
  clear hS0
  refine calls_entryP Tryz.func14 rfl Tryz.ntmps14 rfl fun _ H => ?_
  refine s_reg [] [0, 1] (fS [0, 1] [vL g_a_ a_, vL g_b_ b_]) [] H (by kernel_rfl) trivial fun _ _ H2 hb => ?_
  replace hS := hS.below hb
  clear H hb
  apply w_seq
  refine s_reg [] [0, 1, 10] (fS [0, 1, 10] [vL g_a_ a_, vL g_b_ b_, vB ((ln a_) != (ln b_))]) [] H2 (by kernel_rfl) trivial fun _ _ H4 hb => ?_
  replace hS := hS.below hb
  clear H2 hb
  refine w_if H4 rfl (fun hc => ?c29) (fun hc => ?_)
  case c29 =>
   replace hm := bT hc hm
   refine s_reg [] [4] [(4, [], vF)] [] H4 (by kernel_rfl) trivial fun _ _ H6 hb => ?_
   replace hS := hS.below hb
   clear H4 hb
   replace hS : SH M X w [] _ := hS.sel [] rfl
   apply w_ret
   obtain rfl := someE hm
   exact retR1 H6 rfl rfl ⟨_, rfl, rfl, (hS.sel [] rfl)⟩
  replace hm := bF hc hm
  apply w_skip
  obtain ⟨z7, hz, hm_z7⟩ := bindE hm
  refine w_cut (fun a' w' => ∃ s_z7 : Unit, z7 = Sum.inr s_z7 ∧ Fr 42 [] a' ∧ SH M X w [eI tyValue a_ g_a_, eI tyValue b_ g_b_] w') ?_ ?_
  ·replace hm := hz
   refine s_reg [] [0, 1, 5] (fS [0, 1, 5] [vL g_a_ a_, vL g_b_ b_, vI 0]) [] H4 (by kernel_rfl) trivial fun _ _ H9 hb => ?_
   replace hS := hS.below hb
   clear H4 hb
   apply w_block
   refine w_loop (fun kk a' w' => ∃ (v10 : Int), r04_Same_L1 m a_ b_ (r04_Same_r m k) kk v10 = some _ ∧ Fr 42 (fS [0, 1, 5] [vL g_a_ a_, vL g_b_ b_, vI v10]) a' ∧ SH M X w [eI tyValue a_ g_a_, eI tyValue b_ g_b_] w') ⟨_, 0, hm, FrG.keep (ks := [0, 1, 5]) H9 (by kernel_rfl), hS⟩ ?_
   clear hm H9 hS
   rintro kk _ _ ⟨v10, hm, H, hS⟩
   cases kk with
   | zero => exact noneE hm
   | succ kk =>
    rw [r04_Same_L1] at hm
    apply w_seq
    refine s_reg [] [0, 1, 5, 14] (fS [0, 1, 5, 14] [vL g_a_ a_, vL g_b_ b_, vI v10, vB (decide (v10 < (ln a_)))]) [] H (by kernel_rfl) trivial fun _ _ H12 hb => ?_
    replace hS := hS.below hb
    clear H hb
    refine w_if H12 rfl (fun hc => ?_) (fun hc => ?c24)
    case c24 =>
     replace hm := bF hc hm
     apply w_exit rfl
     obtain rfl := someE hm
     exact ⟨_, rfl, FrG.keep (ks := []) H12 (by kernel_rfl), hS⟩
    replace hm := bT hc hm
    apply w_skip
    apply w_seq
    apply w_block
    obtain ⟨ho13, hm⟩ := chkE hm
    obtain ⟨ho14, hm⟩ := chkE hm
    obtain ⟨x15, hx15, hm⟩ := letE hm
    obtain ⟨y16, hy16, hm⟩ := bindE hm
    refine s_draw [(vG [vU ((gi a_ v10).Token.Kind), vS (gi a_ v10).Token.Text, vI ((gi a_ v10).Token.Num), vS (gi a_ v10).Token.Unit, vB ((gi a_ v10).Token.Flag)]), (vG [vU ((gi b_ v10).Token.Kind), vS (gi b_ v10).Token.Text, vI ((gi b_ v10).Token.Num), vS (gi b_ v10).Token.Unit, vB ((gi b_ v10).Token.Flag)]), (.slice (g_a_.s (v10).toNat 0).a (((gi a_ v10).List_).length) (g_a_.s (v10).toNat 0).c), (.slice (g_b_.s (v10).toNat 0).a (((gi b_ v10).List_).length) (g_b_.s (v10).toNat 0).c), (vB y16)] [0, 1, 5, 41] (fS [0, 1, 5, 41] [vL g_a_ a_, vL g_b_ b_, vI v10, vB (cond x15 true (!y16))]) [fun _ => oka g_a_.a ∧ 0 ≤ v10 ∧ v10 < ln a_, fun wz => V.atN (ab g_a_.a) (ao g_a_.a + (v10).toNat * 6) [vU ((gi a_ v10).Token.Kind), vS (gi a_ v10).Token.Text, vI ((gi a_ v10).Token.Num), vS (gi a_ v10).Token.Unit, vB ((gi a_ v10).Token.Flag)] 0 wz, fun _ => oka g_b_.a ∧ 0 ≤ v10 ∧ v10 < ln b_, fun wz => V.atN (ab g_b_.a) (ao g_b_.a + (v10).toNat * 6) [vU ((gi b_ v10).Token.Kind), vS (gi b_ v10).Token.Text, vI ((gi b_ v10).Token.Num), vS (gi b_ v10).Token.Unit, vB ((gi b_ v10).Token.Flag)] 0 wz, fun _ => (x15 = false ∧ True → oka g_a_.a ∧ 0 ≤ v10 ∧ v10 < ln a_), fun wz => (x15 = false ∧ True → V.at1 ⟨ab g_a_.a, ao g_a_.a + (v10).toNat * 6 + 5, none⟩ (.slice (g_a_.s (v10).toNat 0).a (((gi a_ v10).List_).length) (g_a_.s (v10).toNat 0).c) wz), fun _ => (x15 = false ∧ True → oka g_b_.a ∧ 0 ≤ v10 ∧ v10 < ln b_), fun wz => (x15 = false ∧ True → V.at1 ⟨ab g_b_.a, ao g_b_.a + (v10).toNat * 6 + 5, none⟩ (.slice (g_b_.s (v10).toNat 0).a (((gi b_ v10).List_).length) (g_b_.s (v10).toNat 0).c) wz), fun wz => (x15 = false ∧ True → RetB Tryz.prog 14 ⟨[.slice (g_a_.s (v10).toNat 0).a (((gi a_ v10).List_).length) (g_a_.s (v10).toNat 0).c, .slice (g_b_.s (v10).toNat 0).a (((gi b_ v10).List_).length) (g_b_.s (v10).toNat 0).c]⟩ (vB y16) wz)] H12 (by kernel_rfl) (by kernel_rfl) (by subst hx15; kernel_rfl) ⟨((hS.im 0 rfl).oki ho13), ((hS.im 0 rfl).atA ho13 0 rfl), ((hS.im 1 rfl).oki ho14), ((hS.im 1 rfl).atA ho14 0 rfl), fun hg => (hS.im 0 rfl).oki ho13, fun hg => (hS.im 0 rfl).at1 ho13 5 rfl, fun hg => (hS.im 1 rfl).oki ho14, fun hg => (hS.im 1 rfl).at1 ho14 5 rfl, fun hg => retB_of (s0im (s0im s0nil (tyValue_i0 ((hS.im 1 rfl).el ho14))) (tyValue_i0 ((hS.im 0 rfl).el ho13))) (Tryz.call14 _) (fun w' h' => ih ((g_a_.s (v10).toNat 0)) ((g_b_.s (v10).toNat 0)) F0 _ _ _ (bF (hg.1) hy16) w' h'), trivial⟩ fun _ _ H18 hb => ?_
    replace hS := hS.below hb
    clear H12 hb
    refine w_if H18 rfl (fun hc => ?_) (fun hc => ?c23)
    case c23 =>
     replace hm := bF hc hm
     apply w_skip
     refine w_reg [] [0, 1, 5] (fS [0, 1, 5] [vL g_a_ a_, vL g_b_ b_, vI (w64 (v10 + 1))]) [] H18 (by kernel_rfl) trivial fun _ _ H22 hb => ?_
     replace hS := hS.below hb
     clear H18 hb
     exact ⟨_, Nat.lt_succ_self _, w64 (v10 + 1), hm, FrG.keep (ks := [0, 1, 5]) H22 (by kernel_rfl), hS⟩
    replace hm := bT hc hm
    refine s_reg [] [4] [(4, [], vF)] [] H18 (by kernel_rfl) trivial fun _ _ H20 hb => ?_
    replace hS := hS.below hb
    clear H18 hb
    apply w_ret
    obtain rfl := someE hm
    have hm := hm_z7
    obtain rfl := someE hm
    exact retR1 H20 rfl rfl ⟨_, rfl, rfl, (hS.sel [] rfl)⟩
  ·rintro _ _ ⟨s_z7, hz, H, hS⟩
   subst hz
   replace hm := sumR hm_z7
   replace hS : SH M X w [] _ := hS.sel [] rfl
   refine s_reg [] [4] [(4, [], vT)] [] H (by kernel_rfl) trivial fun _ _ H27 hb => ?_
   replace hS := hS.below hb
   clear H hb
   apply w_ret
   obtain rfl := someE hm
   exact retR1 H27 rfl rfl ⟨_, rfl, rfl, (hS.sel [] rfl)⟩
theorem r04_Same_ok {g_a_ : Gh} {g_b_ : Gh} (m : Nat) (a_ : List TValue) (b_ : List TValue) (r : Bool) (hm : r04_Same m a_ b_ = some r) (w : World) (hL : S0 F0 [eI tyValue a_ g_a_, eI tyValue b_ g_b_] w ∧ fpl [eI tyValue a_ g_a_, eI tyValue b_ g_b_] = []) : RetB Tryz.prog 14 ⟨[vL g_a_ a_, vL g_b_ b_]⟩ (vB r) w := retB_of hL (Tryz.call14 _) (fun w' h => r04_Same_w m   m g_a_ g_b_ F0 a_ b_ r hm w' h)

theorem law27_ShortParts_w {g_l_ : Gh} (M : Av) (m : Nat) (whole : Str) (long : Str) (l_ : List TValue) (r : Bool) (hm : law27_ShortParts m whole long l_ = some r) (w : World) (hS : S0 M [eI tyValue l_ g_l_, gE0] w) : Calls Tryz.prog 3 ⟨[vS whole, vS long, vL g_l_ l_]⟩ w (fun e w' => ∃ v, e = .returned v ∧ v = vB r ∧ SH M (fpl [eI tyValue l_ g_l_, gE0]) w [] w') := by
 rw [law27_ShortParts] at hm
 have hS0 : SH M (fpl [eI tyValue l_ g_l_, gE0]) w [eI tyValue l_ g_l_, gE0] w := hS
 generalize hX : fpl [eI tyValue l_ g_l_, gE0] = X at hS0 ⊢
 clear hS hX
 have hS := hS0
 clear hS0
 refine calls_entryP Tryz.func3 rfl Tryz.ntmps3 rfl fun _ H => ?_
 refine s_reg [] [0, 1, 2] (fS [0, 1, 2] [vS whole, vS long, vL g_l_ l_]) [] H (by kernel_rfl) trivial fun _ _ H2 hb => ?_
 replace hS := hS.below hb
 clear H hb
 apply w_seq
 obtain ⟨y3, hy3, hm⟩ := bindE hm
 obtain ⟨x4, hx4, hm⟩ := letE hm
 refine s_reg [(vB y3)] [0, 1, 2, 26] (fS [0, 1, 2, 26] [vS whole, vS long, vL g_l_ l_, vB x4]) [rB 8 [vL g_l_ l_] (vB y3)] H2 (by subst hx4; kernel_rfl) ⟨(r04_Great_ok (g_v_ := g_l_) m _ _ hy3 _ (s0im s0nil (hS.im 0 rfl))), trivial⟩ fun _ _ H6 hb => ?_
 replace hS := hS.below hb
 clear H2 hb
 refine w_if H6 rfl (fun hc => ?c50) (fun hc => ?_)
 case c50 =>
  replace hm := bT hc hm
  refine s_reg [] [6] [(6, [], vT)] [] H6 (by kernel_rfl) trivial fun _ _ H8 hb => ?_
  replace hS := hS.below hb
  clear H6 hb
  replace hS : SH M X w [gE0] _ := hS.sel [1] rfl
  apply w_ret
  obtain rfl := someE hm
  exact retR1 H8 rfl rfl ⟨_, rfl, rfl, (hS.sel [] rfl)⟩
 replace hm := bF hc hm
 apply w_skip
 apply w_seq
 apply wl_start
 refine wl_batch 0 1 [] [0, 1, 2, 28] (fS [0, 1, 2, 28] [vS whole, vS long, vL g_l_ l_, vS whole]) [] H6 (by decide) (by kernel_rfl) trivial fun _ _ H10 hb => ?_
 replace hS := hS.below hb
 clear H6 hb
 obtain ⟨y11, hy11, hm⟩ := bindE hm
 have hd := hS.hand [1] [0, 1] rfl rfl
 refine m_stp [29, 0, 1, 2] (fS [0, 1, 2] [vS whole, vS long, vL g_l_ l_]) H10 rfl rfl rfl rfl (o_callx H10 rfl rfl (short_Longs_ok 64 _ _ hy11 _ _ hd)) (fun _ => rfl) fun _ _ v H15 hq => ?_
 clear H10 hd
 obtain ⟨g12, rfl, hq⟩ := hq
 replace hS : SH M X w [eO 9 tS y11.1 g12, eI tyValue l_ g_l_, gE0] _ := hS.join [1] [0, 1] rfl rfl hq
 clear hq
 refine wl_batch 2 7 [] [0, 1, 2, 7, 8] (fS [0, 1, 2, 7, 8] [vS whole, vS long, vL g_l_ l_, vL g12 y11.1, vI y11.2]) [] H15 (by decide) (by kernel_rfl) trivial fun _ _ H17 hb => ?_
 replace hS := hS.below hb
 clear H15 hb
 apply wl_end rfl
 apply w_seq
 apply wl_start
 refine wl_batch 0 1 [] [0, 1, 2, 7, 8, 33] (fS [0, 1, 2, 7, 8, 33] [vS whole, vS long, vL g_l_ l_, vL g12 y11.1, vI y11.2, vS whole]) [] H17 (by decide) (by kernel_rfl) trivial fun _ _ H19 hb => ?_
 replace hS := hS.below hb
 clear H17 hb
 obtain ⟨y20, hy20, hm⟩ := bindE hm
 have hd := hS.hand [] [0, 1, 2] rfl rfl
 refine m_stp [34, 0, 1, 2, 7, 8] (fS [0, 1, 2, 7, 8] [vS whole, vS long, vL g_l_ l_, vL g12 y11.1, vI y11.2]) H19 rfl rfl rfl rfl (o_callx H19 rfl rfl (r27_Longs_ok 64 _ _ hy20 _ _ hd)) (fun _ => rfl) fun _ _ v H24 hq => ?_
 clear H19 hd
 obtain ⟨g21, rfl, hq⟩ := hq
 replace hS : SH M X w [eO 9 tS y20.1 g21, eO 9 tS y11.1 g12, eI tyValue l_ g_l_, gE0] _ := hS.join [] [0, 1, 2] rfl rfl hq
 clear hq
 refine wl_batch 2 7 [] [0, 1, 2, 7, 8, 9, 10] (fS [0, 1, 2, 7, 8, 9, 10] [vS whole, vS long, vL g_l_ l_, vL g12 y11.1, vI y11.2, vL g21 y20.1, vI y20.2]) [] H24 (by decide) (by kernel_rfl) trivial fun _ _ H26 hb => ?_
 replace hS := hS.below hb
 clear H24 hb
 apply wl_end rfl
 apply w_seq
 apply wl_start
 refine wl_batch 0 3 [] [0, 1, 2, 7, 8, 9, 10, 38, 39, 40] (fS [0, 1, 2, 7, 8, 9, 10, 38, 39, 40] [vS whole, vS long, vL g_l_ l_, vL g12 y11.1, vI y11.2, vL g21 y20.1, vI y20.2, vS whole, vS long, vL g_l_ l_]) [] H26 (by decide) (by kernel_rfl) trivial fun _ _ H28 hb => ?_
 replace hS := hS.below hb
 clear H26 hb
 obtain ⟨y29, hy29, hm⟩ := bindE hm
 have hd := hS.hand [2, 3] [0, 1, 2, 3] rfl rfl
 refine m_stp [41, 0, 1, 2, 7, 8, 9, 10] (fS [0, 1, 2, 7, 8, 9, 10] [vS whole, vS long, vL g_l_ l_, vL g12 y11.1, vI y11.2, vL g21 y20.1, vI y20.2]) H28 rfl rfl rfl rfl (o_callx H28 rfl rfl (short_Part_ok (g_l_ := g_l_) m _ _ _ _ hy29 _ _ hd)) (fun _ => rfl) fun _ _ v H33 hq => ?_
 clear H28 hd
 obtain ⟨g30, rfl, hq⟩ := hq
 replace hS : SH M X w [eO 51 tyValue y29.1 g30, eO 9 tS y20.1 g21, eO 9 tS y11.1 g12, eI tyValue l_ g_l_, gE0] _ := hS.join [2, 3] [0, 1, 2, 3] rfl rfl hq
 clear hq
 refine wl_batch 4 9 [] [0, 1, 2, 7, 8, 9, 10, 11, 12] (fS [0, 1, 2, 7, 8, 9, 10, 11, 12] [vS whole, vS long, vL g_l_ l_, vL g12 y11.1, vI y11.2, vL g21 y20.1, vI y20.2, vL g30 y29.1, vI y29.2]) [] H33 (by decide) (by kernel_rfl) trivial fun _ _ H35 hb => ?_
 replace hS := hS.below hb
 clear H33 hb
 apply wl_end rfl
 apply w_seq
 apply wl_start
 refine wl_batch 0 3 [] [7, 8, 9, 10, 11, 12, 45, 46, 47] (fS [7, 8, 9, 10, 11, 12, 45, 46, 47] [vL g12 y11.1, vI y11.2, vL g21 y20.1, vI y20.2, vL g30 y29.1, vI y29.2, vS whole, vS long, vL g_l_ l_]) [] H35 (by decide) (by kernel_rfl) trivial fun _ _ H37 hb => ?_
 replace hS := hS.below hb
 clear H35 hb
 obtain ⟨y38, hy38, hm⟩ := bindE hm
 have hd := hS.hand [3] [0, 1, 2, 3, 4] rfl rfl
 refine m_stp [48, 7, 8, 9, 10, 11, 12] (fS [7, 8, 9, 10, 11, 12] [vL g12 y11.1, vI y11.2, vL g21 y20.1, vI y20.2, vL g30 y29.1, vI y29.2]) H37 rfl rfl rfl rfl (o_callx H37 rfl rfl (r27_Part_ok (g_l_ := g_l_) m _ _ _ _ hy38 _ _ hd)) (fun _ => rfl) fun _ _ v H42 hq => ?_
 clear H37 hd
 obtain ⟨g39, rfl, hq⟩ := hq
 replace hS : SH M X w [eO 51 tyValue y38.1 g39, eO 51 tyValue y29.1 g30, eO 9 tS y20.1 g21, eO 9 tS y11.1 g12, eI tyValue l_ g_l_, gE0] _ := hS.join [3] [0, 1, 2, 3, 4] rfl rfl hq
 clear hq
 refine wl_batch 4 9 [] [7, 8, 9, 10, 11, 12, 13, 14] (fS [7, 8, 9, 10, 11, 12, 13, 14] [vL g12 y11.1, vI y11.2, vL g21 y20.1, vI y20.2, vL g30 y29.1, vI y29.2, vL g39 y38.1, vI y38.2]) [] H42 (by decide) (by kernel_rfl) trivial fun _ _ H44 hb => ?_
 replace hS := hS.below hb
 clear H42 hb
 apply wl_end rfl
 replace hS : SH M X w [eO 51 tyValue y38.1 g39, eO 51 tyValue y29.1 g30, eO 9 tS y20.1 g21, eO 9 tS y11.1 g12, gE0] _ := hS.sel [0, 1, 2, 3, 5] rfl
 obtain ⟨y45, hy45, hm⟩ := bindE hm
 obtain ⟨y46, hy46, hm⟩ := bindE hm
 obtain ⟨x47, hx47, hm⟩ := letE hm
 refine s_reg [(vB y45), (vB y46)] [6] [(6, [], vB (cond x47 (y29.2 == y38.2) false))] [rB 13 [vL g12 y11.1, vL g21 y20.1] (vB y45), fun wz => ((cond y45 (y11.2 == y20.2) false) = true ∧ True → RetB Tryz.prog 14 ⟨[vL g30 y29.1, vL g39 y38.1]⟩ (vB y46) wz)] H44 (by subst hx47; kernel_rfl) ⟨(r27_SameTexts_ok (g_a_ := g12) (g_b_ := g21) m _ _ _ hy45 _ (s0im (s0im s0nil (hS.osl 2 rfl)) (hS.osl 3 rfl))), fun hg => r04_Same_ok (g_a_ := g30) (g_b_ := g39) m _ _ _ (bT (hg.1) hy46) _ (s0im (s0im s0nil (hS.osl 0 rfl)) (hS.osl 1 rfl)), trivial⟩ fun _ _ H49 hb => ?_
 replace hS := hS.below hb
 clear H44 hb
 replace hS : SH M X w [gE0] _ := hS.sel [4] rfl
 apply w_ret
 obtain rfl := someE hm
 exact retR1 H49 rfl rfl ⟨_, rfl, rfl, (hS.sel [] rfl)⟩
theorem law27_ShortParts_ok {g_l_ : Gh} (m : Nat) (whole : Str) (long : Str) (l_ : List TValue) (r : Bool) (hm : law27_ShortParts m whole long l_ = some r) (w : World) (hL : S0 F0 [eI tyValue l_ g_l_, gE0] w ∧ fpl [eI tyValue l_ g_l_, gE0] = []) : RetB Tryz.prog 3 ⟨[vS whole, vS long, vL g_l_ l_]⟩ (vB r) w := retB_of hL (Tryz.call3 _) (fun w' h => law27_ShortParts_w F0 m   whole long l_ r hm w' h)

end Go.Proofs.YtpgflfjmjppmeaaGreatDoor
