/-
  The walks of a strings.Replacer that cleans texts: what it builds, what it finds, what it writes. Printed by a program.
-/
import Derived.Test.YtfancfogkhclfaaGreatDoorRows
import Derived.Test.YtfancfogkhclfaaGreatDoorK
import Derived.Test.YtfancfogkhclfaaGreatDoorRPa
set_option linter.unusedVariables false
set_option maxRecDepth 20000
set_option maxHeartbeats 4000000
namespace Go.Proofs.YtfancfogkhclfaaGreatDoor
open Go.V Go.RowKit

theorem strings_genericReplacer_WriteString_w {t_r : Nat} {tb_r : Nat} {n1_r : Nat} {n2_r : Nat} {n3_r : Nat} {n4_r : Nat} {b_w : Nat} {g_w_ : Gh} (M : Av) (m : Nat) (w_ : List Int) (s : Str) (r : Int × (List Int)) (hm : strings_genericReplacer_WriteString m w_ s = some r) (w : World) (hS : S0 M [Ent.trie t_r tb_r n1_r n2_r n3_r n4_r, eB b_w [vL g_w_ w_], eO 5 (tI .u8) w_ g_w_] w) : Calls Tryz.prog 176 ⟨[vP t_r, .iface 199 (vP b_w), vS s]⟩ w (fun e w' => ∃ v, e = .returned v ∧ ∃ (g901 : Gh), v = .tuple ⟨[vI r.1, .nilIface]⟩ ∧ SH M (fpl [Ent.trie t_r tb_r n1_r n2_r n3_r n4_r, eB b_w [vL g_w_ w_], eO 5 (tI .u8) w_ g_w_]) w [eB b_w [.slice g901.a r.2.length g901.c], eO 5 (tI .u8) r.2 g901] w') := by
 rw [strings_genericReplacer_WriteString] at hm
 have hS0 : SH M (fpl [Ent.trie t_r tb_r n1_r n2_r n3_r n4_r, eB b_w [vL g_w_ w_], eO 5 (tI .u8) w_ g_w_]) w [Ent.trie t_r tb_r n1_r n2_r n3_r n4_r, eB b_w [vL g_w_ w_], eO 5 (tI .u8) w_ g_w_] w := hS
 generalize hX : fpl [Ent.trie t_r tb_r n1_r n2_r n3_r n4_r, eB b_w [vL g_w_ w_], eO 5 (tI .u8) w_ g_w_] = X at hS0 ⊢
 clear hS hX
 have hS := hS0
 clear hS0
 refine calls_entryP Tryz.func176 rfl Tryz.ntmps176 rfl fun _ H => ?_
 refine s_reg [] [0, 1, 2, 6, 7] [(0, [], vP t_r), (1, [], .iface 199 (vP b_w)), (2, [], vS s), (6, [], vI 0), (7, [], .nilIface)] [] H (by kernel_rfl) trivial fun _ wd1 H2 hb => ?_
 clear H
 replace hS := hS.below hb
 clear hb
 refine s_reg [(.iface 199 (vP b_w))] [0, 2, 6, 7, 8] [(0, [], vP t_r), (2, [], vS s), (6, [], vI 0), (7, [], .nilIface), (8, [], .iface 199 (vP b_w))] [fun wz => RetB Tryz.prog 177 ⟨[.iface 199 (vP b_w)]⟩ (.iface 199 (vP b_w)) wz] H2 (by kernel_rfl) ⟨(gsw_ok _).b, trivial⟩ fun _ wd3 H4 hb => ?_
 clear H2
 replace hS := hS.below hb
 clear hb
 refine s_reg [] [0, 2, 6, 7, 8, 9] [(0, [], vP t_r), (2, [], vS s), (6, [], vI 0), (7, [], .nilIface), (8, [], .iface 199 (vP b_w)), (9, [], vI 0)] [] H4 (by kernel_rfl) trivial fun _ wd5 H6 hb => ?_
 clear H4
 replace hS := hS.below hb
 clear hb
 refine s_reg [] [0, 2, 6, 7, 8, 9, 11] [(0, [], vP t_r), (2, [], vS s), (6, [], vI 0), (7, [], .nilIface), (8, [], .iface 199 (vP b_w)), (9, [], vI 0), (11, [], vF)] [] H6 (by kernel_rfl) trivial fun _ wd7 H8 hb => ?_
 clear H6
 replace hS := hS.below hb
 clear hb
 obtain ⟨z9, hz, hm_z9⟩ := bindE hm
 refine w_cut (fun a' w' => ∃ s_z9 : Int × Int × (List Int), z9 = Sum.inr s_z9 ∧ ∃ (g100 : Gh), Fr 131 [(2, [], vS s), (8, [], .iface 199 (vP b_w)), (6, [], vI s_z9.1), (7, [], .nilIface), (9, [], vI s_z9.2.1)] a' ∧ SH M X w [Ent.trie t_r tb_r n1_r n2_r n3_r n4_r, eB b_w [.slice g100.a s_z9.2.2.length g100.c], eO 5 (tI .u8) s_z9.2.2 g100] w') ?_ ?_
 ·replace hm := hz
  refine s_reg [] [0, 2, 6, 7, 8, 9, 11, 12] [(0, [], vP t_r), (2, [], vS s), (6, [], vI 0), (7, [], .nilIface), (8, [], .iface 199 (vP b_w)), (9, [], vI 0), (11, [], vF), (12, [], vI 0)] [] H8 (by kernel_rfl) trivial fun _ wd10 H11 hb => ?_
  clear H8
  replace hS := hS.below hb
  clear hb
  refine w_block ?_
  refine w_loop (fun kk a' w' => ∃ (v12 : Int) (v13 : Int) (v14 : Bool) (v15 : Int) (v16 : List Int) (g17 : Gh), strings_genericReplacer_WriteString_L1 m s kk v12 v13 v14 v15 v16 = some _ ∧ Fr 131 [(0, [], vP t_r), (2, [], vS s), (8, [], .iface 199 (vP b_w)), (6, [], vI v12), (7, [], .nilIface), (9, [], vI v13), (11, [], .bool v14), (12, [], vI v15)] a' ∧ SH M X w [Ent.trie t_r tb_r n1_r n2_r n3_r n4_r, eB b_w [vL g17 v16], eO 5 (tI .u8) v16 g17] w') ⟨_, 0, 0, false, 0, w_, g_w_, hm, FrG.keep (ks := [0, 2, 8, 6, 7, 9, 11, 12]) H11 (by kernel_rfl), hS⟩ ?_
  clear hm H11 hS
  rintro kk _ wd99 ⟨v12, v13, v14, v15, v16, g17, hm, H, hS⟩
  cases kk with
  | zero => exact noneE hm
  | succ kk =>
   rw [strings_genericReplacer_WriteString_L1] at hm
   refine w_seq ?_
   refine s_reg [] [0, 2, 6, 7, 8, 9, 11, 12, 22] [(0, [], vP t_r), (2, [], vS s), (6, [], vI v12), (7, [], .nilIface), (8, [], .iface 199 (vP b_w)), (9, [], vI v13), (11, [], .bool v14), (12, [], vI v15), (22, [], .bool (decide (v15 ≤ (ln s))))] [] H (by kernel_rfl) trivial fun _ wd18 H19 hb => ?_
   clear H
   replace hS := hS.below hb
   clear hb
   obtain ⟨hp20, hm⟩ := chkE hm
   rw [hp20] at H19
   refine w_if H19 rfl (fun hc => ?_) (fun hc => ?c98)
   case c98 =>
    replace hm := bF hc hm
    refine w_exit rfl ?_
    obtain rfl := someE hm
    exact ⟨_, rfl, g17, FrG.keep (ks := [2, 8, 6, 7, 9]) H19 (by kernel_rfl), hS⟩
   replace hm := bT hc hm
   refine w_skip ?_
   refine w_block ?_
   obtain ⟨z21, hz, hm_z21⟩ := bindE hm
   refine w_cut (fun a' w' => ∃ s_z21 : Int, z21 = Sum.inr s_z21 ∧ Fr 131 [(0, [], vP t_r), (2, [], vS s), (6, [], vI v12), (7, [], .nilIface), (8, [], .iface 199 (vP b_w)), (9, [], vI v13), (11, [], vF), (12, [], vI s_z21)] a' ∧ SH M X w [Ent.trie t_r tb_r n1_r n2_r n3_r n4_r, eB b_w [vL g17 v16], eO 5 (tI .u8) v16 g17] w') ?_ ?_
   ·replace hm := hz
    refine s_reg [(vI 0)] [0, 2, 6, 7, 8, 9, 11, 12, 34] [(0, [], vP t_r), (2, [], vS s), (6, [], vI v12), (7, [], .nilIface), (8, [], .iface 199 (vP b_w)), (9, [], vI v13), (11, [], vF), (12, [], vI v15), (34, [], .bool (cond (v15 != (ln s)) true false))] [fun wz => ((v15 != (ln s)) = true ∧ True → V.at1 ⟨t_r, 1, none⟩ (vI 0) wz)] H19 (by kernel_rfl) ⟨fun hg => (hS.tr 0 rfl).bg.at1 rfl, trivial⟩ fun _ wd22 H23 hb => ?_
    clear H19
    replace hS := hS.below hb
    clear hb
    refine w_if H23 rfl (fun hc => ?_) (fun hc => ?c54)
    case c54 =>
     replace hm := bF hc hm
     refine w_skip ?_
     obtain rfl := someE hm
     exact ⟨_, rfl, FrG.keep (ks := [0, 2, 6, 7, 8, 9, 11, 12]) H23 (by kernel_rfl), hS⟩
    replace hm := bT hc hm
    obtain ⟨ho24, hm⟩ := chkE hm
    refine s_draw [(vU (gi gmap (bat s v15)))] [0, 2, 6, 7, 8, 9, 11, 12, 13] [(0, [], vP t_r), (2, [], vS s), (6, [], vI v12), (7, [], .nilIface), (8, [], .iface 199 (vP b_w)), (9, [], vI v13), (11, [], vF), (12, [], vI v15), (13, [], vI (w64 (gi gmap (bat s v15))))] [fun _ => 0 ≤ v15 ∧ v15 < ln s, fun _ => 0 ≤ (bat s v15) ∧ (bat s v15) < (256 : Int), fun wz => V.at1 ⟨t_r, 6 + ((bat s v15)).toNat * 1, none⟩ (vU (gi gmap (bat s v15))) wz] H23 (by kernel_rfl) (by kernel_rfl) (by kernel_rfl) ⟨ho24, (bat_byte _ _), (Mix.ixn ⟨(hS.tr 0 rfl).bg, gmap_len⟩ rfl (bat_byte _ _)), trivial⟩ fun _ wd25 H26 hb => ?_
    clear H23
    replace hS := hS.below hb
    clear hb
    by_cases hx13 : (bat s v15) = 13
    ·replace hm := bT (decide_eq_true hx13) hm
     rw [show gi gmap (bat s v15) = 3 from by rw [hx13]; exact gmap13] at H26
     replace H26 := FrG.keep (l' := [(0, [], vP t_r), (2, [], vS s), (6, [], vI v12), (7, [], .nilIface), (8, [], .iface 199 (vP b_w)), (9, [], vI v13), (11, [], vF), (12, [], vI v15), (13, [], vI 3)]) (ks := [0, 2, 6, 7, 8, 9, 11, 12, 13]) H26 (by kernel_rfl)
     refine s_reg [(vI 4), (.slice (some ⟨tb_r, 0, none⟩) 4 4), (vP n1_r)] [0, 2, 6, 7, 8, 9, 11, 12, 60] [(0, [], vP t_r), (2, [], vS s), (6, [], vI v12), (7, [], .nilIface), (8, [], .iface 199 (vP b_w)), (9, [], vI v13), (11, [], vF), (12, [], vI v15), (60, [], vF)] [fun wz => V.at1 ⟨t_r, 5, none⟩ (vI 4) wz, fun wz => (false = false ∧ True → V.at1 ⟨t_r, 4, none⟩ (.slice (some ⟨tb_r, 0, none⟩) 4 4) wz), fun _ => (false = false ∧ True → oka (some ⟨tb_r, 0, none⟩) ∧ 0 ≤ (3 : Int) ∧ (3 : Int) < 4), fun wz => (false = false ∧ True → V.at1 ⟨tb_r, 3, none⟩ (vP n1_r) wz)] H26 (by kernel_rfl) ⟨((hS.tr 0 rfl).bg.at1 rfl), fun hg => (hS.tr 0 rfl).bg.at1 rfl, fun hg => ⟨rfl, (show 0 ≤ (3 : Int) ∧ (3 : Int) < 4 from by decide)⟩, fun hg => (hS.tr 0 rfl).bt.at1 rfl, trivial⟩ fun _ wd27 H28 hb => ?_
     clear H26
     replace hS := hS.below hb
     clear hb
     refine w_if H28 rfl (fun hc => by cases hc) (fun _ => ?_)
     refine w_skip ?_
     obtain rfl := someE hm
     exact ⟨_, rfl, FrG.keep (ks := [0, 2, 6, 7, 8, 9, 11, 12]) H28 (by kernel_rfl), hS⟩
    replace hm := bF (decide_eq_false hx13) hm
    by_cases hx12 : (bat s v15) = 12
    ·replace hm := bT (decide_eq_true hx12) hm
     rw [show gi gmap (bat s v15) = 2 from by rw [hx12]; exact gmap12] at H26
     replace H26 := FrG.keep (l' := [(0, [], vP t_r), (2, [], vS s), (6, [], vI v12), (7, [], .nilIface), (8, [], .iface 199 (vP b_w)), (9, [], vI v13), (11, [], vF), (12, [], vI v15), (13, [], vI 2)]) (ks := [0, 2, 6, 7, 8, 9, 11, 12, 13]) H26 (by kernel_rfl)
     refine s_reg [(vI 4), (.slice (some ⟨tb_r, 0, none⟩) 4 4), (vP n3_r)] [0, 2, 6, 7, 8, 9, 11, 12, 60] [(0, [], vP t_r), (2, [], vS s), (6, [], vI v12), (7, [], .nilIface), (8, [], .iface 199 (vP b_w)), (9, [], vI v13), (11, [], vF), (12, [], vI v15), (60, [], vF)] [fun wz => V.at1 ⟨t_r, 5, none⟩ (vI 4) wz, fun wz => (false = false ∧ True → V.at1 ⟨t_r, 4, none⟩ (.slice (some ⟨tb_r, 0, none⟩) 4 4) wz), fun _ => (false = false ∧ True → oka (some ⟨tb_r, 0, none⟩) ∧ 0 ≤ (2 : Int) ∧ (2 : Int) < 4), fun wz => (false = false ∧ True → V.at1 ⟨tb_r, 2, none⟩ (vP n3_r) wz)] H26 (by kernel_rfl) ⟨((hS.tr 0 rfl).bg.at1 rfl), fun hg => (hS.tr 0 rfl).bg.at1 rfl, fun hg => ⟨rfl, (show 0 ≤ (2 : Int) ∧ (2 : Int) < 4 from by decide)⟩, fun hg => (hS.tr 0 rfl).bt.at1 rfl, trivial⟩ fun _ wd29 H30 hb => ?_
     clear H26
     replace hS := hS.below hb
     clear hb
     refine w_if H30 rfl (fun hc => by cases hc) (fun _ => ?_)
     refine w_skip ?_
     obtain rfl := someE hm
     exact ⟨_, rfl, FrG.keep (ks := [0, 2, 6, 7, 8, 9, 11, 12]) H30 (by kernel_rfl), hS⟩
    replace hm := bF (decide_eq_false hx12) hm
    by_cases hx10 : (bat s v15) = 10
    ·replace hm := bT (decide_eq_true hx10) hm
     rw [show gi gmap (bat s v15) = 1 from by rw [hx10]; exact gmap10] at H26
     replace H26 := FrG.keep (l' := [(0, [], vP t_r), (2, [], vS s), (6, [], vI v12), (7, [], .nilIface), (8, [], .iface 199 (vP b_w)), (9, [], vI v13), (11, [], vF), (12, [], vI v15), (13, [], vI 1)]) (ks := [0, 2, 6, 7, 8, 9, 11, 12, 13]) H26 (by kernel_rfl)
     refine s_reg [(vI 4), (.slice (some ⟨tb_r, 0, none⟩) 4 4), (vQ)] [0, 2, 6, 7, 8, 9, 11, 12, 60] [(0, [], vP t_r), (2, [], vS s), (6, [], vI v12), (7, [], .nilIface), (8, [], .iface 199 (vP b_w)), (9, [], vI v13), (11, [], vF), (12, [], vI v15), (60, [], vT)] [fun wz => V.at1 ⟨t_r, 5, none⟩ (vI 4) wz, fun wz => (false = false ∧ True → V.at1 ⟨t_r, 4, none⟩ (.slice (some ⟨tb_r, 0, none⟩) 4 4) wz), fun _ => (false = false ∧ True → oka (some ⟨tb_r, 0, none⟩) ∧ 0 ≤ (1 : Int) ∧ (1 : Int) < 4), fun wz => (false = false ∧ True → V.at1 ⟨tb_r, 1, none⟩ (vQ) wz)] H26 (by kernel_rfl) ⟨((hS.tr 0 rfl).bg.at1 rfl), fun hg => (hS.tr 0 rfl).bg.at1 rfl, fun hg => ⟨rfl, (show 0 ≤ (1 : Int) ∧ (1 : Int) < 4 from by decide)⟩, fun hg => (hS.tr 0 rfl).bt.at1 rfl, trivial⟩ fun _ wd31 H32 hb => ?_
     clear H26
     replace hS := hS.below hb
     clear hb
     refine w_if H32 rfl (fun _ => ?_) (fun hc => by cases hc)
     refine s_reg [] [0, 2, 6, 7, 8, 9, 11, 12] [(0, [], vP t_r), (2, [], vS s), (6, [], vI v12), (7, [], .nilIface), (8, [], .iface 199 (vP b_w)), (9, [], vI v13), (11, [], vF), (12, [], vI (w64 (v15 + 1)))] [] H32 (by kernel_rfl) trivial fun _ wd33 H34 hb => ?_
     clear H32
     replace hS := hS.below hb
     clear hb
     refine w_exit rfl ?_
     obtain ⟨r35, hr_r35, hm⟩ := bindE hm
     obtain rfl := someE hm
     have hm := hm_z21
     obtain rfl := someE hm
     have hm := hr_r35
     clear hr_r35
     exact ⟨_, Nat.lt_succ_self _, v12, v13, false, w64 (v15 + 1), v16, g17, hm, FrG.keep (ks := [0, 2, 8, 6, 7, 9, 11, 12]) H34 (by kernel_rfl), hS⟩
    replace hm := bF (decide_eq_false hx10) hm
    by_cases hx0 : (bat s v15) = 0
    ·replace hm := bT (decide_eq_true hx0) hm
     rw [show gi gmap (bat s v15) = 0 from by rw [hx0]; exact gmap0] at H26
     replace H26 := FrG.keep (l' := [(0, [], vP t_r), (2, [], vS s), (6, [], vI v12), (7, [], .nilIface), (8, [], .iface 199 (vP b_w)), (9, [], vI v13), (11, [], vF), (12, [], vI v15), (13, [], vI 0)]) (ks := [0, 2, 6, 7, 8, 9, 11, 12, 13]) H26 (by kernel_rfl)
     refine s_reg [(vI 4), (.slice (some ⟨tb_r, 0, none⟩) 4 4), (vP n4_r)] [0, 2, 6, 7, 8, 9, 11, 12, 60] [(0, [], vP t_r), (2, [], vS s), (6, [], vI v12), (7, [], .nilIface), (8, [], .iface 199 (vP b_w)), (9, [], vI v13), (11, [], vF), (12, [], vI v15), (60, [], vF)] [fun wz => V.at1 ⟨t_r, 5, none⟩ (vI 4) wz, fun wz => (false = false ∧ True → V.at1 ⟨t_r, 4, none⟩ (.slice (some ⟨tb_r, 0, none⟩) 4 4) wz), fun _ => (false = false ∧ True → oka (some ⟨tb_r, 0, none⟩) ∧ 0 ≤ (0 : Int) ∧ (0 : Int) < 4), fun wz => (false = false ∧ True → V.at1 ⟨tb_r, 0, none⟩ (vP n4_r) wz)] H26 (by kernel_rfl) ⟨((hS.tr 0 rfl).bg.at1 rfl), fun hg => (hS.tr 0 rfl).bg.at1 rfl, fun hg => ⟨rfl, (show 0 ≤ (0 : Int) ∧ (0 : Int) < 4 from by decide)⟩, fun hg => (hS.tr 0 rfl).bt.at1 rfl, trivial⟩ fun _ wd36 H37 hb => ?_
     clear H26
     replace hS := hS.below hb
     clear hb
     refine w_if H37 rfl (fun hc => by cases hc) (fun _ => ?_)
     refine w_skip ?_
     obtain rfl := someE hm
     exact ⟨_, rfl, FrG.keep (ks := [0, 2, 6, 7, 8, 9, 11, 12]) H37 (by kernel_rfl), hS⟩
    replace hm := bF (decide_eq_false hx0) hm
    rw [show gi gmap (bat s v15) = 4 from gmap_el (bat_byte _ _).1 (bat_byte _ _).2 hx13 hx12 hx10 hx0] at H26
    replace H26 := FrG.keep (l' := [(0, [], vP t_r), (2, [], vS s), (6, [], vI v12), (7, [], .nilIface), (8, [], .iface 199 (vP b_w)), (9, [], vI v13), (11, [], vF), (12, [], vI v15), (13, [], vI 4)]) (ks := [0, 2, 6, 7, 8, 9, 11, 12, 13]) H26 (by kernel_rfl)
    refine w_seq ?_
    refine wl_start ?_
    refine wl_batch 0 7 [(vI 4)] [0, 2, 6, 7, 8, 9, 11, 12, 13, 50] [(0, [], vP t_r), (2, [], vS s), (6, [], vI v12), (7, [], .nilIface), (8, [], .iface 199 (vP b_w)), (9, [], vI v13), (11, [], vF), (12, [], vI v15), (13, [], vI 4), (50, [], vT)] [fun wz => V.at1 ⟨t_r, 5, none⟩ (vI 4) wz] H26 (by decide) (by kernel_rfl) ⟨((hS.tr 0 rfl).bg.at1 rfl), trivial⟩ fun _ wd38 H39 hb => ?_
    clear H26
    replace hS := hS.below hb
    clear hb
    refine m_skipG 50 [51, 0, 2, 6, 7, 8, 9, 11, 12, 13, 50] [(51, [], undef), (0, [], vP t_r), (2, [], vS s), (6, [], vI v12), (7, [], .nilIface), (8, [], .iface 199 (vP b_w)), (9, [], vI v13), (11, [], vF), (12, [], vI v15), (13, [], vI 4), (50, [], vT)] H39 rfl rfl rfl rfl rfl rfl fun _ H40 => ?_
    clear H39
    refine m_skipG 50 [52, 0, 2, 6, 7, 8, 9, 11, 12, 13, 50] [(52, [], undef), (0, [], vP t_r), (2, [], vS s), (6, [], vI v12), (7, [], .nilIface), (8, [], .iface 199 (vP b_w)), (9, [], vI v13), (11, [], vF), (12, [], vI v15), (13, [], vI 4), (50, [], vT)] H40 rfl rfl rfl rfl rfl rfl fun _ H41 => ?_
    clear H40
    refine m_skipG 50 [53, 0, 2, 6, 7, 8, 9, 11, 12, 13, 50] [(53, [], undef), (0, [], vP t_r), (2, [], vS s), (6, [], vI v12), (7, [], .nilIface), (8, [], .iface 199 (vP b_w)), (9, [], vI v13), (11, [], vF), (12, [], vI v15), (13, [], vI 4), (50, [], vT)] H41 rfl rfl rfl rfl rfl rfl fun _ H42 => ?_
    clear H41
    refine m_skipG 50 [54, 0, 2, 6, 7, 8, 9, 11, 12, 13, 50] [(54, [], undef), (0, [], vP t_r), (2, [], vS s), (6, [], vI v12), (7, [], .nilIface), (8, [], .iface 199 (vP b_w)), (9, [], vI v13), (11, [], vF), (12, [], vI v15), (13, [], vI 4), (50, [], vT)] H42 rfl rfl rfl rfl rfl rfl fun _ H43 => ?_
    clear H42
    refine m_skipG 50 [55, 0, 2, 6, 7, 8, 9, 11, 12, 13, 50] [(55, [], undef), (0, [], vP t_r), (2, [], vS s), (6, [], vI v12), (7, [], .nilIface), (8, [], .iface 199 (vP b_w)), (9, [], vI v13), (11, [], vF), (12, [], vI v15), (13, [], vI 4), (50, [], vT)] H43 rfl rfl rfl rfl rfl rfl fun _ H44 => ?_
    clear H43
    refine m_skipG 50 [56, 0, 2, 6, 7, 8, 9, 11, 12, 50, 55] [(56, [], undef), (0, [], vP t_r), (2, [], vS s), (6, [], vI v12), (7, [], .nilIface), (8, [], .iface 199 (vP b_w)), (9, [], vI v13), (11, [], vF), (12, [], vI v15), (50, [], vT), (55, [], undef)] H44 rfl rfl rfl rfl rfl rfl fun _ H45 => ?_
    clear H44
    refine m_skipG 50 [57, 0, 2, 6, 7, 8, 9, 11, 12, 50] [(57, [], undef), (0, [], vP t_r), (2, [], vS s), (6, [], vI v12), (7, [], .nilIface), (8, [], .iface 199 (vP b_w)), (9, [], vI v13), (11, [], vF), (12, [], vI v15), (50, [], vT)] H45 rfl rfl rfl rfl rfl rfl fun _ H46 => ?_
    clear H45
    refine m_skipG 50 [58, 0, 2, 6, 7, 8, 9, 11, 12, 50] [(58, [], undef), (0, [], vP t_r), (2, [], vS s), (6, [], vI v12), (7, [], .nilIface), (8, [], .iface 199 (vP b_w)), (9, [], vI v13), (11, [], vF), (12, [], vI v15), (50, [], vT)] H46 rfl rfl rfl rfl rfl rfl fun _ H47 => ?_
    clear H46
    refine m_skipG 50 [59, 0, 2, 6, 7, 8, 9, 11, 12, 50] [(59, [], undef), (0, [], vP t_r), (2, [], vS s), (6, [], vI v12), (7, [], .nilIface), (8, [], .iface 199 (vP b_w)), (9, [], vI v13), (11, [], vF), (12, [], vI v15), (50, [], vT)] H47 rfl rfl rfl rfl rfl rfl fun _ H48 => ?_
    clear H47
    refine wl_batch 16 17 [] [0, 2, 6, 7, 8, 9, 11, 12, 60] [(0, [], vP t_r), (2, [], vS s), (6, [], vI v12), (7, [], .nilIface), (8, [], .iface 199 (vP b_w)), (9, [], vI v13), (11, [], vF), (12, [], vI v15), (60, [], vT)] [] H48 (by decide) (by kernel_rfl) trivial fun _ wd49 H50 hb => ?_
    clear H48
    replace hS := hS.below hb
    clear hb
    refine wl_end rfl ?_
    refine w_if H50 rfl (fun _ => ?_) (fun hc => by cases hc)
    refine s_reg [] [0, 2, 6, 7, 8, 9, 11, 12] [(0, [], vP t_r), (2, [], vS s), (6, [], vI v12), (7, [], .nilIface), (8, [], .iface 199 (vP b_w)), (9, [], vI v13), (11, [], vF), (12, [], vI (w64 (v15 + 1)))] [] H50 (by kernel_rfl) trivial fun _ wd51 H52 hb => ?_
    clear H50
    replace hS := hS.below hb
    clear hb
    refine w_exit rfl ?_
    obtain ⟨r53, hr_r53, hm⟩ := bindE hm
    obtain rfl := someE hm
    have hm := hm_z21
    obtain rfl := someE hm
    have hm := hr_r53
    clear hr_r53
    exact ⟨_, Nat.lt_succ_self _, v12, v13, false, w64 (v15 + 1), v16, g17, hm, FrG.keep (ks := [0, 2, 8, 6, 7, 9, 11, 12]) H52 (by kernel_rfl), hS⟩
   ·rintro _ wd97 ⟨s_z21, hz, H, hS⟩
    subst hz
    replace hm := sumR hm_z21
    obtain ⟨ho55, hm⟩ := chkE hm
    obtain ⟨y56, hy56, hm⟩ := bindE hm
    refine s_reg [(.tuple ⟨[.string ⟨⟨y56.1⟩⟩, vI y56.2.1, .bool y56.2.2]⟩)] [0, 2, 6, 7, 8, 9, 12, 14, 15, 16] [(0, [], vP t_r), (2, [], vS s), (6, [], vI v12), (7, [], .nilIface), (8, [], .iface 199 (vP b_w)), (9, [], vI v13), (12, [], vI s_z21), (14, [], .string ⟨⟨y56.1⟩⟩), (15, [], vI y56.2.1), (16, [], .bool y56.2.2)] [fun _ => 0 ≤ s_z21 ∧ s_z21 ≤ ln s, fun wz => RetB Tryz.prog 178 ⟨[vP t_r, .string ⟨⟨sub s s_z21 (ln s)⟩⟩, vF]⟩ (.tuple ⟨[.string ⟨⟨y56.1⟩⟩, vI y56.2.1, .bool y56.2.2]⟩) wz] H (by kernel_rfl) ⟨ho55, (strings_genericReplacer_lookup_ok (t_r := t_r) (tb_r := tb_r) (n1_r := n1_r) (n2_r := n2_r) (n3_r := n3_r) (n4_r := n4_r) _ _ hy56 _ (s0tr s0nil (hS.tr 0 rfl))), trivial⟩ fun _ wd57 H58 hb => ?_
    clear H
    replace hS := hS.below hb
    clear hb
    refine s_reg [] [0, 2, 6, 7, 8, 9, 11, 12, 14, 15, 16] [(0, [], vP t_r), (2, [], vS s), (6, [], vI v12), (7, [], .nilIface), (8, [], .iface 199 (vP b_w)), (9, [], vI v13), (11, [], .bool (cond y56.2.2 (y56.2.1 == 0) false)), (12, [], vI s_z21), (14, [], .string ⟨⟨y56.1⟩⟩), (15, [], vI y56.2.1), (16, [], .bool y56.2.2)] [] H58 (by kernel_rfl) trivial fun _ wd59 H60 hb => ?_
    clear H58
    replace hS := hS.below hb
    clear hb
    obtain ⟨hp61, hm⟩ := chkE hm
    rw [hp61] at H60
    refine w_seq ?_
    refine s_reg [] [0, 2, 6, 7, 8, 9, 11, 12, 14, 15, 78] [(0, [], vP t_r), (2, [], vS s), (6, [], vI v12), (7, [], .nilIface), (8, [], .iface 199 (vP b_w)), (9, [], vI v13), (11, [], vF), (12, [], vI s_z21), (14, [], .string ⟨⟨y56.1⟩⟩), (15, [], vI y56.2.1), (78, [], .bool y56.2.2)] [] H60 (by kernel_rfl) trivial fun _ wd62 H63 hb => ?_
    clear H60
    replace hS := hS.below hb
    clear hb
    refine w_if H63 rfl (fun hc => ?_) (fun hc => ?c96)
    case c96 =>
     replace hm := bF hc hm
     refine w_skip ?_
     refine w_reg [] [0, 2, 6, 7, 8, 9, 11, 12] [(0, [], vP t_r), (2, [], vS s), (6, [], vI v12), (7, [], .nilIface), (8, [], .iface 199 (vP b_w)), (9, [], vI v13), (11, [], vF), (12, [], vI (w64 (s_z21 + 1)))] [] H63 (by kernel_rfl) trivial fun _ wd94 H95 hb => ?_
     clear H63
     replace hS := hS.below hb
     clear hb
     exact ⟨_, Nat.lt_succ_self _, v12, v13, false, w64 (s_z21 + 1), v16, g17, hm, FrG.keep (ks := [0, 2, 8, 6, 7, 9, 11, 12]) H95 (by kernel_rfl), hS⟩
    replace hm := bT hc hm
    obtain ⟨ho65, hm⟩ := chkE hm
    obtain ⟨y66, hy66, hm⟩ := bindE hm
    refine s_drawS (base := [(0, [], vP t_r), (2, [], vS s), (6, [], vI v12), (8, [], .iface 199 (vP b_w)), (9, [], vI v13), (11, [], vF), (12, [], vI s_z21), (14, [], .string ⟨⟨y56.1⟩⟩), (15, [], vI y56.2.1)]) (L := [Ent.trie t_r tb_r n1_r n2_r n3_r n4_r, eB b_w [vL g17 v16], eO 5 (tI .u8) v16 g17]) 14 3 (fun yg64 => [.iface 199 (vP b_w), vS s, vI v13, vI s_z21, .string ⟨⟨sub s v13 s_z21⟩⟩, .func (.method "WriteString") ⟨[.iface 199 (vP b_w)]⟩ ⟨[]⟩, .func (.method "WriteString") ⟨[.iface 199 (vP b_w)]⟩ ⟨[]⟩, .iface 199 (vP b_w), .tuple ⟨[vI y66.1, .nilIface]⟩, .tuple ⟨[vI y66.1, .nilIface]⟩, vI y66.1, .nilIface, vI y66.1, .nilIface]) (fun yg64 => [[], [], [], [], [], [], [], [], [eB b_w [.slice (yg64 8 0).a y66.2.length (yg64 8 0).c], eO 5 (tI .u8) y66.2 (yg64 8 0)], [], [], [], [], []]) [[15, 16], [], [], [], [], [15, 16], [15, 16], [15, 16], [15, 16], [], [], [], [], []] [[], [], [], [], [], [], [], [], [15, 16], [], [], [], [], []] [[0], [1], [2], [3], [1, 2, 3, 4], [0, 5], [0, 5, 6], [0, 7], [0, 1, 2, 3, 4, 7, 8], [0, 1, 2, 3, 4, 7, 8, 9], [0, 1, 2, 3, 4, 7, 8, 9, 10], [0, 1, 2, 3, 4, 7, 8, 9, 11], [0, 1, 2, 3, 4, 7, 8, 9, 10, 12], [0, 1, 2, 3, 4, 7, 8, 9, 11, 13]] [] (FrG.keep (ks := [0, 2, 6, 8, 9, 11, 12, 14, 15]) H63 (by kernel_rfl)) (fun _ _ h => by cases h) (by kernel_rfl) hS (by kernel_rfl) rfl rfl (by kernel_rfl) (by kernel_rfl) (by kernel_rfl) (gd_none (by kernel_rfl) _ _) ?hloc_yg64 ?hstep_yg64 fun _ wd69 yg64 H70 hv hS => ?hK_yg64
    case hloc_yg64 => exact ⟨(fun _ _ _ _ => ⟨rfl, rfl⟩), (fun _ _ _ _ => ⟨rfl, rfl⟩), (fun _ _ _ _ => ⟨rfl, rfl⟩), (fun _ _ _ _ => ⟨rfl, rfl⟩), (fun _ _ _ _ => ⟨rfl, rfl⟩), (fun _ _ _ _ => ⟨rfl, rfl⟩), (fun _ _ _ _ => ⟨rfl, rfl⟩), (fun _ _ _ _ => ⟨rfl, rfl⟩), (fun yg64 i g hi => by have h8 : updC yg64 i g 8 = yg64 8 := updC_out hi rfl; exact ⟨(show (.tuple ⟨[vI y66.1, .nilIface]⟩ : Value) = .tuple ⟨[vI y66.1, .nilIface]⟩ by simp only []), (show ([eB b_w [.slice ((updC yg64 i g) 8 0).a y66.2.length ((updC yg64 i g) 8 0).c], eO 5 (tI .u8) y66.2 ((updC yg64 i g) 8 0)] : List Ent) = [eB b_w [.slice (yg64 8 0).a y66.2.length (yg64 8 0).c], eO 5 (tI .u8) y66.2 (yg64 8 0)] by simp only [h8])⟩), (fun _ _ _ _ => ⟨rfl, rfl⟩), (fun _ _ _ _ => ⟨rfl, rfl⟩), (fun _ _ _ _ => ⟨rfl, rfl⟩), (fun _ _ _ _ => ⟨rfl, rfl⟩), (fun _ _ _ _ => ⟨rfl, rfl⟩), trivial⟩
    case hstep_yg64 =>
     refine ⟨?_, ?_, ?_, ?_, ?_, ?_, ?_, ?_, ?_, ?_, ?_, ?_, ?_, ?_, trivial⟩
     ·intro o ho a w yg64 M Hb hv hO hS
      obtain rfl := Option.some.inj ho
      exact Stp.mono (o_evs [] (.iface 199 (vP b_w)) none [] Hb rfl (by kernel_rfl) (fun q e => by cases e)) fun _ _ hq => ⟨gL [], fun _ _ => hq.1, (hS.below hq.2.below).sel [0, 1] rfl⟩
     ·intro o ho a w yg64 M Hb hv hO hS
      obtain rfl := Option.some.inj ho
      exact Stp.mono (o_evs [] (vS s) none [] Hb rfl (by kernel_rfl) (fun q e => by cases e)) fun _ _ hq => ⟨gL [], fun _ _ => hq.1, (hS.below hq.2.below).sel [] rfl⟩
     ·intro o ho a w yg64 M Hb hv hO hS
      obtain rfl := Option.some.inj ho
      exact Stp.mono (o_evs [] (vI v13) none [] Hb rfl (by kernel_rfl) (fun q e => by cases e)) fun _ _ hq => ⟨gL [], fun _ _ => hq.1, (hS.below hq.2.below).sel [] rfl⟩
     ·intro o ho a w yg64 M Hb hv hO hS
      obtain rfl := Option.some.inj ho
      exact Stp.mono (o_evs [] (vI s_z21) none [] Hb rfl (by kernel_rfl) (fun q e => by cases e)) fun _ _ hq => ⟨gL [], fun _ _ => hq.1, (hS.below hq.2.below).sel [] rfl⟩
     ·intro o ho a w yg64 M Hb hv hO hS
      obtain rfl := Option.some.inj ho
      exact Stp.mono (o_evs [] (.string ⟨⟨sub s v13 s_z21⟩⟩) (some (fun _ => 0 ≤ v13 ∧ v13 ≤ s_z21 ∧ s_z21 ≤ ln s)) [] ((((Hb).add (hv 1 (by decide) (by decide) 81 rfl)).add (hv 2 (by decide) (by decide) 82 rfl)).add (hv 3 (by decide) (by decide) 83 rfl)) rfl (by kernel_rfl) (fun q e => by cases e; exact ho65)) fun _ _ hq => ⟨gL [], fun _ _ => hq.1, (hS.below hq.2.below).sel [] rfl⟩
     ·intro o ho a w yg64 M Hb hv hO hS
      obtain rfl := Option.some.inj ho
      exact Stp.mono (o_evs [] (.func (.method "WriteString") ⟨[.iface 199 (vP b_w)]⟩ ⟨[]⟩) none [] ((Hb).add (hv 0 (by decide) (by decide) 80 rfl)) rfl (by kernel_rfl) (fun q e => by cases e)) fun _ _ hq => ⟨gL [], fun _ _ => hq.1, (hS.below hq.2.below).sel [0, 1] rfl⟩
     ·intro o ho a w yg64 M Hb hv hO hS
      obtain rfl := Option.some.inj ho
      exact Stp.mono (o_evs [] (.func (.method "WriteString") ⟨[.iface 199 (vP b_w)]⟩ ⟨[]⟩) (some (fun _ => ∀ w', (nilAhead (Tryz.prog.types.size + Made.depth) 199 (vP b_w) "WriteString").run Tryz.prog w' = .ok (some false) w')) [] ((Hb).add (hv 5 (by decide) (by decide) 85 rfl)) rfl (by kernel_rfl) (fun q e => by cases e; exact (fun _ => by kernel_rfl))) fun _ _ hq => ⟨gL [], fun _ _ => hq.1, (hS.below hq.2.below).sel [0, 1] rfl⟩
     ·intro o ho a w yg64 M Hb hv hO hS
      obtain rfl := Option.some.inj ho
      exact Stp.mono (o_evs [] (.iface 199 (vP b_w)) none [] ((Hb).add (hv 0 (by decide) (by decide) 80 rfl)) rfl (by kernel_rfl) (fun q e => by cases e)) fun _ _ hq => ⟨gL [], fun _ _ => hq.1, (hS.below hq.2.below).sel [0, 1] rfl⟩
     ·intro o ho a w yg64 M Hb hv hO hS0
      obtain rfl := Option.some.inj ho
      have H : Fr 131 ([(87, [], .iface 199 (vP b_w)), (84, [], .string ⟨⟨sub s v13 s_z21⟩⟩)] ++ [(0, [], vP t_r), (2, [], vS s), (6, [], vI v12), (8, [], .iface 199 (vP b_w)), (9, [], vI v13), (11, [], vF), (12, [], vI s_z21), (14, [], .string ⟨⟨y56.1⟩⟩), (15, [], vI y56.2.1)]) _ := ((Hb).add (hv 4 (by decide) (by decide) 84 rfl)).add (hv 7 (by decide) (by decide) 87 rfl)
      obtain ⟨X, hX⟩ : ∃ X, X = fpl [eB b_w [vL g17 v16], eO 5 (tI .u8) v16 g17] := ⟨_, rfl⟩
      have hS : SH M X w [eB b_w [vL g17 v16], eO 5 (tI .u8) v16 g17] w := by rw [hX]; exact hS0
      have hd := hS.hand [0, 1] [] rfl rfl
      refine Stp.mono (o_invx H rfl rfl (fun w => by kernel_rfl) (strings_appendSliceWriter_WriteString_ok (b_w := b_w) (g_w_ := g17) _ _ _ hy66 _ _ hd)) ?_
      rintro v w2 hq
      obtain ⟨g67, rfl, hq⟩ := hq
      replace hS : SH M X w [eB b_w [.slice g67.a y66.2.length g67.c], eO 5 (tI .u8) y66.2 g67] _ := hS.join [0, 1] [] rfl rfl hq
      clear hq
      rw [hX] at hS
      exact ⟨gL [g67], fun _ _ => rfl, hS.sel [0, 1] rfl⟩
     ·intro o ho a w yg64 M Hb hv hO hS
      obtain rfl := Option.some.inj ho
      exact Stp.mono (o_evs [] (.tuple ⟨[vI y66.1, .nilIface]⟩) none [] ((Hb).add (hv 8 (by decide) (by decide) 88 rfl)) rfl (by kernel_rfl) (fun q e => by cases e)) fun _ _ hq => ⟨gL [], fun _ _ => hq.1, (hS.below hq.2.below).sel [] rfl⟩
     ·intro o ho a w yg64 M Hb hv hO hS
      obtain rfl := Option.some.inj ho
      exact Stp.mono (o_evs [] (vI y66.1) none [] ((Hb).add (hv 9 (by decide) (by decide) 79 rfl)) rfl (by kernel_rfl) (fun q e => by cases e)) fun _ _ hq => ⟨gL [], fun _ _ => hq.1, (hS.below hq.2.below).sel [] rfl⟩
     ·intro o ho a w yg64 M Hb hv hO hS
      obtain rfl := Option.some.inj ho
      exact Stp.mono (o_evs [] (.nilIface) none [] ((Hb).add (hv 9 (by decide) (by decide) 79 rfl)) rfl (by kernel_rfl) (fun q e => by cases e)) fun _ _ hq => ⟨gL [], fun _ _ => hq.1, (hS.below hq.2.below).sel [] rfl⟩
     ·intro o ho a w yg64 M Hb hv hO hS
      obtain rfl := Option.some.inj ho
      exact Stp.mono (o_evs [] (vI y66.1) none [] ((Hb).add (hv 10 (by decide) (by decide) 89 rfl)) rfl (by kernel_rfl) (fun q e => by cases e)) fun _ _ hq => ⟨gL [], fun _ _ => hq.1, (hS.below hq.2.below).sel [] rfl⟩
     ·intro o ho a w yg64 M Hb hv hO hS
      obtain rfl := Option.some.inj ho
      exact Stp.mono (o_evs [] (.nilIface) none [] ((Hb).add (hv 11 (by decide) (by decide) 90 rfl)) rfl (by kernel_rfl) (fun q e => by cases e)) fun _ _ hq => ⟨gL [], fun _ _ => hq.1, (hS.below hq.2.below).sel [] rfl⟩
    have H71 : Fr 131 [(10, [], vI y66.1), (7, [], .nilIface), (0, [], vP t_r), (2, [], vS s), (6, [], vI v12), (8, [], .iface 199 (vP b_w)), (11, [], vF), (12, [], vI s_z21), (14, [], .string ⟨⟨y56.1⟩⟩), (15, [], vI y56.2.1)] _ := (FrG.add (FrG.add (FrG.keep (ks := [0, 2, 6, 8, 11, 12, 14, 15]) H70 (by kernel_rfl)) (hv 13 7 rfl)) (hv 12 10 rfl))
    replace hS : SH M X w [eB b_w [.slice (yg64 8 0).a y66.2.length (yg64 8 0).c], eO 5 (tI .u8) y66.2 (yg64 8 0), Ent.trie t_r tb_r n1_r n2_r n3_r n4_r] _ := hS
    clear hv H70
    generalize yg64 8 0 = g72 at H71 hS
    refine s_reg [] [0, 2, 6, 7, 8, 11, 12, 14, 15] [(0, [], vP t_r), (2, [], vS s), (6, [], vI (w64 (v12 + y66.1))), (7, [], .nilIface), (8, [], .iface 199 (vP b_w)), (11, [], vF), (12, [], vI s_z21), (14, [], .string ⟨⟨y56.1⟩⟩), (15, [], vI y56.2.1)] [] H71 (by kernel_rfl) trivial fun _ wd73 H74 hb => ?_
    clear H71
    replace hS := hS.below hb
    clear hb
    refine w_seq ?_
    refine s_reg [] [0, 2, 6, 7, 8, 11, 12, 14, 15, 95] [(0, [], vP t_r), (2, [], vS s), (6, [], vI (w64 (v12 + y66.1))), (7, [], .nilIface), (8, [], .iface 199 (vP b_w)), (11, [], vF), (12, [], vI s_z21), (14, [], .string ⟨⟨y56.1⟩⟩), (15, [], vI y56.2.1), (95, [], vF)] [] H74 (by kernel_rfl) trivial fun _ wd75 H76 hb => ?_
    clear H74
    replace hS := hS.below hb
    clear hb
    refine w_if H76 rfl (fun hc => by cases hc) (fun _ => ?_)
    refine w_skip ?_
    refine w_seq ?_
    refine wl_start ?_
    refine wl_batch 0 2 [] [0, 2, 6, 8, 11, 12, 15, 97, 98] [(0, [], vP t_r), (2, [], vS s), (6, [], vI (w64 (v12 + y66.1))), (8, [], .iface 199 (vP b_w)), (11, [], vF), (12, [], vI s_z21), (15, [], vI y56.2.1), (97, [], .iface 199 (vP b_w)), (98, [], .string ⟨⟨y56.1⟩⟩)] [] H76 (by decide) (by kernel_rfl) trivial fun _ wd77 H78 hb => ?_
    clear H76
    replace hS := hS.below hb
    clear hb
    obtain ⟨y79, hy79, hm⟩ := bindE hm
    have hd := hS.hand [0, 1] [2] rfl rfl
    refine m_stp [99, 0, 2, 6, 8, 11, 12, 15] [(0, [], vP t_r), (2, [], vS s), (6, [], vI (w64 (v12 + y66.1))), (8, [], .iface 199 (vP b_w)), (11, [], vF), (12, [], vI s_z21), (15, [], vI y56.2.1)] H78 rfl rfl rfl rfl (o_invx H78 rfl rfl (fun w => by kernel_rfl) (strings_appendSliceWriter_WriteString_ok (b_w := b_w) (g_w_ := g72) _ _ _ hy79 _ _ hd)) (fun _ => rfl) fun _ wd82 v H83 hq => ?_
    clear H78 hd
    obtain ⟨g80, rfl, hq⟩ := hq
    replace hS : SH M X w [eB b_w [.slice g80.a y79.2.length g80.c], eO 5 (tI .u8) y79.2 g80, Ent.trie t_r tb_r n1_r n2_r n3_r n4_r] _ := hS.join [0, 1] [2] rfl rfl hq
    clear hq
    refine wl_batch 3 8 [] [0, 2, 6, 7, 8, 10, 11, 12, 15] [(0, [], vP t_r), (2, [], vS s), (6, [], vI (w64 (v12 + y66.1))), (7, [], .nilIface), (8, [], .iface 199 (vP b_w)), (10, [], vI y79.1), (11, [], vF), (12, [], vI s_z21), (15, [], vI y56.2.1)] [] H83 (by decide) (by kernel_rfl) trivial fun _ wd84 H85 hb => ?_
    clear H83
    replace hS := hS.below hb
    clear hb
    refine wl_end rfl ?_
    refine s_reg [] [0, 2, 6, 7, 8, 11, 12, 15] [(0, [], vP t_r), (2, [], vS s), (6, [], vI (w64 ((w64 (v12 + y66.1)) + y79.1))), (7, [], .nilIface), (8, [], .iface 199 (vP b_w)), (11, [], vF), (12, [], vI s_z21), (15, [], vI y56.2.1)] [] H85 (by kernel_rfl) trivial fun _ wd86 H87 hb => ?_
    clear H85
    replace hS := hS.below hb
    clear hb
    refine w_seq ?_
    refine s_reg [] [0, 2, 6, 7, 8, 11, 12, 15, 106] [(0, [], vP t_r), (2, [], vS s), (6, [], vI (w64 ((w64 (v12 + y66.1)) + y79.1))), (7, [], .nilIface), (8, [], .iface 199 (vP b_w)), (11, [], vF), (12, [], vI s_z21), (15, [], vI y56.2.1), (106, [], vF)] [] H87 (by kernel_rfl) trivial fun _ wd88 H89 hb => ?_
    clear H87
    replace hS := hS.below hb
    clear hb
    refine w_if H89 rfl (fun hc => by cases hc) (fun _ => ?_)
    refine w_skip ?_
    refine s_reg [] [0, 2, 6, 7, 8, 11, 12] [(0, [], vP t_r), (2, [], vS s), (6, [], vI (w64 ((w64 (v12 + y66.1)) + y79.1))), (7, [], .nilIface), (8, [], .iface 199 (vP b_w)), (11, [], vF), (12, [], vI (w64 (s_z21 + y56.2.1)))] [] H89 (by kernel_rfl) trivial fun _ wd90 H91 hb => ?_
    clear H89
    replace hS := hS.below hb
    clear hb
    refine s_reg [] [0, 2, 6, 7, 8, 9, 11, 12] [(0, [], vP t_r), (2, [], vS s), (6, [], vI (w64 ((w64 (v12 + y66.1)) + y79.1))), (7, [], .nilIface), (8, [], .iface 199 (vP b_w)), (9, [], vI (w64 (s_z21 + y56.2.1))), (11, [], vF), (12, [], vI (w64 (s_z21 + y56.2.1)))] [] H91 (by kernel_rfl) trivial fun _ wd92 H93 hb => ?_
    clear H91
    replace hS := hS.below hb
    clear hb
    refine w_exit rfl ?_
    replace hS : SH M X w [Ent.trie t_r tb_r n1_r n2_r n3_r n4_r, eB b_w [.slice g80.a y79.2.length g80.c], eO 5 (tI .u8) y79.2 g80] _ := hS.sel [2, 0, 1] rfl
    exact ⟨_, Nat.lt_succ_self _, w64 ((w64 (v12 + y66.1)) + y79.1), w64 (s_z21 + y56.2.1), false, w64 (s_z21 + y56.2.1), y79.2, g80, hm, FrG.keep (ks := [0, 2, 8, 6, 7, 9, 11, 12]) H93 (by kernel_rfl), hS⟩
 ·rintro _ wd119 ⟨s_z9, hz, g100, H, hS⟩
  subst hz
  replace hm := sumR hm_z9
  replace hS : SH M X w [eB b_w [.slice g100.a s_z9.2.2.length g100.c], eO 5 (tI .u8) s_z9.2.2 g100] _ := hS.sel [1, 2] rfl
  obtain ⟨z101, hz, hm⟩ := bindE hm
  refine w_cut (fun a' w' => ∃ (g116 : Gh), Fr 131 [(6, [], vI z101.1), (7, [], .nilIface)] a' ∧ SH M X w [eO 5 (tI .u8) z101.2 g116, eB b_w [.slice g116.a z101.2.length g116.c]] w') ?_ ?_
  ·replace hm := hz
   refine s_reg [] [2, 6, 7, 8, 9, 116] [(2, [], vS s), (6, [], vI s_z9.1), (7, [], .nilIface), (8, [], .iface 199 (vP b_w)), (9, [], vI s_z9.2.1), (116, [], .bool (s_z9.2.1 != (ln s)))] [] H (by kernel_rfl) trivial fun _ wd102 H103 hb => ?_
   clear H
   replace hS := hS.below hb
   clear hb
   refine w_if H103 rfl (fun hc => ?_) (fun hc => ?c115)
   case c115 =>
    replace hm := bF hc hm
    refine w_skip ?_
    obtain rfl := someE hm
    replace hS : SH M X w [eO 5 (tI .u8) s_z9.2.2 g100, eB b_w [.slice g100.a s_z9.2.2.length g100.c]] _ := hS.sel [1, 0] rfl
    exact ⟨g100, FrG.keep (ks := [6, 7]) H103 (by kernel_rfl), hS⟩
   replace hm := bT hc hm
   obtain ⟨ho105, hm⟩ := chkE hm
   obtain ⟨y106, hy106, hm⟩ := bindE hm
   refine s_drawS (base := [(2, [], vS s), (6, [], vI s_z9.1), (8, [], .iface 199 (vP b_w)), (9, [], vI s_z9.2.1)]) (L := [eB b_w [.slice g100.a s_z9.2.2.length g100.c], eO 5 (tI .u8) s_z9.2.2 g100]) 13 2 (fun yg104 => [.iface 199 (vP b_w), vS s, vI s_z9.2.1, .string ⟨⟨sub s s_z9.2.1 (ln s)⟩⟩, .func (.method "WriteString") ⟨[.iface 199 (vP b_w)]⟩ ⟨[]⟩, .func (.method "WriteString") ⟨[.iface 199 (vP b_w)]⟩ ⟨[]⟩, .iface 199 (vP b_w), .tuple ⟨[vI y106.1, .nilIface]⟩, .tuple ⟨[vI y106.1, .nilIface]⟩, vI y106.1, .nilIface, vI y106.1, .nilIface]) (fun yg104 => [[], [], [], [], [], [], [], [eB b_w [.slice (yg104 7 0).a y106.2.length (yg104 7 0).c], eO 5 (tI .u8) y106.2 (yg104 7 0)], [], [], [], [], []]) [[13, 14], [], [], [], [13, 14], [13, 14], [13, 14], [13, 14], [], [], [], [], []] [[], [], [], [], [], [], [], [13, 14], [], [], [], [], []] [[0], [1], [2], [1, 2, 3], [0, 4], [0, 4, 5], [0, 6], [0, 1, 2, 3, 6, 7], [0, 1, 2, 3, 6, 7, 8], [0, 1, 2, 3, 6, 7, 8, 9], [0, 1, 2, 3, 6, 7, 8, 10], [0, 1, 2, 3, 6, 7, 8, 9, 11], [0, 1, 2, 3, 6, 7, 8, 10, 12]] [] (FrG.keep (ks := [2, 6, 8, 9]) H103 (by kernel_rfl)) (fun _ _ h => by cases h) (by kernel_rfl) hS (by kernel_rfl) rfl rfl (by kernel_rfl) (by kernel_rfl) (by kernel_rfl) (gd_none (by kernel_rfl) _ _) ?hloc_yg104 ?hstep_yg104 fun _ wd109 yg104 H110 hv hS => ?hK_yg104
   case hloc_yg104 => exact ⟨(fun _ _ _ _ => ⟨rfl, rfl⟩), (fun _ _ _ _ => ⟨rfl, rfl⟩), (fun _ _ _ _ => ⟨rfl, rfl⟩), (fun _ _ _ _ => ⟨rfl, rfl⟩), (fun _ _ _ _ => ⟨rfl, rfl⟩), (fun _ _ _ _ => ⟨rfl, rfl⟩), (fun _ _ _ _ => ⟨rfl, rfl⟩), (fun yg104 i g hi => by have h7 : updC yg104 i g 7 = yg104 7 := updC_out hi rfl; exact ⟨(show (.tuple ⟨[vI y106.1, .nilIface]⟩ : Value) = .tuple ⟨[vI y106.1, .nilIface]⟩ by simp only []), (show ([eB b_w [.slice ((updC yg104 i g) 7 0).a y106.2.length ((updC yg104 i g) 7 0).c], eO 5 (tI .u8) y106.2 ((updC yg104 i g) 7 0)] : List Ent) = [eB b_w [.slice (yg104 7 0).a y106.2.length (yg104 7 0).c], eO 5 (tI .u8) y106.2 (yg104 7 0)] by simp only [h7])⟩), (fun _ _ _ _ => ⟨rfl, rfl⟩), (fun _ _ _ _ => ⟨rfl, rfl⟩), (fun _ _ _ _ => ⟨rfl, rfl⟩), (fun _ _ _ _ => ⟨rfl, rfl⟩), (fun _ _ _ _ => ⟨rfl, rfl⟩), trivial⟩
   case hstep_yg104 =>
    refine ⟨?_, ?_, ?_, ?_, ?_, ?_, ?_, ?_, ?_, ?_, ?_, ?_, ?_, trivial⟩
    ·intro o ho a w yg104 M Hb hv hO hS
     obtain rfl := Option.some.inj ho
     exact Stp.mono (o_evs [] (.iface 199 (vP b_w)) none [] Hb rfl (by kernel_rfl) (fun q e => by cases e)) fun _ _ hq => ⟨gL [], fun _ _ => hq.1, (hS.below hq.2.below).sel [0, 1] rfl⟩
    ·intro o ho a w yg104 M Hb hv hO hS
     obtain rfl := Option.some.inj ho
     exact Stp.mono (o_evs [] (vS s) none [] Hb rfl (by kernel_rfl) (fun q e => by cases e)) fun _ _ hq => ⟨gL [], fun _ _ => hq.1, (hS.below hq.2.below).sel [] rfl⟩
    ·intro o ho a w yg104 M Hb hv hO hS
     obtain rfl := Option.some.inj ho
     exact Stp.mono (o_evs [] (vI s_z9.2.1) none [] Hb rfl (by kernel_rfl) (fun q e => by cases e)) fun _ _ hq => ⟨gL [], fun _ _ => hq.1, (hS.below hq.2.below).sel [] rfl⟩
    ·intro o ho a w yg104 M Hb hv hO hS
     obtain rfl := Option.some.inj ho
     exact Stp.mono (o_evs [] (.string ⟨⟨sub s s_z9.2.1 (ln s)⟩⟩) (some (fun _ => 0 ≤ s_z9.2.1 ∧ s_z9.2.1 ≤ ln s)) [] (((Hb).add (hv 1 (by decide) (by decide) 119 rfl)).add (hv 2 (by decide) (by decide) 120 rfl)) rfl (by kernel_rfl) (fun q e => by cases e; exact ho105)) fun _ _ hq => ⟨gL [], fun _ _ => hq.1, (hS.below hq.2.below).sel [] rfl⟩
    ·intro o ho a w yg104 M Hb hv hO hS
     obtain rfl := Option.some.inj ho
     exact Stp.mono (o_evs [] (.func (.method "WriteString") ⟨[.iface 199 (vP b_w)]⟩ ⟨[]⟩) none [] ((Hb).add (hv 0 (by decide) (by decide) 118 rfl)) rfl (by kernel_rfl) (fun q e => by cases e)) fun _ _ hq => ⟨gL [], fun _ _ => hq.1, (hS.below hq.2.below).sel [0, 1] rfl⟩
    ·intro o ho a w yg104 M Hb hv hO hS
     obtain rfl := Option.some.inj ho
     exact Stp.mono (o_evs [] (.func (.method "WriteString") ⟨[.iface 199 (vP b_w)]⟩ ⟨[]⟩) (some (fun _ => ∀ w', (nilAhead (Tryz.prog.types.size + Made.depth) 199 (vP b_w) "WriteString").run Tryz.prog w' = .ok (some false) w')) [] ((Hb).add (hv 4 (by decide) (by decide) 122 rfl)) rfl (by kernel_rfl) (fun q e => by cases e; exact (fun _ => by kernel_rfl))) fun _ _ hq => ⟨gL [], fun _ _ => hq.1, (hS.below hq.2.below).sel [0, 1] rfl⟩
    ·intro o ho a w yg104 M Hb hv hO hS
     obtain rfl := Option.some.inj ho
     exact Stp.mono (o_evs [] (.iface 199 (vP b_w)) none [] ((Hb).add (hv 0 (by decide) (by decide) 118 rfl)) rfl (by kernel_rfl) (fun q e => by cases e)) fun _ _ hq => ⟨gL [], fun _ _ => hq.1, (hS.below hq.2.below).sel [0, 1] rfl⟩
    ·intro o ho a w yg104 M Hb hv hO hS0
     obtain rfl := Option.some.inj ho
     have H : Fr 131 ([(124, [], .iface 199 (vP b_w)), (121, [], .string ⟨⟨sub s s_z9.2.1 (ln s)⟩⟩)] ++ [(2, [], vS s), (6, [], vI s_z9.1), (8, [], .iface 199 (vP b_w)), (9, [], vI s_z9.2.1)]) _ := ((Hb).add (hv 3 (by decide) (by decide) 121 rfl)).add (hv 6 (by decide) (by decide) 124 rfl)
     obtain ⟨X, hX⟩ : ∃ X, X = fpl [eB b_w [.slice g100.a s_z9.2.2.length g100.c], eO 5 (tI .u8) s_z9.2.2 g100] := ⟨_, rfl⟩
     have hS : SH M X w [eB b_w [.slice g100.a s_z9.2.2.length g100.c], eO 5 (tI .u8) s_z9.2.2 g100] w := by rw [hX]; exact hS0
     have hd := hS.hand [0, 1] [] rfl rfl
     refine Stp.mono (o_invx H rfl rfl (fun w => by kernel_rfl) (strings_appendSliceWriter_WriteString_ok (b_w := b_w) (g_w_ := g100) _ _ _ hy106 _ _ hd)) ?_
     rintro v w2 hq
     obtain ⟨g107, rfl, hq⟩ := hq
     replace hS : SH M X w [eB b_w [.slice g107.a y106.2.length g107.c], eO 5 (tI .u8) y106.2 g107] _ := hS.join [0, 1] [] rfl rfl hq
     clear hq
     rw [hX] at hS
     exact ⟨gL [g107], fun _ _ => rfl, hS.sel [0, 1] rfl⟩
    ·intro o ho a w yg104 M Hb hv hO hS
     obtain rfl := Option.some.inj ho
     exact Stp.mono (o_evs [] (.tuple ⟨[vI y106.1, .nilIface]⟩) none [] ((Hb).add (hv 7 (by decide) (by decide) 125 rfl)) rfl (by kernel_rfl) (fun q e => by cases e)) fun _ _ hq => ⟨gL [], fun _ _ => hq.1, (hS.below hq.2.below).sel [] rfl⟩
    ·intro o ho a w yg104 M Hb hv hO hS
     obtain rfl := Option.some.inj ho
     exact Stp.mono (o_evs [] (vI y106.1) none [] ((Hb).add (hv 8 (by decide) (by decide) 117 rfl)) rfl (by kernel_rfl) (fun q e => by cases e)) fun _ _ hq => ⟨gL [], fun _ _ => hq.1, (hS.below hq.2.below).sel [] rfl⟩
    ·intro o ho a w yg104 M Hb hv hO hS
     obtain rfl := Option.some.inj ho
     exact Stp.mono (o_evs [] (.nilIface) none [] ((Hb).add (hv 8 (by decide) (by decide) 117 rfl)) rfl (by kernel_rfl) (fun q e => by cases e)) fun _ _ hq => ⟨gL [], fun _ _ => hq.1, (hS.below hq.2.below).sel [] rfl⟩
    ·intro o ho a w yg104 M Hb hv hO hS
     obtain rfl := Option.some.inj ho
     exact Stp.mono (o_evs [] (vI y106.1) none [] ((Hb).add (hv 9 (by decide) (by decide) 126 rfl)) rfl (by kernel_rfl) (fun q e => by cases e)) fun _ _ hq => ⟨gL [], fun _ _ => hq.1, (hS.below hq.2.below).sel [] rfl⟩
    ·intro o ho a w yg104 M Hb hv hO hS
     obtain rfl := Option.some.inj ho
     exact Stp.mono (o_evs [] (.nilIface) none [] ((Hb).add (hv 10 (by decide) (by decide) 127 rfl)) rfl (by kernel_rfl) (fun q e => by cases e)) fun _ _ hq => ⟨gL [], fun _ _ => hq.1, (hS.below hq.2.below).sel [] rfl⟩
   have H111 : Fr 131 [(10, [], vI y106.1), (7, [], .nilIface), (6, [], vI s_z9.1)] _ := (FrG.add (FrG.add (FrG.keep (ks := [6]) H110 (by kernel_rfl)) (hv 12 7 rfl)) (hv 11 10 rfl))
   replace hS : SH M X w [eB b_w [.slice (yg104 7 0).a y106.2.length (yg104 7 0).c], eO 5 (tI .u8) y106.2 (yg104 7 0)] _ := hS
   clear hv H110
   generalize yg104 7 0 = g112 at H111 hS
   refine w_reg [] [6, 7] [(6, [], vI (w64 (s_z9.1 + y106.1))), (7, [], .nilIface)] [] H111 (by kernel_rfl) trivial fun _ wd113 H114 hb => ?_
   clear H111
   replace hS := hS.below hb
   clear hb
   obtain rfl := someE hm
   replace hS : SH M X w [eO 5 (tI .u8) y106.2 g112, eB b_w [.slice g112.a y106.2.length g112.c]] _ := hS.sel [1, 0] rfl
   exact ⟨g112, FrG.keep (ks := [6, 7]) H114 (by kernel_rfl), hS⟩
  ·rintro _ wd118 ⟨g116, H, hS⟩
   refine w_ret ?_
   obtain rfl := someE hm
   exact retR2 H rfl rfl rfl ⟨_, rfl, g116, rfl, (hS.sel [1, 0] rfl)⟩
theorem strings_genericReplacer_WriteString_ok {t_r : Nat} {tb_r : Nat} {n1_r : Nat} {n2_r : Nat} {n3_r : Nat} {n4_r : Nat} {b_w : Nat} {g_w_ : Gh} (m : Nat) (w_ : List Int) (s : Str) (r : Int × (List Int)) (hm : strings_genericReplacer_WriteString m w_ s = some r) (M : Av) (w : World) (hS : S0 M [Ent.trie t_r tb_r n1_r n2_r n3_r n4_r, eB b_w [vL g_w_ w_], eO 5 (tI .u8) w_ g_w_] w) : DoesX Tryz.prog 176 ⟨[vP t_r, .iface 199 (vP b_w), vS s]⟩ w (fun v w' => ∃ (g901 : Gh), v = .tuple ⟨[vI r.1, .nilIface]⟩ ∧ SH M (fpl [Ent.trie t_r tb_r n1_r n2_r n3_r n4_r, eB b_w [vL g_w_ w_], eO 5 (tI .u8) w_ g_w_]) w [eB b_w [.slice g901.a r.2.length g901.c], eO 5 (tI .u8) r.2 g901] w') := ⟨Tryz.call176 _, strings_genericReplacer_WriteString_w M m   w_ s r hm w hS⟩

def strings_genericReplacer_Replace (m : Nat) (s : Str) : Option (Str) :=
  chk (0 ≤ (0 : Int) ∧ (0 : Int) ≤ (ln s) ∧ (ln s) ≤ 1099511627776) <|
  lt (List.replicate ((0 : Int)).toNat (0 : Int)) fun q6 =>
  Option.bind (strings_genericReplacer_WriteString m q6 s) fun y18 =>
  some (toB y18.2)
theorem strings_genericReplacer_Replace_w {t_r : Nat} {tb_r : Nat} {n1_r : Nat} {n2_r : Nat} {n3_r : Nat} {n4_r : Nat} (M : Av) (m : Nat) (s : Str) (r : Str) (hm : strings_genericReplacer_Replace m s = some r) (w : World) (hS : S0 M [Ent.trie t_r tb_r n1_r n2_r n3_r n4_r] w) : Calls Tryz.prog 175 ⟨[vP t_r, vS s]⟩ w (fun e w' => ∃ v, e = .returned v ∧ v = vS r ∧ SH M (fpl [Ent.trie t_r tb_r n1_r n2_r n3_r n4_r]) w [] w') := by
 rw [strings_genericReplacer_Replace] at hm
 have hS0 : SH M (fpl [Ent.trie t_r tb_r n1_r n2_r n3_r n4_r]) w [Ent.trie t_r tb_r n1_r n2_r n3_r n4_r] w := hS
 generalize hX : fpl [Ent.trie t_r tb_r n1_r n2_r n3_r n4_r] = X at hS0 ⊢
 clear hS hX
 have hS := hS0
 clear hS0
 refine calls_entryP Tryz.func175 rfl Tryz.ntmps175 rfl fun _ H => ?_
 refine s_reg [] [0, 1] [(0, [], vP t_r), (1, [], vS s)] [] H (by kernel_rfl) trivial fun _ wd1 H2 hb => ?_
 clear H
 replace hS := hS.below hb
 clear hb
 refine w_seq ?_
 refine wl_start ?_
 refine wl_batch 0 2 [] [0, 1, 7] [(0, [], vP t_r), (1, [], vS s), (7, [], vI (ln s))] [] H2 (by decide) (by kernel_rfl) trivial fun _ wd3 H4 hb => ?_
 clear H2
 replace hS := hS.below hb
 clear hb
 obtain ⟨ho5, hm⟩ := chkE hm
 obtain ⟨q6, hq6, hm⟩ := letE hm
 have hd := hS.hand [] [0] rfl rfl
 refine m_stp [8, 0, 1] [(0, [], vP t_r), (1, [], vS s)] H4 rfl rfl rfl rfl (o_make (T := (tI .u8)) (E := 5) (zv := vU 0) (0 : Int) H4 hd rfl rfl (by kernel_rfl) (by kernel_rfl) rfl rfl (fun _ _ => trivial) ho5) (fun _ => rfl) fun _ wd7 v H8 hq => ?_
 clear H4 hd
 obtain ⟨g9, rfl, hq⟩ := hq
 rw [← hq6] at hq
 rw [← hq6] at H8
 replace hS : SH M X w [eO 5 (tI .u8) q6 g9, Ent.trie t_r tb_r n1_r n2_r n3_r n4_r] _ := hS.join [] [0] rfl rfl hq
 clear hq
 have hd := hS.hand [] [0, 1] rfl rfl
 refine m_stp [5, 0, 1, 8] [(0, [], vP t_r), (1, [], vS s), (8, [], vL g9 q6)] H8 rfl rfl rfl rfl (o_alloc [vO] (z := vO) hd (by kernel_rfl) rfl) (fun _ => rfl) fun _ wd12 v H13 hq => ?_
 clear H8 hd
 obtain ⟨b11, rfl, hq⟩ := hq
 replace hS : SH M X w [eB b11 [vO], eO 5 (tI .u8) q6 g9, Ent.trie t_r tb_r n1_r n2_r n3_r n4_r] _ := hS.join [] [0, 1] rfl rfl hq
 clear hq
 have hd := hS.hand [0] [1, 2] rfl rfl
 refine m_stp0 [0, 1, 5] [(0, [], vP t_r), (1, [], vS s), (5, [], vP b11)] H13 rfl rfl rfl (o_store [vL g9 q6] H13 hd rfl rfl (by kernel_rfl) rfl rfl rfl) rfl fun _ wd14 H15 hq => ?_
 clear H13 hd
 obtain ⟨_, hq⟩ := hq
 replace hS : SH M X w [eB b11 [vL g9 q6], eO 5 (tI .u8) q6 g9, Ent.trie t_r tb_r n1_r n2_r n3_r n4_r] _ := hS.join [0] [1, 2] rfl rfl hq
 clear hq
 refine wl_end rfl ?_
 refine w_seq ?_
 refine wl_start ?_
 refine wl_batch 0 3 [] [5, 9, 10, 11] [(5, [], vP b11), (9, [], vP t_r), (10, [], .iface 199 (vP b11)), (11, [], vS s)] [] H15 (by decide) (by kernel_rfl) trivial fun _ wd16 H17 hb => ?_
 clear H15
 replace hS := hS.below hb
 clear hb
 obtain ⟨y18, hy18, hm⟩ := bindE hm
 have hd := hS.hand [2, 0, 1] [2] rfl rfl
 refine m_stp [12, 5] [(5, [], vP b11)] H17 rfl rfl rfl rfl (o_callx H17 rfl rfl (strings_genericReplacer_WriteString_ok (t_r := t_r) (tb_r := tb_r) (n1_r := n1_r) (n2_r := n2_r) (n3_r := n3_r) (n4_r := n4_r) (b_w := b11) (g_w_ := g9) m _ _ _ hy18 _ _ hd)) (fun _ => rfl) fun _ wd21 v H22 hq => ?_
 clear H17 hd
 obtain ⟨g19, rfl, hq⟩ := hq
 replace hS : SH M X w [eB b11 [.slice g19.a y18.2.length g19.c], eO 5 (tI .u8) y18.2 g19, Ent.trie t_r tb_r n1_r n2_r n3_r n4_r] _ := hS.join [2, 0, 1] [2] rfl rfl hq
 clear hq
 refine wl_end rfl ?_
 replace hS : SH M X w [eB b11 [.slice g19.a y18.2.length g19.c], eO 5 (tI .u8) y18.2 g19] _ := hS.sel [0, 1] rfl
 refine s_reg [(.slice g19.a y18.2.length g19.c), (.string ⟨⟨toB y18.2⟩⟩)] [4] [(4, [], .string ⟨⟨toB y18.2⟩⟩)] [fun wz => V.at1 ⟨b11, 0, none⟩ (.slice g19.a y18.2.length g19.c) wz, fun wz => ∀ w', Below wz.heap.size wz w' → (convert 198 9 (.slice g19.a y18.2.length g19.c)).run Tryz.prog w' = .ok (.string ⟨⟨toB y18.2⟩⟩) w'] H22 (by kernel_rfl) ⟨((hS.bk 0 rfl).at1 rfl), (conv_slG (E := 5) (by kernel_rfl) (by kernel_rfl) (by kernel_rfl) (hS.osl 1 rfl)), trivial⟩ fun _ wd23 H24 hb => ?_
 clear H22
 replace hS := hS.below hb
 clear hb
 replace hS : SH M X w [] _ := hS.sel [] rfl
 refine w_ret ?_
 obtain rfl := someE hm
 exact retR1 H24 rfl rfl ⟨_, rfl, rfl, (hS.sel [] rfl)⟩
theorem strings_genericReplacer_Replace_ok {t_r : Nat} {tb_r : Nat} {n1_r : Nat} {n2_r : Nat} {n3_r : Nat} {n4_r : Nat} (m : Nat) (s : Str) (r : Str) (hm : strings_genericReplacer_Replace m s = some r) (w : World) (hL : S0 F0 [Ent.trie t_r tb_r n1_r n2_r n3_r n4_r] w ∧ fpl [Ent.trie t_r tb_r n1_r n2_r n3_r n4_r] = []) : RetB Tryz.prog 175 ⟨[vP t_r, vS s]⟩ (vS r) w := retB_of hL (Tryz.call175 _) (fun w' h => strings_genericReplacer_Replace_w F0 m   s r hm w' h)

def strings_NewReplacer (oldnew : List Str) : Option (Int × Int × Int × (List Str)) :=
  cond ((Int.tmod (ln oldnew) 2) == 1) (
  none) (
  chk (ln ([] : List Str) + ln oldnew ≤ 1099511627776) <|
  lt (([] : List Str) ++ oldnew) fun q9 =>
  some (0, 0, 0, q9))
theorem strings_NewReplacer_w {g_oldnew : Gh} (M : Av) (oldnew : List Str) (r : Int × Int × Int × (List Str)) (hm : strings_NewReplacer oldnew = some r) (w : World) (hS : S0 M [eI tS oldnew g_oldnew] w) : Calls Tryz.prog 42 ⟨[vL g_oldnew oldnew]⟩ w (fun e w' => ∃ v, e = .returned v ∧ ∃ (b901 : Nat) (g902 : Gh), v = vP b901 ∧ SH M (fpl [eI tS oldnew g_oldnew]) w [eB b901 [.int .u32 r.1, .int .i32 r.2.1, .int .u32 r.2.2.1, .nilIface, .slice g902.a r.2.2.2.length g902.c], eO 9 tS r.2.2.2 g902] w') := by
 rw [strings_NewReplacer] at hm
 have hS0 : SH M (fpl [eI tS oldnew g_oldnew]) w [eI tS oldnew g_oldnew] w := hS
 generalize hX : fpl [eI tS oldnew g_oldnew] = X at hS0 ⊢
 clear hS hX
 have hS := hS0
 clear hS0
 refine calls_entryP Tryz.func42 rfl Tryz.ntmps42 rfl fun _ H => ?_
 refine s_reg [] [0] [(0, [], vL g_oldnew oldnew)] [] H (by kernel_rfl) trivial fun _ wd1 H2 hb => ?_
 clear H
 replace hS := hS.below hb
 clear hb
 refine w_seq ?_
 refine s_reg [] [0, 6] [(0, [], vL g_oldnew oldnew), (6, [], .bool ((Int.tmod (ln oldnew) 2) == 1))] [fun _ => (2 : Int) ≠ 0] H2 (by kernel_rfl) ⟨(by show (2 : Int) ≠ 0; decide), trivial⟩ fun _ wd3 H4 hb => ?_
 clear H2
 replace hS := hS.below hb
 clear hb
 refine w_if H4 rfl (fun hc => ?c20) (fun hc => ?_)
 case c20 =>
  replace hm := bT hc hm
  exact noneE hm
 replace hm := bF hc hm
 refine w_skip ?_
 refine w_seq ?_
 refine wl_start ?_
 refine wl_batch 0 1 [] [8] [(8, [], vL g_oldnew oldnew)] [] H4 (by decide) (by kernel_rfl) trivial fun _ wd5 H6 hb => ?_
 clear H4
 replace hS := hS.below hb
 clear hb
 replace hS : SH M X w [eO 9 tS ([] : List Str) (.nil), eI tS oldnew g_oldnew] _ := hS.addNil 9 tS
 obtain ⟨ho8, hm⟩ := chkE hm
 obtain ⟨q9, hq9, hm⟩ := letE hm
 have hd := hS.hand [0, 1] [1] rfl rfl
 refine m_stp [9] [] H6 rfl rfl rfl rfl (o_app (T := tS) (zv := vN) (g1 := Gh.nil) (g2 := g_oldnew) (l1 := ([] : List Str)) (l2 := oldnew) q9 hq9.symm H6 hd rfl rfl rfl rfl rfl rfl rfl (by kernel_rfl) (by kernel_rfl) rfl rfl ho8) (fun _ => rfl) fun _ wd10 v H11 hq => ?_
 clear H6 hd
 obtain ⟨g12, rfl, hq⟩ := hq
 replace hS : SH M X w [eO 9 tS q9 g12, eI tS oldnew g_oldnew] _ := hS.join [0, 1] [1] rfl rfl hq
 clear hq
 refine wl_batch 2 3 [] [10] [(10, [], .agg ⟨[.int .u32 0, .int .i32 0, .int .u32 0, .nilIface, vL g12 q9]⟩)] [] H11 (by decide) (by kernel_rfl) trivial fun _ wd13 H14 hb => ?_
 clear H11
 replace hS := hS.below hb
 clear hb
 have hd := hS.hand [] [0, 1] rfl rfl
 refine m_stp [11] [] H14 rfl rfl rfl rfl (o_box [.int .u32 0, .int .i32 0, .int .u32 0, .nilIface, vL g12 q9] H14 hd rfl rfl) (fun _ => rfl) fun _ wd16 v H17 hq => ?_
 clear H14 hd
 obtain ⟨b15, rfl, hq⟩ := hq
 replace hS : SH M X w [eB b15 [.int .u32 0, .int .i32 0, .int .u32 0, .nilIface, vL g12 q9], eO 9 tS q9 g12, eI tS oldnew g_oldnew] _ := hS.join [] [0, 1] rfl rfl hq
 clear hq
 refine wl_batch 4 5 [] [2] [(2, [], vP b15)] [] H17 (by decide) (by kernel_rfl) trivial fun _ wd18 H19 hb => ?_
 clear H17
 replace hS := hS.below hb
 clear hb
 refine wl_end rfl ?_
 replace hS : SH M X w [eB b15 [.int .u32 0, .int .i32 0, .int .u32 0, .nilIface, vL g12 q9], eO 9 tS q9 g12] _ := hS.sel [0, 1] rfl
 refine w_ret ?_
 obtain rfl := someE hm
 exact retR1 H19 rfl rfl ⟨_, rfl, b15, g12, rfl, (hS.sel [0, 1] rfl)⟩
theorem strings_NewReplacer_ok {g_oldnew : Gh} (oldnew : List Str) (r : Int × Int × Int × (List Str)) (hm : strings_NewReplacer oldnew = some r) (M : Av) (w : World) (hS : S0 M [eI tS oldnew g_oldnew] w) : DoesX Tryz.prog 42 ⟨[vL g_oldnew oldnew]⟩ w (fun v w' => ∃ (b901 : Nat) (g902 : Gh), v = vP b901 ∧ SH M (fpl [eI tS oldnew g_oldnew]) w [eB b901 [.int .u32 r.1, .int .i32 r.2.1, .int .u32 r.2.2.1, .nilIface, .slice g902.a r.2.2.2.length g902.c], eO 9 tS r.2.2.2 g902] w') := ⟨Tryz.call42 _, strings_NewReplacer_w M   oldnew r hm w hS⟩

def input_cleaner  : Option (Int × Int × Int × (List Str)) :=
  Option.bind (strings_NewReplacer ([[13, 10], [10], [13], [10], [12], [10], [0], [239, 191, 189]] : List Str)) fun y7 =>
  some (y7.1, y7.2.1, y7.2.2.1, y7.2.2.2)
theorem input_cleaner_w  (M : Av)  (r : Int × Int × Int × (List Str)) (hm : input_cleaner = some r) (w : World) (hS : S0 M [] w) : Calls Tryz.prog 29 ⟨[]⟩ w (fun e w' => ∃ v, e = .returned v ∧ ∃ (b901 : Nat) (g902 : Gh), v = vP b901 ∧ SH M (fpl []) w [eB b901 [.int .u32 r.1, .int .i32 r.2.1, .int .u32 r.2.2.1, .nilIface, .slice g902.a r.2.2.2.length g902.c], eO 9 tS r.2.2.2 g902] w') := by
 rw [input_cleaner] at hm
 have hS0 : SH M (fpl []) w [] w := hS
 generalize hX : fpl [] = X at hS0 ⊢
 clear hS hX
 have hS := hS0
 clear hS0
 refine calls_entryP Tryz.func29 rfl Tryz.ntmps29 rfl fun _ H => ?_
 refine s_reg [] [] [] [] H (by kernel_rfl) trivial fun _ wd1 H2 hb => ?_
 clear H
 replace hS := hS.below hb
 clear hb
 refine w_seq ?_
 refine wl_start ?_
 have hd := hS.hand [] [] rfl rfl
 refine m_stp [1] [] H2 rfl rfl rfl rfl (o_lit (T := tS) (E := 9) (zv := vN) [vS [13, 10], vS [10], vS [13], vS [10], vS [12], vS [10], vS [0], vS [239, 191, 189]] ([[13, 10], [10], [13], [10], [12], [10], [0], [239, 191, 189]] : List Str) [gL [], gL [], gL [], gL [], gL [], gL [], gL [], gL []] _ H2 hd rfl (by kernel_rfl) (by kernel_rfl) (by kernel_rfl) (by kernel_rfl) (by kernel_rfl) (by kernel_rfl) (by kernel_rfl) rfl (InnL.cons trivial (InnL.cons trivial (InnL.cons trivial (InnL.cons trivial (InnL.cons trivial (InnL.cons trivial (InnL.cons trivial (InnL.cons trivial InnL.nil))))))))) (fun _ => rfl) fun _ wd5 v H6 hq => ?_
 clear H2 hd
 obtain ⟨g3, rfl, hq⟩ := hq
 replace hS : SH M X w [eO 9 tS ([[13, 10], [10], [13], [10], [12], [10], [0], [239, 191, 189]] : List Str) g3] _ := hS.join [] [] rfl rfl hq
 clear hq
 replace hS : SH M X w [eI tS ([[13, 10], [10], [13], [10], [12], [10], [0], [239, 191, 189]] : List Str) g3] _ := SH.frz1 (hS.sel [0] rfl)
 obtain ⟨y7, hy7, hm⟩ := bindE hm
 have hd := hS.hand [0] [0] rfl rfl
 refine m_stp [2] [] H6 rfl rfl rfl rfl (o_callx H6 rfl rfl (strings_NewReplacer_ok (g_oldnew := g3) _ _ hy7 _ _ hd)) (fun _ => rfl) fun _ wd11 v H12 hq => ?_
 clear H6 hd
 obtain ⟨b8, g9, rfl, hq⟩ := hq
 replace hS : SH M X w [eB b8 [.int .u32 y7.1, .int .i32 y7.2.1, .int .u32 y7.2.2.1, .nilIface, .slice g9.a y7.2.2.2.length g9.c], eO 9 tS y7.2.2.2 g9, eI tS ([[13, 10], [10], [13], [10], [12], [10], [0], [239, 191, 189]] : List Str) g3] _ := hS.join [0] [0] rfl rfl hq
 clear hq
 refine wl_batch 2 3 [] [0] [(0, [], vP b8)] [] H12 (by decide) (by kernel_rfl) trivial fun _ wd13 H14 hb => ?_
 clear H12
 replace hS := hS.below hb
 clear hb
 refine wl_end rfl ?_
 replace hS : SH M X w [eB b8 [.int .u32 y7.1, .int .i32 y7.2.1, .int .u32 y7.2.2.1, .nilIface, .slice g9.a y7.2.2.2.length g9.c], eO 9 tS y7.2.2.2 g9] _ := hS.sel [0, 1] rfl
 refine w_ret ?_
 obtain rfl := someE hm
 exact retR1 H14 rfl rfl ⟨_, rfl, b8, g9, rfl, (hS.sel [0, 1] rfl)⟩
theorem input_cleaner_ok   (r : Int × Int × Int × (List Str)) (hm : input_cleaner = some r) (M : Av) (w : World) (hS : S0 M [] w) : DoesX Tryz.prog 29 ⟨[]⟩ w (fun v w' => ∃ (b901 : Nat) (g902 : Gh), v = vP b901 ∧ SH M (fpl []) w [eB b901 [.int .u32 r.1, .int .i32 r.2.1, .int .u32 r.2.2.1, .nilIface, .slice g902.a r.2.2.2.length g902.c], eO 9 tS r.2.2.2 g902] w') := ⟨Tryz.call29 _, input_cleaner_w M    r hm w hS⟩

end Go.Proofs.YtfancfogkhclfaaGreatDoor
