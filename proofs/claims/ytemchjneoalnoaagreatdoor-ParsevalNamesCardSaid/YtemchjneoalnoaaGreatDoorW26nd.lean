/-
  What the Go functions compute, as Lean functions, and that a call returns just that. Printed by a program.
-/
import Derived.Test.YtemchjneoalnoaaGreatDoorRows
import Derived.Test.YtemchjneoalnoaaGreatDoorX
import Derived.Test.YtemchjneoalnoaaGreatDoorIF
import Derived.Test.YtemchjneoalnoaaGreatDoorMP
import Derived.Test.YtemchjneoalnoaaGreatDoorW26nc
set_option linter.unusedVariables false
set_option maxRecDepth 20000
set_option maxHeartbeats 4000000
namespace Go.Proofs.YtemchjneoalnoaaGreatDoor
open Go.V Go.RowKit

theorem parseval_Shown_w  (M : Av) (m : Nat) (c_ : TColor) (r : Str) (hm : parseval_Shown m c_ = some r) (w : World) (hS : S0 M [Ent.tab 0 (Lib.pow10Tab.map fun z => Value.int .u64 z), gE5] w) : Calls Tryz.prog 13 ⟨[.agg ⟨[vU c_.Red, vU c_.Green, vU c_.Blue, vU c_.Alpha]⟩]⟩ w (fun e w' => ∃ v, e = .returned v ∧ v = vS r ∧ SH M (fpl [Ent.tab 0 (Lib.pow10Tab.map fun z => Value.int .u64 z), gE5]) w [] w') := by
 rw [parseval_Shown] at hm
 have hS0 : SH M (fpl [Ent.tab 0 (Lib.pow10Tab.map fun z => Value.int .u64 z), gE5]) w [Ent.tab 0 (Lib.pow10Tab.map fun z => Value.int .u64 z), gE5] w := hS
 generalize hX : fpl [Ent.tab 0 (Lib.pow10Tab.map fun z => Value.int .u64 z), gE5] = X at hS0 ⊢
 clear hS hX
 have hS := hS0
 clear hS0
 refine calls_entryP Tryz.func13 rfl Tryz.ntmps13 rfl fun _ H => ?_
 refine w_seq ?_
 refine wl_start ?_
 have hd := hS.hand [] [0, 1] rfl rfl
 refine m_stp [1] [] H rfl rfl rfl rfl (o_box [vU c_.Red, vU c_.Green, vU c_.Blue, vU c_.Alpha] H hd rfl rfl) (fun _ => rfl) fun _ wd2 v H3 hq => ?_
 clear H hd
 obtain ⟨b1, rfl, hq⟩ := hq
 replace hS : SH M X w [eB b1 [vU c_.Red, vU c_.Green, vU c_.Blue, vU c_.Alpha], Ent.tab 0 (Lib.pow10Tab.map fun z => Value.int .u64 z), gE5] _ := hS.join [] [0, 1] rfl rfl hq
 clear hq
 refine wl_batch 1 2 [] [1] [(1, [], vP b1)] [] H3 (by decide) (by kernel_rfl) trivial fun _ wd4 H5 hb => ?_
 clear H3
 replace hS := hS.below hb
 clear hb
 refine wl_end rfl ?_
 refine w_seq ?_
 refine wl_start ?_
 refine wl_batch 0 9 [(vU c_.Red), (vU c_.Green), (vU c_.Blue), (vU c_.Alpha)] [1, 18] [(1, [], vP b1), (18, [], .agg ⟨[vU c_.Red, vU c_.Green, vU c_.Blue, vU c_.Alpha]⟩)] [fun wz => V.at1 ⟨b1, 0, none⟩ (vU c_.Red) wz, fun wz => V.at1 ⟨b1, 1, none⟩ (vU c_.Green) wz, fun wz => V.at1 ⟨b1, 2, none⟩ (vU c_.Blue) wz, fun wz => V.at1 ⟨b1, 3, none⟩ (vU c_.Alpha) wz] H5 (by decide) (by kernel_rfl) ⟨((hS.bk 0 rfl).at1 rfl), ((hS.bk 0 rfl).at1 rfl), ((hS.bk 0 rfl).at1 rfl), ((hS.bk 0 rfl).at1 rfl), trivial⟩ fun _ wd6 H7 hb => ?_
 clear H5
 replace hS := hS.below hb
 clear hb
 have hd := hS.hand [] [0, 1, 2] rfl rfl
 refine m_stp [3, 1, 18] [(1, [], vP b1), (18, [], .agg ⟨[vU c_.Red, vU c_.Green, vU c_.Blue, vU c_.Alpha]⟩)] H7 rfl rfl rfl rfl (o_alloc [vU 0, vU 0, vU 0, vU 0] (z := .agg ⟨[vU 0, vU 0, vU 0, vU 0]⟩) hd (by kernel_rfl) rfl) (fun _ => rfl) fun _ wd9 v H10 hq => ?_
 clear H7 hd
 obtain ⟨b8, rfl, hq⟩ := hq
 replace hS : SH M X w [eB b8 [vU 0, vU 0, vU 0, vU 0], eB b1 [vU c_.Red, vU c_.Green, vU c_.Blue, vU c_.Alpha], Ent.tab 0 (Lib.pow10Tab.map fun z => Value.int .u64 z), gE5] _ := hS.join [] [0, 1, 2] rfl rfl hq
 clear hq
 have hd := hS.hand [0] [1, 2, 3] rfl rfl
 refine m_stp0 [1, 3] [(1, [], vP b1), (3, [], vP b8)] H10 rfl rfl rfl (o_store [vU c_.Red, vU c_.Green, vU c_.Blue, vU c_.Alpha] H10 hd rfl rfl (by kernel_rfl) rfl rfl rfl) rfl fun _ wd11 H12 hq => ?_
 clear H10 hd
 obtain ⟨_, hq⟩ := hq
 replace hS : SH M X w [eB b8 [vU c_.Red, vU c_.Green, vU c_.Blue, vU c_.Alpha], eB b1 [vU c_.Red, vU c_.Green, vU c_.Blue, vU c_.Alpha], Ent.tab 0 (Lib.pow10Tab.map fun z => Value.int .u64 z), gE5] _ := hS.join [0] [1, 2, 3] rfl rfl hq
 clear hq
 refine wl_end rfl ?_
 obtain ⟨z13, hz, hm_z13⟩ := bindE hm
 refine w_cut (fun a' w' => ∃ s_z13 : Unit, z13 = Sum.inr s_z13 ∧ Fr 52 [(3, [], vP b8)] a' ∧ SH M X w [eB b8 [vU c_.Red, vU c_.Green, vU c_.Blue, vU c_.Alpha], eB b1 [vU c_.Red, vU c_.Green, vU c_.Blue, vU c_.Alpha], Ent.tab 0 (Lib.pow10Tab.map fun z => Value.int .u64 z), gE5] w') ?_ ?_
 ·replace hm := hz
  refine s_reg [(vU c_.Alpha)] [3, 21] [(3, [], vP b8), (21, [], .bool (c_.Alpha == 255))] [fun wz => V.at1 ⟨b1, 3, none⟩ (vU c_.Alpha) wz] H12 (by kernel_rfl) ⟨((hS.bk 1 rfl).at1 rfl), trivial⟩ fun _ wd14 H15 hb => ?_
  clear H12
  replace hS := hS.below hb
  clear hb
  refine w_if H15 rfl (fun hc => ?_) (fun hc => ?c58)
  case c58 =>
   replace hm := bF hc hm
   refine w_skip ?_
   obtain rfl := someE hm
   exact ⟨_, rfl, FrG.keep (ks := [3]) H15 (by kernel_rfl), hS⟩
  replace hm := bT hc hm
  refine s_reg [] [3, 4] [(3, [], vP b8), (4, [], vO)] [] H15 (by kernel_rfl) trivial fun _ wd16 H17 hb => ?_
  clear H15
  replace hS := hS.below hb
  clear hb
  replace hS : SH M X w [Ent.row .u8 b8 [c_.Red, c_.Green, c_.Blue, c_.Alpha] (4 : Int), eB b1 [vU c_.Red, vU c_.Green, vU c_.Blue, vU c_.Alpha], Ent.tab 0 (Lib.pow10Tab.map fun z => Value.int .u64 z), gE5] _ := SH.toRow (q := [c_.Red, c_.Green, c_.Blue, c_.Alpha]) rfl (hS.sel [0, 1, 2, 3] rfl)
  obtain ⟨z18, hz, hm⟩ := bindE hm
  refine w_cut (fun a' w' => ∃ (g50 : Gh), Fr 52 [(4, [], vL g50 z18)] a' ∧ SH M X w [eO 9 tS z18 g50, Ent.row .u8 b8 [c_.Red, c_.Green, c_.Blue, c_.Alpha] (4 : Int), eB b1 [vU c_.Red, vU c_.Green, vU c_.Blue, vU c_.Alpha], Ent.tab 0 (Lib.pow10Tab.map fun z => Value.int .u64 z), gE5] w') ?_ ?_
  ·replace hm := hz
   refine s_reg [] [4, 22, 23, 24] [(4, [], vO), (22, [], .slice (some ⟨b8, 0, none⟩) 3 4), (23, [], vI (3 : Int)), (24, [], vI 0)] [fun _ => 0 ≤ (3 : Int) ∧ (3 : Int) ≤ (4 : Int)] H17 (by kernel_rfl) ⟨(⟨by decide, by decide⟩), trivial⟩ fun _ wd19 H20 hb => ?_
   clear H17
   replace hS := hS.below hb
   clear hb
   refine w_block ?_
   replace hS : SH M X w [eO 9 tS ([] : List Str) (.nil), Ent.row .u8 b8 [c_.Red, c_.Green, c_.Blue, c_.Alpha] (4 : Int), eB b1 [vU c_.Red, vU c_.Green, vU c_.Blue, vU c_.Alpha], Ent.tab 0 (Lib.pow10Tab.map fun z => Value.int .u64 z), gE5] _ := hS.addNil 9 tS
   refine w_loop (fun kk a' w' => ∃ (v22 : List Str) (v24 : Int) (g23 : Gh), parseval_Shown_L1 m c_ kk v22 v24 = some _ ∧ Fr 52 [(22, [], .slice (some ⟨b8, 0, none⟩) 3 4), (23, [], vI (3 : Int)), (4, [], vL g23 v22), (24, [], vI v24)] a' ∧ SH M X w [eO 9 tS v22 g23, Ent.row .u8 b8 [c_.Red, c_.Green, c_.Blue, c_.Alpha] (4 : Int), eB b1 [vU c_.Red, vU c_.Green, vU c_.Blue, vU c_.Alpha], Ent.tab 0 (Lib.pow10Tab.map fun z => Value.int .u64 z), gE5] w') ⟨_, ([] : List Str), 0, Gh.nil, hm, FrG.keep (ks := [22, 23, 4, 24]) H20 (by kernel_rfl), hS⟩ ?_
   clear hm H20 hS
   rintro kk _ wd49 ⟨v22, v24, g23, hm, H, hS⟩
   cases kk with
   | zero => exact noneE hm
   | succ kk =>
    rw [parseval_Shown_L1] at hm
    refine s_reg [] [4, 22, 23, 24, 25] [(4, [], vL g23 v22), (22, [], .slice (some ⟨b8, 0, none⟩) 3 4), (23, [], vI (3 : Int)), (24, [], vI v24), (25, [], .bool (decide (v24 < (3 : Int))))] [] H (by kernel_rfl) trivial fun _ wd25 H26 hb => ?_
    clear H
    replace hS := hS.below hb
    clear hb
    refine w_seq ?_
    refine w_if H26 rfl (fun hc => ?_) (fun hc => ?c48)
    case c48 =>
     replace hm := bF hc hm
     refine w_exit rfl ?_
     obtain rfl := someE hm
     exact ⟨g23, FrG.keep (ks := [4]) H26 (by kernel_rfl), hS⟩
    replace hm := bT hc hm
    refine w_skip ?_
    refine w_seq ?_
    refine w_block ?_
    obtain ⟨ho27, hm⟩ := chkE hm
    obtain ⟨ho28, hm⟩ := chkE hm
    obtain ⟨x29, hx29, hm⟩ := letE hm
    refine s_reg [(vU (gi [c_.Red, c_.Green, c_.Blue, c_.Alpha] v24))] [4, 6, 22, 23, 24] [(4, [], vL g23 v22), (6, [], vU x29), (22, [], .slice (some ⟨b8, 0, none⟩) 3 4), (23, [], vI (3 : Int)), (24, [], vI v24)] [fun _ => oka (some ⟨b8, 0, none⟩) ∧ 0 ≤ v24 ∧ v24 < (3 : Int), fun wz => V.at1 ⟨b8, 0 + (v24).toNat * 1, none⟩ (vU (gi [c_.Red, c_.Green, c_.Blue, c_.Alpha] v24)) wz] H26 (by subst hx29; kernel_rfl) ⟨(⟨rfl, ho27⟩), (Rw.ixn (hS.rw 1 rfl) ho28), trivial⟩ fun _ wd30 H31 hb => ?_
    clear H26
    replace hS := hS.below hb
    clear hb
    refine wl_start ?_
    obtain ⟨y32, hy32, hm⟩ := bindE hm
    refine wl_batch 0 4 [(vS y32)] [22, 23, 24, 28, 31] [(22, [], .slice (some ⟨b8, 0, none⟩) 3 4), (23, [], vI (3 : Int)), (24, [], vI v24), (28, [], vL g23 v22), (31, [], vS y32)] [fun wz => RetB Tryz.prog 28 ⟨[vI (w64 x29)]⟩ (vS y32) wz] H31 (by decide) (by kernel_rfl) ⟨(x_Itoa_ok _ _ hy32 _ (s0tab s0nil (hS.at 3 rfl))), trivial⟩ fun _ wd33 H34 hb => ?_
    clear H31
    replace hS := hS.below hb
    clear hb
    have hd := hS.hand [] [0, 1, 2, 3, 4] rfl rfl
    refine m_stp [32, 22, 23, 24, 28] [(22, [], .slice (some ⟨b8, 0, none⟩) 3 4), (23, [], vI (3 : Int)), (24, [], vI v24), (28, [], vL g23 v22)] H34 rfl rfl rfl rfl (o_lit (T := tS) (E := 9) (zv := vN) [vS y32] ([y32] : List Str) [gL []] _ H34 hd rfl (by kernel_rfl) (by kernel_rfl) (by kernel_rfl) (by kernel_rfl) (by kernel_rfl) (by kernel_rfl) (by kernel_rfl) rfl (InnL.cons trivial InnL.nil)) (fun _ => rfl) fun _ wd37 v H38 hq => ?_
    clear H34 hd
    obtain ⟨g35, rfl, hq⟩ := hq
    replace hS : SH M X w [eO 9 tS ([y32] : List Str) g35, eO 9 tS v22 g23, Ent.row .u8 b8 [c_.Red, c_.Green, c_.Blue, c_.Alpha] (4 : Int), eB b1 [vU c_.Red, vU c_.Green, vU c_.Blue, vU c_.Alpha], Ent.tab 0 (Lib.pow10Tab.map fun z => Value.int .u64 z), gE5] _ := hS.join [] [0, 1, 2, 3, 4] rfl rfl hq
    clear hq
    obtain ⟨ho39, hm⟩ := chkE hm
    obtain ⟨q40, hq40, hm⟩ := letE hm
    have hd := hS.hand [1, 0] [2, 3, 4, 5] rfl rfl
    refine m_stp [33, 22, 23, 24] [(22, [], .slice (some ⟨b8, 0, none⟩) 3 4), (23, [], vI (3 : Int)), (24, [], vI v24)] H38 rfl rfl rfl rfl (o_app2 (T := tS) (zv := vN) (g1 := g23) (g2 := g35) (l1 := v22) (l2 := ([y32] : List Str)) q40 hq40.symm H38 hd rfl rfl rfl rfl rfl rfl rfl (by kernel_rfl) (by kernel_rfl) rfl rfl ho39) (fun _ => rfl) fun _ wd41 v H42 hq => ?_
    clear H38 hd
    obtain ⟨g43, rfl, hq⟩ := hq
    replace hS : SH M X w [eO 9 tS q40 g43, eO 9 tS ([y32] : List Str) g35, Ent.row .u8 b8 [c_.Red, c_.Green, c_.Blue, c_.Alpha] (4 : Int), eB b1 [vU c_.Red, vU c_.Green, vU c_.Blue, vU c_.Alpha], Ent.tab 0 (Lib.pow10Tab.map fun z => Value.int .u64 z), gE5] _ := hS.join [1, 0] [2, 3, 4, 5] rfl rfl hq
    clear hq
    refine wl_batch 6 7 [] [4, 22, 23, 24] [(4, [], vL g43 q40), (22, [], .slice (some ⟨b8, 0, none⟩) 3 4), (23, [], vI (3 : Int)), (24, [], vI v24)] [] H42 (by decide) (by kernel_rfl) trivial fun _ wd44 H45 hb => ?_
    clear H42
    replace hS := hS.below hb
    clear hb
    refine wl_end rfl ?_
    replace hS : SH M X w [eO 9 tS q40 g43, Ent.row .u8 b8 [c_.Red, c_.Green, c_.Blue, c_.Alpha] (4 : Int), eB b1 [vU c_.Red, vU c_.Green, vU c_.Blue, vU c_.Alpha], Ent.tab 0 (Lib.pow10Tab.map fun z => Value.int .u64 z), gE5] _ := hS.sel [0, 2, 3, 4, 5] rfl
    refine w_reg [] [4, 22, 23, 24] [(4, [], vL g43 q40), (22, [], .slice (some ⟨b8, 0, none⟩) 3 4), (23, [], vI (3 : Int)), (24, [], vI (w64 (v24 + 1)))] [] H45 (by kernel_rfl) trivial fun _ wd46 H47 hb => ?_
    clear H45
    replace hS := hS.below hb
    clear hb
    exact ⟨_, Nat.lt_succ_self _, q40, w64 (v24 + 1), g43, hm, FrG.keep (ks := [22, 23, 4, 24]) H47 (by kernel_rfl), hS⟩
  ·rintro _ wd57 ⟨g50, H, hS⟩
   obtain ⟨y52, hy52, hm⟩ := bindE hm
   obtain ⟨ho53, hm⟩ := chkE hm
   obtain ⟨ho54, hm⟩ := chkE hm
   refine s_reg [(vS y52)] [2] [(2, [], .string ⟨⟨([114, 103, 98, 40] ++ y52) ++ [41]⟩⟩)] [fun wz => RetB Tryz.prog 29 ⟨[vL g50 z18, vS [44, 32]]⟩ (vS y52) wz, fun _ => ln [114, 103, 98, 40] + ln y52 ≤ 9223372036854775807, fun _ => ln ([114, 103, 98, 40] ++ y52) + ln [41] ≤ 9223372036854775807] H (by kernel_rfl) ⟨(strings_Join_ok (g_elems := g50) m _ _ _ hy52 _ (s0im s0nil (hS.osl 0 rfl))), ho53, ho54, trivial⟩ fun _ wd55 H56 hb => ?_
   clear H
   replace hS := hS.below hb
   clear hb
   replace hS : SH M X w [Ent.row .u8 b8 [c_.Red, c_.Green, c_.Blue, c_.Alpha] (4 : Int), eB b1 [vU c_.Red, vU c_.Green, vU c_.Blue, vU c_.Alpha], Ent.tab 0 (Lib.pow10Tab.map fun z => Value.int .u64 z), gE5] _ := hS.sel [1, 2, 3, 4] rfl
   refine w_ret ?_
   obtain rfl := someE hm
   have hm := hm_z13
   obtain rfl := someE hm
   exact retR1 H56 rfl rfl ⟨_, rfl, rfl, (hS.sel [] rfl)⟩
 ·rintro _ wd84 ⟨s_z13, hz, H, hS⟩
  subst hz
  replace hm := sumR hm_z13
  replace hS : SH M X w [eB b8 [vU c_.Red, vU c_.Green, vU c_.Blue, vU c_.Alpha], Ent.tab 0 (Lib.pow10Tab.map fun z => Value.int .u64 z), gE5] _ := hS.sel [0, 2, 3] rfl
  refine s_reg [] [3, 7] [(3, [], vP b8), (7, [], vS [35])] [] H (by kernel_rfl) trivial fun _ wd59 H60 hb => ?_
  clear H
  replace hS := hS.below hb
  clear hb
  obtain ⟨z61, hz, hm⟩ := bindE hm
  refine w_cut (fun a' w' => Fr 52 [(7, [], vS z61)] a' ∧ SH M X w [eB b8 [vU c_.Red, vU c_.Green, vU c_.Blue, vU c_.Alpha], Ent.tab 0 (Lib.pow10Tab.map fun z => Value.int .u64 z), gE5] w') ?_ ?_
  ·replace hm := hz
   refine s_reg [(.agg ⟨[vU c_.Red, vU c_.Green, vU c_.Blue, vU c_.Alpha]⟩)] [7, 39, 40] [(7, [], vS [35]), (39, [], .agg ⟨[vU c_.Red, vU c_.Green, vU c_.Blue, vU c_.Alpha]⟩), (40, [], vI 0)] [fun wz => V.atN b8 0 [vU c_.Red, vU c_.Green, vU c_.Blue, vU c_.Alpha] 0 wz] H60 (by kernel_rfl) ⟨((hS.bk 0 rfl).atD rfl), trivial⟩ fun _ wd62 H63 hb => ?_
   clear H60
   replace hS := hS.below hb
   clear hb
   refine w_block ?_
   refine w_loop (fun kk a' w' => ∃ (v64 : Str) (v65 : Int), parseval_Shown_L2 m c_ kk v64 v65 = some _ ∧ Fr 52 [(39, [], .agg ⟨[vU c_.Red, vU c_.Green, vU c_.Blue, vU c_.Alpha]⟩), (7, [], vS v64), (40, [], vI v65)] a' ∧ SH M X w [eB b8 [vU c_.Red, vU c_.Green, vU c_.Blue, vU c_.Alpha], Ent.tab 0 (Lib.pow10Tab.map fun z => Value.int .u64 z), gE5] w') ⟨_, [35], 0, hm, FrG.keep (ks := [39, 7, 40]) H63 (by kernel_rfl), hS⟩ ?_
   clear hm H63 hS
   rintro kk _ wd80 ⟨v64, v65, hm, H, hS⟩
   cases kk with
   | zero => exact noneE hm
   | succ kk =>
    rw [parseval_Shown_L2] at hm
    refine s_reg [] [7, 39, 40, 41] [(7, [], vS v64), (39, [], .agg ⟨[vU c_.Red, vU c_.Green, vU c_.Blue, vU c_.Alpha]⟩), (40, [], vI v65), (41, [], .bool (decide (v65 < 4)))] [] H (by kernel_rfl) trivial fun _ wd66 H67 hb => ?_
    clear H
    replace hS := hS.below hb
    clear hb
    refine w_seq ?_
    refine w_if H67 rfl (fun hc => ?_) (fun hc => ?c79)
    case c79 =>
     replace hm := bF hc hm
     refine w_exit rfl ?_
     obtain rfl := someE hm
     exact ⟨FrG.keep (ks := [7]) H67 (by kernel_rfl), hS⟩
    replace hm := bT hc hm
    refine w_skip ?_
    refine w_seq ?_
    refine w_block ?_
    obtain ⟨ho68, hm⟩ := chkE hm
    obtain ⟨x69, hx69, hm⟩ := letE hm
    refine s_reg [] [7, 9, 39, 40] [(7, [], vS v64), (9, [], vU x69), (39, [], .agg ⟨[vU c_.Red, vU c_.Green, vU c_.Blue, vU c_.Alpha]⟩), (40, [], vI v65)] [fun _ => 0 ≤ v65 ∧ v65 < (4 : Int)] H67 (by subst hx69; kernel_rfl) ⟨ho68, trivial⟩ fun _ wd70 H71 hb => ?_
    clear H67
    replace hS := hS.below hb
    clear hb
    obtain ⟨y72, hy72, hm⟩ := bindE hm
    obtain ⟨ho73, hm⟩ := chkE hm
    obtain ⟨ho74, hm⟩ := chkE hm
    refine w_reg [(vS y72)] [7, 39, 40] [(7, [], .string ⟨⟨v64 ++ (sub y72 1 (ln y72))⟩⟩), (39, [], .agg ⟨[vU c_.Red, vU c_.Green, vU c_.Blue, vU c_.Alpha]⟩), (40, [], vI v65)] [fun wz => RetB Tryz.prog 30 ⟨[vI (w64 (256 + (w64 x69))), vI 16]⟩ (vS y72) wz, fun _ => 0 ≤ (1 : Int) ∧ (1 : Int) ≤ ln y72, fun _ => ln v64 + ln (sub y72 1 (ln y72)) ≤ 9223372036854775807] H71 (by kernel_rfl) ⟨(strconv_FormatInt_ok m _ _ hy72 _ (s0im s0nil (hS.im 2 rfl))), ho73, ho74, trivial⟩ fun _ wd75 H76 hb => ?_
    clear H71
    replace hS := hS.below hb
    clear hb
    refine w_reg [] [7, 39, 40] [(7, [], .string ⟨⟨v64 ++ (sub y72 1 (ln y72))⟩⟩), (39, [], .agg ⟨[vU c_.Red, vU c_.Green, vU c_.Blue, vU c_.Alpha]⟩), (40, [], vI (w64 (v65 + 1)))] [] H76 (by kernel_rfl) trivial fun _ wd77 H78 hb => ?_
    clear H76
    replace hS := hS.below hb
    clear hb
    exact ⟨_, Nat.lt_succ_self _, v64 ++ (sub y72 1 (ln y72)), w64 (v65 + 1), hm, FrG.keep (ks := [39, 7, 40]) H78 (by kernel_rfl), hS⟩
  ·rintro _ wd83 ⟨H, hS⟩
   replace hS : SH M X w [Ent.tab 0 (Lib.pow10Tab.map fun z => Value.int .u64 z), gE5] _ := hS.sel [1, 2] rfl
   refine s_reg [] [2] [(2, [], vS z61)] [] H (by kernel_rfl) trivial fun _ wd81 H82 hb => ?_
   clear H
   replace hS := hS.below hb
   clear hb
   refine w_ret ?_
   obtain rfl := someE hm
   exact retR1 H82 rfl rfl ⟨_, rfl, rfl, (hS.sel [] rfl)⟩
theorem parseval_Shown_ok  (m : Nat) (c_ : TColor) (r : Str) (hm : parseval_Shown m c_ = some r) (w : World) (hL : S0 F0 [Ent.tab 0 (Lib.pow10Tab.map fun z => Value.int .u64 z), gE5] w ∧ fpl [Ent.tab 0 (Lib.pow10Tab.map fun z => Value.int .u64 z), gE5] = []) : RetB Tryz.prog 13 ⟨[.agg ⟨[vU c_.Red, vU c_.Green, vU c_.Blue, vU c_.Alpha]⟩]⟩ (vS r) w := retB_of hL (Tryz.call13 _) (fun w' h => parseval_Shown_w F0 m   c_ r hm w' h)

def x_strings_TrimRight (x0 : Str) (x1 : Str) : Option Str := chk (ascB x1 = true ∧ x1.length < 4294967281 ∧ x0.length ≤ 9223372036854775807) (some (Lib.trimRightS x0 x1))
theorem x_strings_TrimRight_ok (x0 : Str) (x1 : Str) (r : Str) (hm : x_strings_TrimRight x0 x1 = some r) (w : World) : RetB Tryz.prog 55 ⟨[vS x0, vS x1]⟩ (vS r) w := by
  obtain ⟨h, hm⟩ := chkE hm
  obtain rfl := someE hm
  exact .inl ⟨Tryz.call55 _, fun w' _ => (Any.strings_TrimRight_laid Tryz.lays162 (by kernel_rfl) ⟨⟨x0⟩⟩ ⟨⟨x1⟩⟩ w' h.2.2 h.2.1 (ascB_get h.1)).mono fun e w'' he => ⟨he.1, he.2⟩⟩

def parseval_number (n_ : Int) : Option (Str) :=
  Option.bind (
  cond (decide (n_ < 0)) (
  some (w64 (0 - n_), [45])) (
  some (n_, []))) fun (z5 : Int × Str) =>
  Option.bind (x_FormatInt10 (w64 (Int.tdiv z5.1 1000))) fun y11 =>
  Option.bind (
  cond (decide (0 < (Int.tmod z5.1 1000))) (
  Option.bind (x_FormatInt10 (w64 (1000 + (Int.tmod z5.1 1000)))) fun y19 =>
  chk (0 ≤ (1 : Int) ∧ (1 : Int) ≤ ln y19) <|
  Option.bind (x_strings_TrimRight (sub y19 1 (ln y19)) [48]) fun y21 =>
  chk (ln [46] + ln y21 ≤ 9223372036854775807) <|
  chk (ln y11 + ln ([46] ++ y21) ≤ 9223372036854775807) <|
  some (y11 ++ ([46] ++ y21))) (
  some y11)) fun (z14 : Str) =>
  chk (ln z5.2 + ln z14 ≤ 9223372036854775807) <|
  some (z5.2 ++ z14)
theorem parseval_number_w  (M : Av) (n_ : Int) (r : Str) (hm : parseval_number n_ = some r) (w : World) (hS : S0 M [Ent.tab 0 (Lib.pow10Tab.map fun z => Value.int .u64 z)] w) : Calls Tryz.prog 35 ⟨[vI n_]⟩ w (fun e w' => ∃ v, e = .returned v ∧ v = vS r ∧ SH M (fpl [Ent.tab 0 (Lib.pow10Tab.map fun z => Value.int .u64 z)]) w [] w') := by
 rw [parseval_number] at hm
 have hS0 : SH M (fpl [Ent.tab 0 (Lib.pow10Tab.map fun z => Value.int .u64 z)]) w [Ent.tab 0 (Lib.pow10Tab.map fun z => Value.int .u64 z)] w := hS
 generalize hX : fpl [Ent.tab 0 (Lib.pow10Tab.map fun z => Value.int .u64 z)] = X at hS0 ⊢
 clear hS hX
 have hS := hS0
 clear hS0
 refine calls_entryP Tryz.func35 rfl Tryz.ntmps35 rfl fun _ H => ?_
 refine s_reg [] [0] [(0, [], vI n_)] [] H (by kernel_rfl) trivial fun _ wd1 H2 hb => ?_
 clear H
 replace hS := hS.below hb
 clear hb
 refine s_reg [] [0, 3] [(0, [], vI n_), (3, [], vN)] [] H2 (by kernel_rfl) trivial fun _ wd3 H4 hb => ?_
 clear H2
 replace hS := hS.below hb
 clear hb
 obtain ⟨z5, hz, hm⟩ := bindE hm
 refine w_cut (fun a' w' => Fr 28 [(0, [], vI z5.1), (3, [], .string ⟨⟨z5.2⟩⟩)] a' ∧ SH M X w [Ent.tab 0 (Lib.pow10Tab.map fun z => Value.int .u64 z)] w') ?_ ?_
 ·replace hm := hz
  refine s_reg [] [0, 3, 7] [(0, [], vI n_), (3, [], vN), (7, [], .bool (decide (n_ < 0)))] [] H4 (by kernel_rfl) trivial fun _ wd6 H7 hb => ?_
  clear H4
  replace hS := hS.below hb
  clear hb
  refine w_if H7 rfl (fun hc => ?_) (fun hc => ?c10)
  case c10 =>
   replace hm := bF hc hm
   refine w_skip ?_
   obtain rfl := someE hm
   exact ⟨FrG.keep (ks := [0, 3]) H7 (by kernel_rfl), hS⟩
  replace hm := bT hc hm
  refine w_reg [] [0, 3] [(0, [], vI (w64 (0 - n_))), (3, [], vS [45])] [] H7 (by kernel_rfl) trivial fun _ wd8 H9 hb => ?_
  clear H7
  replace hS := hS.below hb
  clear hb
  obtain rfl := someE hm
  exact ⟨FrG.keep (ks := [0, 3]) H9 (by kernel_rfl), hS⟩
 ·rintro _ wd31 ⟨H, hS⟩
  obtain ⟨y11, hy11, hm⟩ := bindE hm
  refine s_reg [(vS y11)] [0, 3, 4] [(0, [], vI z5.1), (3, [], .string ⟨⟨z5.2⟩⟩), (4, [], vS y11)] [fun _ => (1000 : Int) ≠ 0, fun wz => RetB Tryz.prog 30 ⟨[vI (w64 (Int.tdiv z5.1 1000)), vI 10]⟩ (vS y11) wz] H (by kernel_rfl) ⟨(by show (1000 : Int) ≠ 0; decide), (x_FormatInt10_ok _ _ hy11 _ (s0tab s0nil (hS.at 0 rfl))), trivial⟩ fun _ wd12 H13 hb => ?_
  clear H
  replace hS := hS.below hb
  clear hb
  obtain ⟨z14, hz, hm⟩ := bindE hm
  refine w_cut (fun a' w' => Fr 28 [(3, [], .string ⟨⟨z5.2⟩⟩), (4, [], vS z14)] a' ∧ SH M X w [Ent.tab 0 (Lib.pow10Tab.map fun z => Value.int .u64 z)] w') ?_ ?_
  ·replace hm := hz
   refine s_reg [] [3, 4, 5] [(3, [], .string ⟨⟨z5.2⟩⟩), (4, [], vS y11), (5, [], vI (Int.tmod z5.1 1000))] [fun _ => (1000 : Int) ≠ 0] H13 (by kernel_rfl) ⟨(by show (1000 : Int) ≠ 0; decide), trivial⟩ fun _ wd15 H16 hb => ?_
   clear H13
   replace hS := hS.below hb
   clear hb
   refine s_reg [] [3, 4, 5, 16] [(3, [], .string ⟨⟨z5.2⟩⟩), (4, [], vS y11), (5, [], vI (Int.tmod z5.1 1000)), (16, [], .bool (decide (0 < (Int.tmod z5.1 1000))))] [] H16 (by kernel_rfl) trivial fun _ wd17 H18 hb => ?_
   clear H16
   replace hS := hS.below hb
   clear hb
   refine w_if H18 rfl (fun hc => ?_) (fun hc => ?c26)
   case c26 =>
    replace hm := bF hc hm
    refine w_skip ?_
    obtain rfl := someE hm
    exact ⟨FrG.keep (ks := [3, 4]) H18 (by kernel_rfl), hS⟩
   replace hm := bT hc hm
   obtain ⟨y19, hy19, hm⟩ := bindE hm
   obtain ⟨ho20, hm⟩ := chkE hm
   obtain ⟨y21, hy21, hm⟩ := bindE hm
   obtain ⟨ho22, hm⟩ := chkE hm
   obtain ⟨ho23, hm⟩ := chkE hm
   refine w_reg [(vS y19), (vS y21)] [3, 4] [(3, [], .string ⟨⟨z5.2⟩⟩), (4, [], .string ⟨⟨y11 ++ ([46] ++ y21)⟩⟩)] [fun wz => RetB Tryz.prog 30 ⟨[vI (w64 (1000 + (Int.tmod z5.1 1000))), vI 10]⟩ (vS y19) wz, fun _ => 0 ≤ (1 : Int) ∧ (1 : Int) ≤ ln y19, fun wz => RetB Tryz.prog 55 ⟨[.string ⟨⟨sub y19 1 (ln y19)⟩⟩, vS [48]]⟩ (vS y21) wz, fun _ => ln [46] + ln y21 ≤ 9223372036854775807, fun _ => ln y11 + ln ([46] ++ y21) ≤ 9223372036854775807] H18 (by kernel_rfl) ⟨(x_FormatInt10_ok _ _ hy19 _ (s0tab s0nil (hS.at 0 rfl))), ho20, (x_strings_TrimRight_ok _ _ _ hy21 _), ho22, ho23, trivial⟩ fun _ wd24 H25 hb => ?_
   clear H18
   replace hS := hS.below hb
   clear hb
   obtain rfl := someE hm
   exact ⟨FrG.keep (ks := [3, 4]) H25 (by kernel_rfl), hS⟩
  ·rintro _ wd30 ⟨H, hS⟩
   obtain ⟨ho27, hm⟩ := chkE hm
   refine s_reg [] [2] [(2, [], .string ⟨⟨z5.2 ++ z14⟩⟩)] [fun _ => ln z5.2 + ln z14 ≤ 9223372036854775807] H (by kernel_rfl) ⟨ho27, trivial⟩ fun _ wd28 H29 hb => ?_
   clear H
   replace hS := hS.below hb
   clear hb
   refine w_ret ?_
   obtain rfl := someE hm
   exact retR1 H29 rfl rfl ⟨_, rfl, rfl, (hS.sel [] rfl)⟩
theorem parseval_number_ok  (n_ : Int) (r : Str) (hm : parseval_number n_ = some r) (w : World) (hL : S0 F0 [Ent.tab 0 (Lib.pow10Tab.map fun z => Value.int .u64 z)] w ∧ fpl [Ent.tab 0 (Lib.pow10Tab.map fun z => Value.int .u64 z)] = []) : RetB Tryz.prog 35 ⟨[vI n_]⟩ (vS r) w := retB_of hL (Tryz.call35 _) (fun w' h => parseval_number_w F0   n_ r hm w' h)

def parseval_Write (m : Nat) (v_ : TVal) : Option (Str × Int) :=
  Option.bind (props_Check v_) fun y6 =>
  cond (y6 != 0) (
  some ([], y6)) (
  Option.bind (
  Option.bind (
  cond (v_.Kind == 1) (
  some (.inl (.inl (v_.Word, 0)))) (
  cond (v_.Kind == 7) (
  Option.bind (parseval_Shown m v_.Color) fun y25 =>
  some (.inl (.inl (y25, 0)))) (
  cond (v_.Kind == 8) (
  some (.inl (.inl ([99, 117, 114, 114, 101, 110, 116, 99, 111, 108, 111, 114], 0)))) (
  cond (v_.Kind == 4) (
  some (.inr [114])) (
  cond (v_.Kind == 3) (
  some (.inr [])) (
  cond (v_.Kind == 2) (
  Option.bind (
  some (.inr ([112, 120], v_.Num))) fun r42 => some (.inl r42)) (
  cond (v_.Kind == 6) (
  Option.bind (
  some (.inr ([], w64 (v_.Num * 1000)))) fun r49 => some (.inl r49)) (
  Option.bind (
  some (.inr ([], v_.Num))) fun r50 => some (.inl r50))))))))) fun (z18 : Sum (Sum (Str × Int) (Str × Int)) (Str)) => sumK z18 fun s_z18 =>
  chk (ln s_z18 + ln [101, 109] ≤ 9223372036854775807) <|
  some (.inr (s_z18 ++ [101, 109], v_.Num))) fun (z15 : Sum (Str × Int) (Str × Int)) => sumK z15 fun s_z15 =>
  Option.bind (parseval_number s_z15.2) fun y62 =>
  chk (ln y62 + ln s_z15.1 ≤ 9223372036854775807) <|
  some (y62 ++ s_z15.1, 0))
theorem parseval_Write_w  (M : Av) (m : Nat) (v_ : TVal) (r : Str × Int) (hm : parseval_Write m v_ = some r) (w : World) (hS : S0 M [Ent.tab 0 (Lib.pow10Tab.map fun z => Value.int .u64 z), gE5] w) : Calls Tryz.prog 21 ⟨[.agg ⟨[vU v_.Kind, .string ⟨⟨v_.Word⟩⟩, vI v_.Num, vU v_.Color.Red, vU v_.Color.Green, vU v_.Color.Blue, vU v_.Color.Alpha]⟩]⟩ w (fun e w' => ∃ v, e = .returned v ∧ v = .tuple ⟨[.string ⟨⟨r.1⟩⟩, vI r.2]⟩ ∧ SH M (fpl [Ent.tab 0 (Lib.pow10Tab.map fun z => Value.int .u64 z), gE5]) w [] w') := by
 rw [parseval_Write] at hm
 have hS0 : SH M (fpl [Ent.tab 0 (Lib.pow10Tab.map fun z => Value.int .u64 z), gE5]) w [Ent.tab 0 (Lib.pow10Tab.map fun z => Value.int .u64 z), gE5] w := hS
 generalize hX : fpl [Ent.tab 0 (Lib.pow10Tab.map fun z => Value.int .u64 z), gE5] = X at hS0 ⊢
 clear hS hX
 have hS := hS0
 clear hS0
 refine calls_entryP Tryz.func21 rfl Tryz.ntmps21 rfl fun _ H => ?_
 refine w_seq ?_
 refine wl_start ?_
 have hd := hS.hand [] [0, 1] rfl rfl
 refine m_stp [1] [] H rfl rfl rfl rfl (o_box [vU v_.Kind, .string ⟨⟨v_.Word⟩⟩, vI v_.Num, vU v_.Color.Red, vU v_.Color.Green, vU v_.Color.Blue, vU v_.Color.Alpha] H hd rfl rfl) (fun _ => rfl) fun _ wd2 v H3 hq => ?_
 clear H hd
 obtain ⟨b1, rfl, hq⟩ := hq
 replace hS : SH M X w [eB b1 [vU v_.Kind, .string ⟨⟨v_.Word⟩⟩, vI v_.Num, vU v_.Color.Red, vU v_.Color.Green, vU v_.Color.Blue, vU v_.Color.Alpha], Ent.tab 0 (Lib.pow10Tab.map fun z => Value.int .u64 z), gE5] _ := hS.join [] [0, 1] rfl rfl hq
 clear hq
 refine wl_batch 1 3 [] [1] [(1, [], vP b1)] [] H3 (by decide) (by kernel_rfl) trivial fun _ wd4 H5 hb => ?_
 clear H3
 replace hS := hS.below hb
 clear hb
 refine wl_end rfl ?_
 refine w_seq ?_
 obtain ⟨y6, hy6, hm⟩ := bindE hm
 refine s_reg [(.agg ⟨[vU v_.Kind, .string ⟨⟨v_.Word⟩⟩, vI v_.Num, vU v_.Color.Red, vU v_.Color.Green, vU v_.Color.Blue, vU v_.Color.Alpha]⟩), (vI y6)] [1, 4] [(1, [], vP b1), (4, [], vI y6)] [fun wz => V.atN b1 0 [vU v_.Kind, .string ⟨⟨v_.Word⟩⟩, vI v_.Num, vU v_.Color.Red, vU v_.Color.Green, vU v_.Color.Blue, vU v_.Color.Alpha] 0 wz, fun wz => RetB Tryz.prog 34 ⟨[.agg ⟨[vU v_.Kind, .string ⟨⟨v_.Word⟩⟩, vI v_.Num, vU v_.Color.Red, vU v_.Color.Green, vU v_.Color.Blue, vU v_.Color.Alpha]⟩]⟩ (vI y6) wz] H5 (by kernel_rfl) ⟨((hS.bk 0 rfl).atD rfl), ((props_Check_ok _ _ hy6).b), trivial⟩ fun _ wd7 H8 hb => ?_
 clear H5
 replace hS := hS.below hb
 clear hb
 refine s_reg [] [1, 4, 9] [(1, [], vP b1), (4, [], vI y6), (9, [], .bool (y6 != 0))] [] H8 (by kernel_rfl) trivial fun _ wd9 H10 hb => ?_
 clear H8
 replace hS := hS.below hb
 clear hb
 refine w_if H10 rfl (fun hc => ?c67) (fun hc => ?_)
 case c67 =>
  replace hm := bT hc hm
  refine s_reg [] [2, 3] [(2, [], vN), (3, [], vI y6)] [] H10 (by kernel_rfl) trivial fun _ wd11 H12 hb => ?_
  clear H10
  replace hS := hS.below hb
  clear hb
  replace hS : SH M X w [Ent.tab 0 (Lib.pow10Tab.map fun z => Value.int .u64 z), gE5] _ := hS.sel [1, 2] rfl
  refine w_ret ?_
  obtain rfl := someE hm
  exact retR2 H12 rfl rfl rfl ⟨_, rfl, rfl, (hS.sel [] rfl)⟩
 replace hm := bF hc hm
 refine w_skip ?_
 refine s_reg [] [1, 5] [(1, [], vP b1), (5, [], vN)] [] H10 (by kernel_rfl) trivial fun _ wd13 H14 hb => ?_
 clear H10
 replace hS := hS.below hb
 clear hb
 obtain ⟨z15, hz, hm_z15⟩ := bindE hm
 refine w_cut (fun a' w' => ∃ s_z15 : Str × Int, z15 = Sum.inr s_z15 ∧ Fr 43 [(1, [], vP b1), (5, [], .string ⟨⟨s_z15.1⟩⟩)] a' ∧ SH M X w [eB b1 [vU v_.Kind, .string ⟨⟨v_.Word⟩⟩, vI s_z15.2, vU v_.Color.Red, vU v_.Color.Green, vU v_.Color.Blue, vU v_.Color.Alpha], Ent.tab 0 (Lib.pow10Tab.map fun z => Value.int .u64 z), gE5] w') ?_ ?_
 ·replace hm := hz
  refine s_reg [(vU v_.Kind)] [1, 5, 12] [(1, [], vP b1), (5, [], vN), (12, [], vU v_.Kind)] [fun wz => V.at1 ⟨b1, 0, none⟩ (vU v_.Kind) wz] H14 (by kernel_rfl) ⟨((hS.bk 0 rfl).at1 rfl), trivial⟩ fun _ wd16 H17 hb => ?_
  clear H14
  replace hS := hS.below hb
  clear hb
  refine w_block ?_
  refine w_seq ?_
  refine w_block ?_
  refine w_seq ?_
  refine w_block ?_
  obtain ⟨z18, hz, hm_z18⟩ := bindE hm
  refine w_cut (fun a' w' => ∃ s_z18 : Str, z18 = Sum.inr s_z18 ∧ Fr 43 [(1, [], vP b1), (5, [], vS s_z18)] a' ∧ SH M X w [eB b1 [vU v_.Kind, .string ⟨⟨v_.Word⟩⟩, vI v_.Num, vU v_.Color.Red, vU v_.Color.Green, vU v_.Color.Blue, vU v_.Color.Alpha], Ent.tab 0 (Lib.pow10Tab.map fun z => Value.int .u64 z), gE5] w') ?_ ?_
  ·replace hm := hz
   refine w_block ?_
   refine w_seq ?_
   refine w_block ?_
   refine w_seq ?_
   refine w_block ?_
   refine w_seq ?_
   refine w_block ?_
   refine w_seq ?_
   refine w_block ?_
   refine w_seq ?_
   refine w_seq ?_
   refine s_reg [] [1, 5, 12, 13] [(1, [], vP b1), (5, [], vN), (12, [], vU v_.Kind), (13, [], .bool (v_.Kind == 1))] [] H17 (by kernel_rfl) trivial fun _ wd19 H20 hb => ?_
   clear H17
   replace hS := hS.below hb
   clear hb
   refine w_if H20 rfl (fun hc => ?c57) (fun hc => ?_)
   case c57 =>
    replace hm := bT hc hm
    refine w_exit rfl ?_
    refine w_seq ?_
    refine s_reg [(.string ⟨⟨v_.Word⟩⟩)] [2, 3] [(2, [], .string ⟨⟨v_.Word⟩⟩), (3, [], vI 0)] [fun wz => V.at1 ⟨b1, 1, none⟩ (.string ⟨⟨v_.Word⟩⟩) wz] H20 (by kernel_rfl) ⟨((hS.bk 0 rfl).at1 rfl), trivial⟩ fun _ wd21 H22 hb => ?_
    clear H20
    replace hS := hS.below hb
    clear hb
    refine w_ret ?_
    obtain rfl := someE hm
    have hm := hm_z18
    obtain rfl := someE hm
    have hm := hm_z15
    obtain rfl := someE hm
    exact retR2 H22 rfl rfl rfl ⟨_, rfl, rfl, (hS.sel [] rfl)⟩
   replace hm := bF hc hm
   refine w_skip ?_
   refine w_seq ?_
   refine s_reg [] [1, 5, 12, 15] [(1, [], vP b1), (5, [], vN), (12, [], vU v_.Kind), (15, [], .bool (v_.Kind == 7))] [] H20 (by kernel_rfl) trivial fun _ wd23 H24 hb => ?_
   clear H20
   replace hS := hS.below hb
   clear hb
   refine w_if H24 rfl (fun hc => ?c56) (fun hc => ?_)
   case c56 =>
    replace hm := bT hc hm
    refine w_exit rfl ?_
    refine w_seq ?_
    obtain ⟨y25, hy25, hm⟩ := bindE hm
    refine s_reg [(.agg ⟨[vU v_.Color.Red, vU v_.Color.Green, vU v_.Color.Blue, vU v_.Color.Alpha]⟩), (vS y25)] [2, 3] [(2, [], vS y25), (3, [], vI 0)] [fun wz => V.atN b1 3 [vU v_.Color.Red, vU v_.Color.Green, vU v_.Color.Blue, vU v_.Color.Alpha] 0 wz, fun wz => RetB Tryz.prog 13 ⟨[.agg ⟨[vU v_.Color.Red, vU v_.Color.Green, vU v_.Color.Blue, vU v_.Color.Alpha]⟩]⟩ (vS y25) wz] H24 (by kernel_rfl) ⟨((hS.bk 0 rfl).atD rfl), (parseval_Shown_ok m _ _ hy25 _ (s0tab (s0im s0nil (hS.im 2 rfl)) (hS.at 1 rfl))), trivial⟩ fun _ wd26 H27 hb => ?_
    clear H24
    replace hS := hS.below hb
    clear hb
    refine w_ret ?_
    obtain rfl := someE hm
    have hm := hm_z18
    obtain rfl := someE hm
    have hm := hm_z15
    obtain rfl := someE hm
    exact retR2 H27 rfl rfl rfl ⟨_, rfl, rfl, (hS.sel [] rfl)⟩
   replace hm := bF hc hm
   refine w_skip ?_
   refine w_seq ?_
   refine s_reg [] [1, 5, 12, 17] [(1, [], vP b1), (5, [], vN), (12, [], vU v_.Kind), (17, [], .bool (v_.Kind == 8))] [] H24 (by kernel_rfl) trivial fun _ wd28 H29 hb => ?_
   clear H24
   replace hS := hS.below hb
   clear hb
   refine w_if H29 rfl (fun hc => ?c55) (fun hc => ?_)
   case c55 =>
    replace hm := bT hc hm
    refine w_exit rfl ?_
    refine w_seq ?_
    refine s_reg [] [2, 3] [(2, [], vS [99, 117, 114, 114, 101, 110, 116, 99, 111, 108, 111, 114]), (3, [], vI 0)] [] H29 (by kernel_rfl) trivial fun _ wd30 H31 hb => ?_
    clear H29
    replace hS := hS.below hb
    clear hb
    refine w_ret ?_
    obtain rfl := someE hm
    have hm := hm_z18
    obtain rfl := someE hm
    have hm := hm_z15
    obtain rfl := someE hm
    exact retR2 H31 rfl rfl rfl ⟨_, rfl, rfl, (hS.sel [] rfl)⟩
   replace hm := bF hc hm
   refine w_skip ?_
   refine w_seq ?_
   refine s_reg [] [1, 5, 12, 19] [(1, [], vP b1), (5, [], vN), (12, [], vU v_.Kind), (19, [], .bool (v_.Kind == 4))] [] H29 (by kernel_rfl) trivial fun _ wd32 H33 hb => ?_
   clear H29
   replace hS := hS.below hb
   clear hb
   refine w_if H33 rfl (fun hc => ?c54) (fun hc => ?_)
   case c54 =>
    replace hm := bT hc hm
    refine w_exit rfl ?_
    refine w_reg [] [1, 5] [(1, [], vP b1), (5, [], vS [114])] [] H33 (by kernel_rfl) trivial fun _ wd34 H35 hb => ?_
    clear H33
    replace hS := hS.below hb
    clear hb
    obtain rfl := someE hm
    exact ⟨_, rfl, FrG.keep (ks := [1, 5]) H35 (by kernel_rfl), hS⟩
   replace hm := bF hc hm
   refine w_skip ?_
   refine w_seq ?_
   refine s_reg [] [1, 5, 12, 21] [(1, [], vP b1), (5, [], vN), (12, [], vU v_.Kind), (21, [], .bool (v_.Kind == 3))] [] H33 (by kernel_rfl) trivial fun _ wd36 H37 hb => ?_
   clear H33
   replace hS := hS.below hb
   clear hb
   refine w_if H37 rfl (fun hc => ?c53) (fun hc => ?_)
   case c53 =>
    replace hm := bT hc hm
    refine w_exit rfl ?_
    obtain rfl := someE hm
    exact ⟨_, rfl, FrG.keep (ks := [1, 5]) H37 (by kernel_rfl), hS⟩
   replace hm := bF hc hm
   refine w_skip ?_
   refine w_seq ?_
   refine s_reg [] [1, 5, 12, 23] [(1, [], vP b1), (5, [], vN), (12, [], vU v_.Kind), (23, [], .bool (v_.Kind == 2))] [] H37 (by kernel_rfl) trivial fun _ wd38 H39 hb => ?_
   clear H37
   replace hS := hS.below hb
   clear hb
   refine w_if H39 rfl (fun hc => ?c52) (fun hc => ?_)
   case c52 =>
    replace hm := bT hc hm
    refine w_exit rfl ?_
    obtain ⟨r42, hr_r42, hm⟩ := bindE hm
    obtain rfl := someE hm
    have hm := hm_z18
    obtain rfl := someE hm
    have hm := hr_r42
    clear hr_r42
    refine s_reg [] [1, 5] [(1, [], vP b1), (5, [], vS [112, 120])] [] H39 (by kernel_rfl) trivial fun _ wd40 H41 hb => ?_
    clear H39
    replace hS := hS.below hb
    clear hb
    refine w_exit rfl ?_
    obtain rfl := someE hm
    exact ⟨_, rfl, FrG.keep (ks := [1, 5]) H41 (by kernel_rfl), hS⟩
   replace hm := bF hc hm
   refine w_skip ?_
   refine s_reg [] [1, 5, 25] [(1, [], vP b1), (5, [], vN), (25, [], .bool (v_.Kind == 6))] [] H39 (by kernel_rfl) trivial fun _ wd43 H44 hb => ?_
   clear H39
   replace hS := hS.below hb
   clear hb
   refine w_if H44 rfl (fun hc => ?_) (fun hc => ?c51)
   case c51 =>
    replace hm := bF hc hm
    refine w_skip ?_
    refine w_exit rfl ?_
    obtain ⟨r50, hr_r50, hm⟩ := bindE hm
    obtain rfl := someE hm
    have hm := hm_z18
    obtain rfl := someE hm
    have hm := hr_r50
    clear hr_r50
    obtain rfl := someE hm
    exact ⟨_, rfl, FrG.keep (ks := [1, 5]) H44 (by kernel_rfl), hS⟩
   replace hm := bT hc hm
   refine w_exit rfl ?_
   obtain ⟨r49, hr_r49, hm⟩ := bindE hm
   obtain rfl := someE hm
   have hm := hm_z18
   obtain rfl := someE hm
   have hm := hr_r49
   clear hr_r49
   refine w_seq ?_
   refine wl_start ?_
   refine wl_batch 0 4 [(vI v_.Num)] [1, 5, 36, 37] [(1, [], vP b1), (5, [], vN), (36, [], vI (w64 (v_.Num * 1000))), (37, [], vA b1 2)] [fun wz => V.at1 ⟨b1, 2, none⟩ (vI v_.Num) wz] H44 (by decide) (by kernel_rfl) ⟨((hS.bk 0 rfl).at1 rfl), trivial⟩ fun _ wd45 H46 hb => ?_
   clear H44
   replace hS := hS.below hb
   clear hb
   have hd := hS.hand [0] [1, 2] rfl rfl
   refine m_stp0 [1, 5] [(1, [], vP b1), (5, [], vN)] H46 rfl rfl rfl (o_store [vU v_.Kind, .string ⟨⟨v_.Word⟩⟩, vI (w64 (v_.Num * 1000)), vU v_.Color.Red, vU v_.Color.Green, vU v_.Color.Blue, vU v_.Color.Alpha] H46 hd rfl rfl (by kernel_rfl) rfl rfl rfl) rfl fun _ wd47 H48 hq => ?_
   clear H46 hd
   obtain ⟨_, hq⟩ := hq
   replace hS : SH M X w [eB b1 [vU v_.Kind, .string ⟨⟨v_.Word⟩⟩, vI (w64 (v_.Num * 1000)), vU v_.Color.Red, vU v_.Color.Green, vU v_.Color.Blue, vU v_.Color.Alpha], Ent.tab 0 (Lib.pow10Tab.map fun z => Value.int .u64 z), gE5] _ := hS.join [0] [1, 2] rfl rfl hq
   clear hq
   refine wl_end rfl ?_
   refine w_exit rfl ?_
   obtain rfl := someE hm
   exact ⟨_, rfl, FrG.keep (ks := [1, 5]) H48 (by kernel_rfl), hS⟩
  ·rintro _ wd61 ⟨s_z18, hz, H, hS⟩
   subst hz
   replace hm := sumR hm_z18
   obtain ⟨ho58, hm⟩ := chkE hm
   refine s_reg [] [1, 5] [(1, [], vP b1), (5, [], .string ⟨⟨s_z18 ++ [101, 109]⟩⟩)] [fun _ => ln s_z18 + ln [101, 109] ≤ 9223372036854775807] H (by kernel_rfl) ⟨ho58, trivial⟩ fun _ wd59 H60 hb => ?_
   clear H
   replace hS := hS.below hb
   clear hb
   refine w_exit rfl ?_
   obtain rfl := someE hm
   exact ⟨_, rfl, FrG.keep (ks := [1, 5]) H60 (by kernel_rfl), hS⟩
 ·rintro _ wd66 ⟨s_z15, hz, H, hS⟩
  subst hz
  replace hm := sumR hm_z15
  obtain ⟨y62, hy62, hm⟩ := bindE hm
  obtain ⟨ho63, hm⟩ := chkE hm
  refine s_reg [(vI s_z15.2), (vS y62)] [2, 3] [(2, [], .string ⟨⟨y62 ++ s_z15.1⟩⟩), (3, [], vI 0)] [fun wz => V.at1 ⟨b1, 2, none⟩ (vI s_z15.2) wz, fun wz => RetB Tryz.prog 35 ⟨[vI s_z15.2]⟩ (vS y62) wz, fun _ => ln y62 + ln s_z15.1 ≤ 9223372036854775807] H (by kernel_rfl) ⟨((hS.bk 0 rfl).at1 rfl), (parseval_number_ok _ _ hy62 _ (s0tab s0nil (hS.at 1 rfl))), ho63, trivial⟩ fun _ wd64 H65 hb => ?_
  clear H
  replace hS := hS.below hb
  clear hb
  replace hS : SH M X w [Ent.tab 0 (Lib.pow10Tab.map fun z => Value.int .u64 z), gE5] _ := hS.sel [1, 2] rfl
  refine w_ret ?_
  obtain rfl := someE hm
  exact retR2 H65 rfl rfl rfl ⟨_, rfl, rfl, (hS.sel [] rfl)⟩
theorem parseval_Write_ok  (m : Nat) (v_ : TVal) (r : Str × Int) (hm : parseval_Write m v_ = some r) (w : World) (hL : S0 F0 [Ent.tab 0 (Lib.pow10Tab.map fun z => Value.int .u64 z), gE5] w ∧ fpl [Ent.tab 0 (Lib.pow10Tab.map fun z => Value.int .u64 z), gE5] = []) : RetB Tryz.prog 21 ⟨[.agg ⟨[vU v_.Kind, .string ⟨⟨v_.Word⟩⟩, vI v_.Num, vU v_.Color.Red, vU v_.Color.Green, vU v_.Color.Blue, vU v_.Color.Alpha]⟩]⟩ (.tuple ⟨[.string ⟨⟨r.1⟩⟩, vI r.2]⟩) w := retB_of hL (Tryz.call21 _) (fun w' h => parseval_Write_w F0 m   v_ r hm w' h)

def law26_alive (m : Nat)  : Option (Bool) :=
  Option.bind (law26_color m [82, 69, 68] (TColor.mk 255 0 0 255)) fun y3 =>
  Option.bind (cond y3 (law26_color m [35, 48, 102, 48, 56] (TColor.mk 0 255 0 136)) (some default)) fun y4 =>
  Option.bind (cond (cond y3 y4 false) (law26_color m [114, 103, 98, 40, 49, 46, 57, 32, 45, 50, 32, 51, 48, 48, 32, 47, 32, 48, 46, 53, 41] (TColor.mk 1 0 255 127)) (some default)) fun y5 =>
  Option.bind (law26_reads m 6 [48] (TVal.mk 2 [] 0 (TColor.mk 0 0 0 0))) fun y8 =>
  Option.bind (cond y8 (law26_reads m 6 [49, 46, 53, 101, 109] (TVal.mk 3 [] 1500 (TColor.mk 0 0 0 0))) (some default)) fun y9 =>
  Option.bind (cond (cond y8 y9 false) (law26_reads m 6 [97, 117, 116, 111] (TVal.mk 1 [97, 117, 116, 111] 0 (TColor.mk 0 0 0 0))) (some default)) fun y10 =>
  Option.bind (cond (cond (cond y8 y9 false) y10 false) (law26_reads m 13 [48] (TVal.mk 5 [] 0 (TColor.mk 0 0 0 0))) (some default)) fun y11 =>
  lt (cond (cond (cond y8 y9 false) y10 false) y11 false) fun x12 =>
  Option.bind (cond x12 (law26_reads m 16 [50] (TVal.mk 6 [] 2 (TColor.mk 0 0 0 0))) (some default)) fun y13 =>
  Option.bind (cond (cond x12 y13 false) (law26_none m 16 [50, 46, 48]) (some default)) fun y14 =>
  lt (cond (cond (cond y3 y4 false) y5 false) (cond (cond x12 y13 false) y14 false) false) fun x17 =>
  Option.bind (cond x17 (parseval_Shown m (TColor.mk 0 0 255 255)) (some default)) fun y18 =>
  lt (cond x17 (y18 == [114, 103, 98, 40, 48, 44, 32, 48, 44, 32, 50, 53, 53, 41]) false) fun x19 =>
  Option.bind (cond x19 (parseval_Shown m (TColor.mk 0 255 0 136)) (some default)) fun y20 =>
  lt (cond x19 (y20 == [35, 48, 48, 102, 102, 48, 48, 56, 56]) false) fun x21 =>
  some x21
theorem law26_alive_w  (M : Av) (m : Nat)  (r : Bool) (hm : law26_alive m = some r) (w : World) (hS : S0 M [gE1, Ent.tab 0 (Lib.pow10Tab.map fun z => Value.int .u64 z), gE5] w) : Calls Tryz.prog 8 ⟨[]⟩ w (fun e w' => ∃ v, e = .returned v ∧ v = .bool r ∧ SH M (fpl [gE1, Ent.tab 0 (Lib.pow10Tab.map fun z => Value.int .u64 z), gE5]) w [] w') := by
 rw [law26_alive] at hm
 have hS0 : SH M (fpl [gE1, Ent.tab 0 (Lib.pow10Tab.map fun z => Value.int .u64 z), gE5]) w [gE1, Ent.tab 0 (Lib.pow10Tab.map fun z => Value.int .u64 z), gE5] w := hS
 generalize hX : fpl [gE1, Ent.tab 0 (Lib.pow10Tab.map fun z => Value.int .u64 z), gE5] = X at hS0 ⊢
 clear hS hX
 have hS := hS0
 clear hS0
 refine calls_entryP Tryz.func8 rfl Tryz.ntmps8 rfl fun _ H => ?_
 refine s_reg [] [] [] [] H (by kernel_rfl) trivial fun _ wd1 H2 hb => ?_
 clear H
 replace hS := hS.below hb
 clear hb
 obtain ⟨y3, hy3, hm⟩ := bindE hm
 obtain ⟨y4, hy4, hm⟩ := bindE hm
 obtain ⟨y5, hy5, hm⟩ := bindE hm
 refine s_reg [(.bool y3), (.bool y4), (.bool y5)] [1] [(1, [], .bool (cond (cond y3 y4 false) y5 false))] [fun wz => RetB Tryz.prog 16 ⟨[vS [82, 69, 68], .agg ⟨[vU 255, vU 0, vU 0, vU 255]⟩]⟩ (.bool y3) wz, fun wz => (y3 = true ∧ True → RetB Tryz.prog 16 ⟨[vS [35, 48, 102, 48, 56], .agg ⟨[vU 0, vU 255, vU 0, vU 136]⟩]⟩ (.bool y4) wz), fun wz => ((cond y3 y4 false) = true ∧ True → RetB Tryz.prog 16 ⟨[vS [114, 103, 98, 40, 49, 46, 57, 32, 45, 50, 32, 51, 48, 48, 32, 47, 32, 48, 46, 53, 41], .agg ⟨[vU 1, vU 0, vU 255, vU 127]⟩]⟩ (.bool y5) wz)] H2 (by kernel_rfl) ⟨(law26_color_ok m _ _ _ hy3 _ (s0im s0nil (hS.im 0 rfl))), fun hg => law26_color_ok m _ _ _ (bT (hg.1) hy4) _ (s0im s0nil (hS.im 0 rfl)), fun hg => law26_color_ok m _ _ _ (bT (hg.1) hy5) _ (s0im s0nil (hS.im 0 rfl)), trivial⟩ fun _ wd6 H7 hb => ?_
 clear H2
 replace hS := hS.below hb
 clear hb
 obtain ⟨y8, hy8, hm⟩ := bindE hm
 obtain ⟨y9, hy9, hm⟩ := bindE hm
 obtain ⟨y10, hy10, hm⟩ := bindE hm
 obtain ⟨y11, hy11, hm⟩ := bindE hm
 obtain ⟨x12, hx12, hm⟩ := letE hm
 obtain ⟨y13, hy13, hm⟩ := bindE hm
 obtain ⟨y14, hy14, hm⟩ := bindE hm
 refine s_reg [(.bool y8), (.bool y9), (.bool y10), (.bool y11), (.bool y13), (.bool y14)] [1, 2] [(1, [], .bool (cond (cond y3 y4 false) y5 false)), (2, [], .bool (cond (cond x12 y13 false) y14 false))] [fun wz => RetB Tryz.prog 18 ⟨[vI 6, vS [48], .agg ⟨[vU 2, vN, vI 0, vU 0, vU 0, vU 0, vU 0]⟩]⟩ (.bool y8) wz, fun wz => (y8 = true ∧ True → RetB Tryz.prog 18 ⟨[vI 6, vS [49, 46, 53, 101, 109], .agg ⟨[vU 3, vN, vI 1500, vU 0, vU 0, vU 0, vU 0]⟩]⟩ (.bool y9) wz), fun wz => ((cond y8 y9 false) = true ∧ True → RetB Tryz.prog 18 ⟨[vI 6, vS [97, 117, 116, 111], .agg ⟨[vU 1, vS [97, 117, 116, 111], vI 0, vU 0, vU 0, vU 0, vU 0]⟩]⟩ (.bool y10) wz), fun wz => ((cond (cond y8 y9 false) y10 false) = true ∧ True → RetB Tryz.prog 18 ⟨[vI 13, vS [48], .agg ⟨[vU 5, vN, vI 0, vU 0, vU 0, vU 0, vU 0]⟩]⟩ (.bool y11) wz), fun wz => (x12 = true ∧ True → RetB Tryz.prog 18 ⟨[vI 16, vS [50], .agg ⟨[vU 6, vN, vI 2, vU 0, vU 0, vU 0, vU 0]⟩]⟩ (.bool y13) wz), fun wz => ((cond x12 y13 false) = true ∧ True → RetB Tryz.prog 20 ⟨[vI 16, vS [50, 46, 48]]⟩ (.bool y14) wz)] H7 (by subst hx12; kernel_rfl) ⟨(law26_reads_ok m _ _ _ _ hy8 _ (s0im s0nil (hS.im 0 rfl))), fun hg => law26_reads_ok m _ _ _ _ (bT (hg.1) hy9) _ (s0im s0nil (hS.im 0 rfl)), fun hg => law26_reads_ok m _ _ _ _ (bT (hg.1) hy10) _ (s0im s0nil (hS.im 0 rfl)), fun hg => law26_reads_ok m _ _ _ _ (bT (hg.1) hy11) _ (s0im s0nil (hS.im 0 rfl)), fun hg => law26_reads_ok m _ _ _ _ (bT (hg.1) hy13) _ (s0im s0nil (hS.im 0 rfl)), fun hg => law26_none_ok m _ _ _ (bT (hg.1) hy14) _ (s0im s0nil (hS.im 0 rfl)), trivial⟩ fun _ wd15 H16 hb => ?_
 clear H7
 replace hS := hS.below hb
 clear hb
 obtain ⟨x17, hx17, hm⟩ := letE hm
 obtain ⟨y18, hy18, hm⟩ := bindE hm
 obtain ⟨x19, hx19, hm⟩ := letE hm
 obtain ⟨y20, hy20, hm⟩ := bindE hm
 obtain ⟨x21, hx21, hm⟩ := letE hm
 refine s_reg [(vS y18), (vS y20)] [0] [(0, [], .bool x21)] [fun wz => (x17 = true ∧ True → RetB Tryz.prog 13 ⟨[.agg ⟨[vU 0, vU 0, vU 255, vU 255]⟩]⟩ (vS y18) wz), fun wz => (x19 = true ∧ True → RetB Tryz.prog 13 ⟨[.agg ⟨[vU 0, vU 255, vU 0, vU 136]⟩]⟩ (vS y20) wz)] H16 (by subst hx17 hx19 hx21; kernel_rfl) ⟨fun hg => parseval_Shown_ok m _ _ (bT (hg.1) hy18) _ (s0tab (s0im s0nil (hS.im 2 rfl)) (hS.at 1 rfl)), fun hg => parseval_Shown_ok m _ _ (bT (hg.1) hy20) _ (s0tab (s0im s0nil (hS.im 2 rfl)) (hS.at 1 rfl)), trivial⟩ fun _ wd22 H23 hb => ?_
 clear H16
 replace hS := hS.below hb
 clear hb
 refine w_ret ?_
 obtain rfl := someE hm
 exact retR1 H23 rfl rfl ⟨_, rfl, rfl, (hS.sel [] rfl)⟩
theorem law26_alive_ok  (m : Nat)  (r : Bool) (hm : law26_alive m = some r) (w : World) (hL : S0 F0 [gE1, Ent.tab 0 (Lib.pow10Tab.map fun z => Value.int .u64 z), gE5] w ∧ fpl [gE1, Ent.tab 0 (Lib.pow10Tab.map fun z => Value.int .u64 z), gE5] = []) : RetB Tryz.prog 8 ⟨[]⟩ (.bool r) w := retB_of hL (Tryz.call8 _) (fun w' h => law26_alive_w F0 m    r hm w' h)

def law26_ParsevalNames_L1 (m : Nat)  : Nat → Int → Option (Sum (Bool) (Unit))
  | 0, _ => none
  | kk + 1, v54 =>
    cond (decide (v54 < 30)) (
    chk (0 ≤ v54 ∧ v54 < ln ([[], [114, 101, 100, 32, 114, 101, 100], [114, 103, 98], [114, 103, 98, 40, 41], [114, 103, 98, 40, 49, 44, 50, 41], [114, 103, 98, 40, 49, 32, 50, 41], [114, 103, 98, 40, 49, 44, 50, 32, 51, 41], [114, 103, 98, 40, 49, 32, 50, 44, 51, 41], [114, 103, 98, 40, 49, 44, 50, 44, 51, 47, 49, 41], [114, 103, 98, 40, 49, 32, 50, 32, 51, 44, 49, 41], [114, 103, 98, 40, 49, 32, 50, 32, 51, 32, 49, 41], [114, 103, 98, 40, 49, 44, 44, 50, 44, 51, 41], [114, 103, 98, 40, 44, 49, 44, 50, 44, 51, 41], [114, 103, 98, 40, 49, 44, 50, 44, 51, 44, 41], [114, 103, 98, 40, 49, 32, 50, 32, 51, 32, 47, 41], [114, 103, 98, 40, 49, 32, 50, 32, 51, 32, 47, 32, 49, 32, 49, 41], [114, 103, 98, 40, 49, 47, 50, 47, 51, 41], [114, 103, 98, 40, 49, 37, 44, 50, 37, 44, 51, 37, 41], [114, 103, 98, 40, 97, 44, 98, 44, 99, 41], [114, 103, 98, 40, 40, 49, 41, 32, 50, 32, 51, 41], [104, 115, 108, 40, 49, 44, 50, 44, 51, 41], [35, 49, 50], [35, 49, 50, 51, 52, 53], [35, 49, 50, 51, 52, 53, 54, 55], [35, 49, 50, 51, 52, 53, 54, 55, 56, 57], [35, 49, 50, 103], [34, 114, 101, 100, 34], [103, 114, 101, 101, 110], [35], [99, 117, 114, 114, 101, 110, 116, 99, 111, 108, 111, 114]] : List Str)) <|
    lt ((gi ([[], [114, 101, 100, 32, 114, 101, 100], [114, 103, 98], [114, 103, 98, 40, 41], [114, 103, 98, 40, 49, 44, 50, 41], [114, 103, 98, 40, 49, 32, 50, 41], [114, 103, 98, 40, 49, 44, 50, 32, 51, 41], [114, 103, 98, 40, 49, 32, 50, 44, 51, 41], [114, 103, 98, 40, 49, 44, 50, 44, 51, 47, 49, 41], [114, 103, 98, 40, 49, 32, 50, 32, 51, 44, 49, 41], [114, 103, 98, 40, 49, 32, 50, 32, 51, 32, 49, 41], [114, 103, 98, 40, 49, 44, 44, 50, 44, 51, 41], [114, 103, 98, 40, 44, 49, 44, 50, 44, 51, 41], [114, 103, 98, 40, 49, 44, 50, 44, 51, 44, 41], [114, 103, 98, 40, 49, 32, 50, 32, 51, 32, 47, 41], [114, 103, 98, 40, 49, 32, 50, 32, 51, 32, 47, 32, 49, 32, 49, 41], [114, 103, 98, 40, 49, 47, 50, 47, 51, 41], [114, 103, 98, 40, 49, 37, 44, 50, 37, 44, 51, 37, 41], [114, 103, 98, 40, 97, 44, 98, 44, 99, 41], [114, 103, 98, 40, 40, 49, 41, 32, 50, 32, 51, 41], [104, 115, 108, 40, 49, 44, 50, 44, 51, 41], [35, 49, 50], [35, 49, 50, 51, 52, 53], [35, 49, 50, 51, 52, 53, 54, 55], [35, 49, 50, 51, 52, 53, 54, 55, 56, 57], [35, 49, 50, 103], [34, 114, 101, 100, 34], [103, 114, 101, 101, 110], [35], [99, 117, 114, 114, 101, 110, 116, 99, 111, 108, 111, 114]] : List Str) v54)) fun x58 =>
    Option.bind (r04_Of m x58) fun y61 =>
    Option.bind (parseval_Color m y61) fun y66 =>
    lt (cond (y66.2 != 12) true (!((y66.1.Red == 0) && ((y66.1.Green == 0) && ((y66.1.Blue == 0) && ((y66.1.Alpha == 0) && true)))))) fun x76 =>
    cond x76 (
    some (.inl false)) (
    law26_ParsevalNames_L1 m  kk (w64 (v54 + 1)))) (
    some (.inr ()))
def law26_ParsevalNames (m : Nat)  : Option (Bool) :=
  lt (law26_full 0 0 0) fun y3 =>
  Option.bind (law26_color m [98, 108, 97, 99, 107] y3) fun y4 =>
  lt (law26_full 255 255 255) fun y5 =>
  Option.bind (cond y4 (law26_color m [87, 104, 105, 116, 101] y5) (some default)) fun y6 =>
  lt (law26_full 0 255 0) fun y7 =>
  Option.bind (cond (cond y4 y6 false) (law26_color m [108, 105, 109, 101] y7) (some default)) fun y8 =>
  lt (law26_full 0 0 255) fun y9 =>
  Option.bind (cond (cond (cond y4 y6 false) y8 false) (law26_color m [98, 76, 85, 69] y9) (some default)) fun y10 =>
  lt (cond (cond (cond y4 y6 false) y8 false) y10 false) fun x11 =>
  lt (law26_full 255 255 0) fun y12 =>
  Option.bind (cond x11 (law26_color m [121, 101, 108, 108, 111, 119] y12) (some default)) fun y13 =>
  lt (law26_full 128 128 128) fun y14 =>
  Option.bind (cond (cond x11 y13 false) (law26_color m [103, 114, 97, 121] y14) (some default)) fun y15 =>
  Option.bind (cond (cond (cond x11 y13 false) y15 false) (law26_color m [116, 114, 97, 110, 115, 112, 97, 114, 101, 110, 116] (TColor.mk 0 0 0 0)) (some default)) fun y16 =>
  lt (cond (cond (cond x11 y13 false) y15 false) y16 false) fun x17 =>
  lt (law26_full 17 34 51) fun y20 =>
  Option.bind (law26_color m [35, 49, 50, 51] y20) fun y21 =>
  lt (law26_full 171 205 239) fun y22 =>
  Option.bind (cond y21 (law26_color m [35, 65, 98, 67, 100, 69, 102] y22) (some default)) fun y23 =>
  Option.bind (cond (cond y21 y23 false) (law26_color m [35, 48, 48, 48, 48, 48, 48, 48, 49] (TColor.mk 0 0 0 1)) (some default)) fun y24 =>
  Option.bind (cond (cond (cond y21 y23 false) y24 false) (law26_color m [35, 102, 102, 102, 48] (TColor.mk 255 255 255 0)) (some default)) fun y25 =>
  lt (cond (cond (cond y21 y23 false) y24 false) y25 false) fun x26 =>
  lt (law26_full 1 2 3) fun y29 =>
  Option.bind (law26_color m [114, 103, 98, 40, 49, 44, 50, 44, 51, 41] y29) fun y30 =>
  lt (law26_full 1 2 3) fun y31 =>
  Option.bind (cond y30 (law26_color m [82, 71, 66, 65, 40, 32, 49, 32, 50, 32, 51, 32, 41] y31) (some default)) fun y32 =>
  lt (law26_full 1 2 3) fun y33 =>
  Option.bind (cond (cond y30 y32 false) (law26_color m [114, 103, 98, 40, 49, 44, 32, 50, 44, 32, 51, 44, 32, 49, 41] y33) (some default)) fun y34 =>
  lt (law26_full 255 0 255) fun y35 =>
  Option.bind (cond (cond (cond y30 y32 false) y34 false) (law26_color m [114, 103, 98, 97, 40, 50, 53, 53, 46, 57, 57, 57, 44, 32, 45, 48, 46, 53, 44, 32, 49, 101, 57, 44, 32, 50, 41] y35) (some default)) fun y36 =>
  lt (cond (cond (cond y30 y32 false) y34 false) y36 false) fun x37 =>
  Option.bind (cond x37 (law26_color m [114, 103, 98, 40, 48, 32, 48, 32, 48, 47, 45, 49, 41] (TColor.mk 0 0 0 0)) (some default)) fun y38 =>
  Option.bind (cond (cond x37 y38 false) (law26_color m [114, 103, 98, 40, 48, 32, 48, 32, 48, 32, 47, 32, 48, 46, 57, 57, 57, 41] (TColor.mk 0 0 0 254)) (some default)) fun y39 =>
  lt (law26_full 9 8 7) fun y40 =>
  Option.bind (cond (cond (cond x37 y38 false) y39 false) (law26_color m [114, 103, 98, 40, 57, 32, 56, 32, 55] y40) (some default)) fun y41 =>
  lt (cond (cond (cond x37 y38 false) y39 false) y41 false) fun x42 =>
  Option.bind (
  law26_ParsevalNames_L1 m  m 0) fun (z51 : Sum (Bool) (Unit)) => sumK z51 fun s_z51 =>
  lt (law26_word [105, 110, 108, 105, 110, 101, 45, 98, 108, 111, 99, 107]) fun y86 =>
  Option.bind (law26_reads m 4 [73, 78, 76, 73, 78, 69, 45, 98, 108, 111, 99, 107] y86) fun y87 =>
  lt (law26_word [104, 105, 100, 100, 101, 110]) fun y88 =>
  Option.bind (cond y87 (law26_reads m 5 [104, 105, 100, 100, 101, 110] y88) (some default)) fun y89 =>
  Option.bind (cond (cond y87 y89 false) (law26_reads m 7 [50, 80, 88] (TVal.mk 2 [] 2000 (TColor.mk 0 0 0 0))) (some default)) fun y90 =>
  Option.bind (cond (cond (cond y87 y89 false) y90 false) (law26_reads m 8 [45, 48, 46, 50, 53, 114, 101, 109] (TVal.mk 4 [] (-250) (TColor.mk 0 0 0 0))) (some default)) fun y91 =>
  lt (cond (cond (cond y87 y89 false) y90 false) y91 false) fun x92 =>
  Option.bind (cond x92 (law26_reads m 12 [48, 46, 48] (TVal.mk 2 [] 0 (TColor.mk 0 0 0 0))) (some default)) fun y93 =>
  Option.bind (cond (cond x92 y93 false) (law26_reads m 13 [49, 46, 53] (TVal.mk 5 [] 1500 (TColor.mk 0 0 0 0))) (some default)) fun y94 =>
  lt (law26_word [110, 111, 114, 109, 97, 108]) fun y95 =>
  Option.bind (cond (cond (cond x92 y93 false) y94 false) (law26_reads m 13 [110, 111, 114, 109, 97, 108] y95) (some default)) fun y96 =>
  lt (cond (cond (cond x92 y93 false) y94 false) y96 false) fun x97 =>
  lt (law26_word [106, 117, 115, 116, 105, 102, 121]) fun y98 =>
  Option.bind (cond x97 (law26_reads m 14 [74, 117, 115, 116, 105, 102, 121] y98) (some default)) fun y99 =>
  Option.bind (cond (cond x97 y99 false) (law26_reads m 15 [45, 55] (TVal.mk 5 [] (-7000) (TColor.mk 0 0 0 0))) (some default)) fun y100 =>
  Option.bind (cond (cond (cond x97 y99 false) y100 false) (law26_reads m 17 [45, 48] (TVal.mk 6 [] 0 (TColor.mk 0 0 0 0))) (some default)) fun y101 =>
  lt (cond (cond (cond x97 y99 false) y100 false) y101 false) fun x102 =>
  Option.bind (cond x102 (law26_reads m 16 [57, 57, 57, 57, 57, 57, 57, 57, 57, 57] (TVal.mk 6 [] 1000000000 (TColor.mk 0 0 0 0))) (some default)) fun y103 =>
  Option.bind (cond (cond x102 y103 false) (law26_reads m 0 [67, 117, 114, 114, 101, 110, 116, 67, 111, 108, 111, 114] (TVal.mk 8 [] 0 (TColor.mk 0 0 0 0))) (some default)) fun y104 =>
  Option.bind (law26_none m 6 [45, 49, 112, 120]) fun y107 =>
  Option.bind (cond y107 (law26_none m 6 [49]) (some default)) fun y108 =>
  Option.bind (cond (cond y107 y108 false) (law26_none m 6 [49, 37]) (some default)) fun y109 =>
  Option.bind (cond (cond (cond y107 y108 false) y109 false) (law26_none m 6 [49, 112, 116]) (some default)) fun y110 =>
  lt (cond (cond (cond y107 y108 false) y109 false) y110 false) fun x111 =>
  Option.bind (cond x111 (law26_none m 6 [110, 111, 110, 101]) (some default)) fun y112 =>
  Option.bind (cond (cond x111 y112 false) (law26_none m 12 [109, 101, 100, 105, 117, 109]) (some default)) fun y113 =>
  Option.bind (cond (cond (cond x111 y112 false) y113 false) (law26_none m 13 [45, 49]) (some default)) fun y114 =>
  lt (cond (cond (cond x111 y112 false) y113 false) y114 false) fun x115 =>
  Option.bind (cond x115 (law26_none m 4 [114, 101, 100]) (some default)) fun y116 =>
  Option.bind (cond (cond x115 y116 false) (law26_none m 17 [97, 117, 116, 111]) (some default)) fun y117 =>
  Option.bind (cond (cond (cond x115 y116 false) y117 false) (law26_none m 17 [49, 101, 48]) (some default)) fun y118 =>
  lt (cond (cond (cond x115 y116 false) y117 false) y118 false) fun x119 =>
  Option.bind (cond x119 (law26_none m 15 [53, 48, 37]) (some default)) fun y120 =>
  Option.bind (cond (cond x119 y120 false) (law26_none m 11 [49, 112, 120, 32, 50, 112, 120]) (some default)) fun y121 =>
  Option.bind (cond (cond (cond x119 y120 false) y121 false) (law26_none m 0 [105, 110, 104, 101, 114, 105, 116]) (some default)) fun y122 =>
  lt (cond (cond (cond x119 y120 false) y121 false) y122 false) fun x123 =>
  Option.bind (cond x123 (law26_none m 0 [118, 97, 114, 40, 45, 45, 97, 41]) (some default)) fun y124 =>
  Option.bind (cond (cond x123 y124 false) (law26_none m 0 [32, 114, 101, 100]) (some default)) fun y125 =>
  Option.bind (cond (cond (cond x123 y124 false) y125 false) (law26_none m 4 [99, 117, 114, 114, 101, 110, 116, 99, 111, 108, 111, 114]) (some default)) fun y126 =>
  lt (cond (cond (cond x123 y124 false) y125 false) y126 false) fun x127 =>
  Option.bind (r04_Of m [114, 101, 100]) fun y130 =>
  Option.bind (parseval_Parse m (-1) y130) fun y135 =>
  Option.bind (parseval_Parse m 18 []) fun y145 =>
  Option.bind (parseval_Write m (TVal.mk 0 [] 0 (TColor.mk 0 0 0 0))) fun y155 =>
  Option.bind (parseval_Named m []) fun y158 =>
  Option.bind (parseval_Named m [114, 103, 98]) fun y168 =>
  Option.bind (parseval_Write m (TVal.mk 6 [] (-1000000000) (TColor.mk 0 0 0 0))) fun y178 =>
  Option.bind (parseval_Write m (TVal.mk 3 [] (-1) (TColor.mk 0 0 0 0))) fun y181 =>
  Option.bind (parseval_Write m (TVal.mk 5 [] 1000000000000 (TColor.mk 0 0 0 0))) fun y184 =>
  Option.bind (parseval_Write m (TVal.mk 4 [] 120 (TColor.mk 0 0 0 0))) fun y187 =>
  Option.bind (law26_alive m) fun y190 =>
  lt (cond (cond (cond y190 x17 false) x26 false) x42 false) fun x191 =>
  lt (cond x191 (cond (cond x102 y103 false) y104 false) false) fun x192 =>
  lt (cond (cond x192 x127 false) (y135.2 == 2) false) fun x193 =>
  lt (cond (cond x193 (y145.2 == 2) false) (y155.2 == 8) false) fun x194 =>
  lt (cond (cond x194 (y158.2 == 6) false) (y168.2 == 6) false) fun x195 =>
  lt (cond (cond x195 (y178.2 == 0) false) (y178.1 == [45, 49, 48, 48, 48, 48, 48, 48, 48, 48, 48]) false) fun x196 =>
  lt (cond (cond x196 (y181.2 == 0) false) (y181.1 == [45, 48, 46, 48, 48, 49, 101, 109]) false) fun x197 =>
  lt (cond (cond x197 (y184.2 == 0) false) (y184.1 == [49, 48, 48, 48, 48, 48, 48, 48, 48, 48]) false) fun x198 =>
  lt (cond (cond x198 (y187.2 == 0) false) (y187.1 == [48, 46, 49, 50, 114, 101, 109]) false) fun x199 =>
  some x199
theorem law26_ParsevalNames_w  (M : Av) (m : Nat)  (r : Bool) (hm : law26_ParsevalNames m = some r) (w : World) (hS : S0 M [gE1, Ent.tab 0 (Lib.pow10Tab.map fun z => Value.int .u64 z), gE5] w) : Calls Tryz.prog 5 ⟨[]⟩ w (fun e w' => ∃ v, e = .returned v ∧ v = .bool r ∧ SH M (fpl [gE1, Ent.tab 0 (Lib.pow10Tab.map fun z => Value.int .u64 z), gE5]) w [] w') := by
 rw [law26_ParsevalNames] at hm
 have hS0 : SH M (fpl [gE1, Ent.tab 0 (Lib.pow10Tab.map fun z => Value.int .u64 z), gE5]) w [gE1, Ent.tab 0 (Lib.pow10Tab.map fun z => Value.int .u64 z), gE5] w := hS
 generalize hX : fpl [gE1, Ent.tab 0 (Lib.pow10Tab.map fun z => Value.int .u64 z), gE5] = X at hS0 ⊢
 clear hS hX
 have hS := hS0
 clear hS0
 refine calls_entryP Tryz.func5 rfl Tryz.ntmps5 rfl fun _ H => ?_
 refine s_reg [] [] [] [] H (by kernel_rfl) trivial fun _ wd1 H2 hb => ?_
 clear H
 replace hS := hS.below hb
 clear hb
 obtain ⟨y3, hy3, hm⟩ := letE hm
 obtain ⟨y4, hy4, hm⟩ := bindE hm
 obtain ⟨y5, hy5, hm⟩ := letE hm
 obtain ⟨y6, hy6, hm⟩ := bindE hm
 obtain ⟨y7, hy7, hm⟩ := letE hm
 obtain ⟨y8, hy8, hm⟩ := bindE hm
 obtain ⟨y9, hy9, hm⟩ := letE hm
 obtain ⟨y10, hy10, hm⟩ := bindE hm
 obtain ⟨x11, hx11, hm⟩ := letE hm
 obtain ⟨y12, hy12, hm⟩ := letE hm
 obtain ⟨y13, hy13, hm⟩ := bindE hm
 obtain ⟨y14, hy14, hm⟩ := letE hm
 obtain ⟨y15, hy15, hm⟩ := bindE hm
 obtain ⟨y16, hy16, hm⟩ := bindE hm
 obtain ⟨x17, hx17, hm⟩ := letE hm
 refine s_reg [(.agg ⟨[vU y3.Red, vU y3.Green, vU y3.Blue, vU y3.Alpha]⟩), (.bool y4), (.agg ⟨[vU y5.Red, vU y5.Green, vU y5.Blue, vU y5.Alpha]⟩), (.bool y6), (.agg ⟨[vU y7.Red, vU y7.Green, vU y7.Blue, vU y7.Alpha]⟩), (.bool y8), (.agg ⟨[vU y9.Red, vU y9.Green, vU y9.Blue, vU y9.Alpha]⟩), (.bool y10), (.agg ⟨[vU y12.Red, vU y12.Green, vU y12.Blue, vU y12.Alpha]⟩), (.bool y13), (.agg ⟨[vU y14.Red, vU y14.Green, vU y14.Blue, vU y14.Alpha]⟩), (.bool y15), (.bool y16)] [1] [(1, [], .bool x17)] [fun wz => RetB Tryz.prog 17 ⟨[vU 0, vU 0, vU 0]⟩ (.agg ⟨[vU y3.Red, vU y3.Green, vU y3.Blue, vU y3.Alpha]⟩) wz, fun wz => RetB Tryz.prog 16 ⟨[vS [98, 108, 97, 99, 107], .agg ⟨[vU y3.Red, vU y3.Green, vU y3.Blue, vU y3.Alpha]⟩]⟩ (.bool y4) wz, fun wz => (y4 = true ∧ True → RetB Tryz.prog 17 ⟨[vU 255, vU 255, vU 255]⟩ (.agg ⟨[vU y5.Red, vU y5.Green, vU y5.Blue, vU y5.Alpha]⟩) wz), fun wz => (y4 = true ∧ True → RetB Tryz.prog 16 ⟨[vS [87, 104, 105, 116, 101], .agg ⟨[vU y5.Red, vU y5.Green, vU y5.Blue, vU y5.Alpha]⟩]⟩ (.bool y6) wz), fun wz => ((cond y4 y6 false) = true ∧ True → RetB Tryz.prog 17 ⟨[vU 0, vU 255, vU 0]⟩ (.agg ⟨[vU y7.Red, vU y7.Green, vU y7.Blue, vU y7.Alpha]⟩) wz), fun wz => ((cond y4 y6 false) = true ∧ True → RetB Tryz.prog 16 ⟨[vS [108, 105, 109, 101], .agg ⟨[vU y7.Red, vU y7.Green, vU y7.Blue, vU y7.Alpha]⟩]⟩ (.bool y8) wz), fun wz => ((cond (cond y4 y6 false) y8 false) = true ∧ True → RetB Tryz.prog 17 ⟨[vU 0, vU 0, vU 255]⟩ (.agg ⟨[vU y9.Red, vU y9.Green, vU y9.Blue, vU y9.Alpha]⟩) wz), fun wz => ((cond (cond y4 y6 false) y8 false) = true ∧ True → RetB Tryz.prog 16 ⟨[vS [98, 76, 85, 69], .agg ⟨[vU y9.Red, vU y9.Green, vU y9.Blue, vU y9.Alpha]⟩]⟩ (.bool y10) wz), fun wz => (x11 = true ∧ True → RetB Tryz.prog 17 ⟨[vU 255, vU 255, vU 0]⟩ (.agg ⟨[vU y12.Red, vU y12.Green, vU y12.Blue, vU y12.Alpha]⟩) wz), fun wz => (x11 = true ∧ True → RetB Tryz.prog 16 ⟨[vS [121, 101, 108, 108, 111, 119], .agg ⟨[vU y12.Red, vU y12.Green, vU y12.Blue, vU y12.Alpha]⟩]⟩ (.bool y13) wz), fun wz => ((cond x11 y13 false) = true ∧ True → RetB Tryz.prog 17 ⟨[vU 128, vU 128, vU 128]⟩ (.agg ⟨[vU y14.Red, vU y14.Green, vU y14.Blue, vU y14.Alpha]⟩) wz), fun wz => ((cond x11 y13 false) = true ∧ True → RetB Tryz.prog 16 ⟨[vS [103, 114, 97, 121], .agg ⟨[vU y14.Red, vU y14.Green, vU y14.Blue, vU y14.Alpha]⟩]⟩ (.bool y15) wz), fun wz => ((cond (cond x11 y13 false) y15 false) = true ∧ True → RetB Tryz.prog 16 ⟨[vS [116, 114, 97, 110, 115, 112, 97, 114, 101, 110, 116], .agg ⟨[vU 0, vU 0, vU 0, vU 0]⟩]⟩ (.bool y16) wz)] H2 (by subst hy3 hy5 hy7 hy9 hx11 hy12 hy14 hx17; kernel_rfl) ⟨((by rw [hy3]; exact (law26_full_ok _ _ _).b)), (law26_color_ok m _ _ _ hy4 _ (s0im s0nil (hS.im 0 rfl))), fun hg => (by rw [hy5]; exact (law26_full_ok _ _ _).b), fun hg => law26_color_ok m _ _ _ (bT (hg.1) hy6) _ (s0im s0nil (hS.im 0 rfl)), fun hg => (by rw [hy7]; exact (law26_full_ok _ _ _).b), fun hg => law26_color_ok m _ _ _ (bT (hg.1) hy8) _ (s0im s0nil (hS.im 0 rfl)), fun hg => (by rw [hy9]; exact (law26_full_ok _ _ _).b), fun hg => law26_color_ok m _ _ _ (bT (hg.1) hy10) _ (s0im s0nil (hS.im 0 rfl)), fun hg => (by rw [hy12]; exact (law26_full_ok _ _ _).b), fun hg => law26_color_ok m _ _ _ (bT (hg.1) hy13) _ (s0im s0nil (hS.im 0 rfl)), fun hg => (by rw [hy14]; exact (law26_full_ok _ _ _).b), fun hg => law26_color_ok m _ _ _ (bT (hg.1) hy15) _ (s0im s0nil (hS.im 0 rfl)), fun hg => law26_color_ok m _ _ _ (bT (hg.1) hy16) _ (s0im s0nil (hS.im 0 rfl)), trivial⟩ fun _ wd18 H19 hb => ?_
 clear H2
 replace hS := hS.below hb
 clear hb
 obtain ⟨y20, hy20, hm⟩ := letE hm
 obtain ⟨y21, hy21, hm⟩ := bindE hm
 obtain ⟨y22, hy22, hm⟩ := letE hm
 obtain ⟨y23, hy23, hm⟩ := bindE hm
 obtain ⟨y24, hy24, hm⟩ := bindE hm
 obtain ⟨y25, hy25, hm⟩ := bindE hm
 obtain ⟨x26, hx26, hm⟩ := letE hm
 refine s_reg [(.agg ⟨[vU y20.Red, vU y20.Green, vU y20.Blue, vU y20.Alpha]⟩), (.bool y21), (.agg ⟨[vU y22.Red, vU y22.Green, vU y22.Blue, vU y22.Alpha]⟩), (.bool y23), (.bool y24), (.bool y25)] [1, 2] [(1, [], .bool x17), (2, [], .bool x26)] [fun wz => RetB Tryz.prog 17 ⟨[vU 17, vU 34, vU 51]⟩ (.agg ⟨[vU y20.Red, vU y20.Green, vU y20.Blue, vU y20.Alpha]⟩) wz, fun wz => RetB Tryz.prog 16 ⟨[vS [35, 49, 50, 51], .agg ⟨[vU y20.Red, vU y20.Green, vU y20.Blue, vU y20.Alpha]⟩]⟩ (.bool y21) wz, fun wz => (y21 = true ∧ True → RetB Tryz.prog 17 ⟨[vU 171, vU 205, vU 239]⟩ (.agg ⟨[vU y22.Red, vU y22.Green, vU y22.Blue, vU y22.Alpha]⟩) wz), fun wz => (y21 = true ∧ True → RetB Tryz.prog 16 ⟨[vS [35, 65, 98, 67, 100, 69, 102], .agg ⟨[vU y22.Red, vU y22.Green, vU y22.Blue, vU y22.Alpha]⟩]⟩ (.bool y23) wz), fun wz => ((cond y21 y23 false) = true ∧ True → RetB Tryz.prog 16 ⟨[vS [35, 48, 48, 48, 48, 48, 48, 48, 49], .agg ⟨[vU 0, vU 0, vU 0, vU 1]⟩]⟩ (.bool y24) wz), fun wz => ((cond (cond y21 y23 false) y24 false) = true ∧ True → RetB Tryz.prog 16 ⟨[vS [35, 102, 102, 102, 48], .agg ⟨[vU 255, vU 255, vU 255, vU 0]⟩]⟩ (.bool y25) wz)] H19 (by subst hy20 hy22 hx26; kernel_rfl) ⟨((by rw [hy20]; exact (law26_full_ok _ _ _).b)), (law26_color_ok m _ _ _ hy21 _ (s0im s0nil (hS.im 0 rfl))), fun hg => (by rw [hy22]; exact (law26_full_ok _ _ _).b), fun hg => law26_color_ok m _ _ _ (bT (hg.1) hy23) _ (s0im s0nil (hS.im 0 rfl)), fun hg => law26_color_ok m _ _ _ (bT (hg.1) hy24) _ (s0im s0nil (hS.im 0 rfl)), fun hg => law26_color_ok m _ _ _ (bT (hg.1) hy25) _ (s0im s0nil (hS.im 0 rfl)), trivial⟩ fun _ wd27 H28 hb => ?_
 clear H19
 replace hS := hS.below hb
 clear hb
 obtain ⟨y29, hy29, hm⟩ := letE hm
 obtain ⟨y30, hy30, hm⟩ := bindE hm
 obtain ⟨y31, hy31, hm⟩ := letE hm
 obtain ⟨y32, hy32, hm⟩ := bindE hm
 obtain ⟨y33, hy33, hm⟩ := letE hm
 obtain ⟨y34, hy34, hm⟩ := bindE hm
 obtain ⟨y35, hy35, hm⟩ := letE hm
 obtain ⟨y36, hy36, hm⟩ := bindE hm
 obtain ⟨x37, hx37, hm⟩ := letE hm
 obtain ⟨y38, hy38, hm⟩ := bindE hm
 obtain ⟨y39, hy39, hm⟩ := bindE hm
 obtain ⟨y40, hy40, hm⟩ := letE hm
 obtain ⟨y41, hy41, hm⟩ := bindE hm
 obtain ⟨x42, hx42, hm⟩ := letE hm
 refine s_reg [(.agg ⟨[vU y29.Red, vU y29.Green, vU y29.Blue, vU y29.Alpha]⟩), (.bool y30), (.agg ⟨[vU y31.Red, vU y31.Green, vU y31.Blue, vU y31.Alpha]⟩), (.bool y32), (.agg ⟨[vU y33.Red, vU y33.Green, vU y33.Blue, vU y33.Alpha]⟩), (.bool y34), (.agg ⟨[vU y35.Red, vU y35.Green, vU y35.Blue, vU y35.Alpha]⟩), (.bool y36), (.bool y38), (.bool y39), (.agg ⟨[vU y40.Red, vU y40.Green, vU y40.Blue, vU y40.Alpha]⟩), (.bool y41)] [1, 2, 3] [(1, [], .bool x17), (2, [], .bool x26), (3, [], .bool x42)] [fun wz => RetB Tryz.prog 17 ⟨[vU 1, vU 2, vU 3]⟩ (.agg ⟨[vU y29.Red, vU y29.Green, vU y29.Blue, vU y29.Alpha]⟩) wz, fun wz => RetB Tryz.prog 16 ⟨[vS [114, 103, 98, 40, 49, 44, 50, 44, 51, 41], .agg ⟨[vU y29.Red, vU y29.Green, vU y29.Blue, vU y29.Alpha]⟩]⟩ (.bool y30) wz, fun wz => (y30 = true ∧ True → RetB Tryz.prog 17 ⟨[vU 1, vU 2, vU 3]⟩ (.agg ⟨[vU y31.Red, vU y31.Green, vU y31.Blue, vU y31.Alpha]⟩) wz), fun wz => (y30 = true ∧ True → RetB Tryz.prog 16 ⟨[vS [82, 71, 66, 65, 40, 32, 49, 32, 50, 32, 51, 32, 41], .agg ⟨[vU y31.Red, vU y31.Green, vU y31.Blue, vU y31.Alpha]⟩]⟩ (.bool y32) wz), fun wz => ((cond y30 y32 false) = true ∧ True → RetB Tryz.prog 17 ⟨[vU 1, vU 2, vU 3]⟩ (.agg ⟨[vU y33.Red, vU y33.Green, vU y33.Blue, vU y33.Alpha]⟩) wz), fun wz => ((cond y30 y32 false) = true ∧ True → RetB Tryz.prog 16 ⟨[vS [114, 103, 98, 40, 49, 44, 32, 50, 44, 32, 51, 44, 32, 49, 41], .agg ⟨[vU y33.Red, vU y33.Green, vU y33.Blue, vU y33.Alpha]⟩]⟩ (.bool y34) wz), fun wz => ((cond (cond y30 y32 false) y34 false) = true ∧ True → RetB Tryz.prog 17 ⟨[vU 255, vU 0, vU 255]⟩ (.agg ⟨[vU y35.Red, vU y35.Green, vU y35.Blue, vU y35.Alpha]⟩) wz), fun wz => ((cond (cond y30 y32 false) y34 false) = true ∧ True → RetB Tryz.prog 16 ⟨[vS [114, 103, 98, 97, 40, 50, 53, 53, 46, 57, 57, 57, 44, 32, 45, 48, 46, 53, 44, 32, 49, 101, 57, 44, 32, 50, 41], .agg ⟨[vU y35.Red, vU y35.Green, vU y35.Blue, vU y35.Alpha]⟩]⟩ (.bool y36) wz), fun wz => (x37 = true ∧ True → RetB Tryz.prog 16 ⟨[vS [114, 103, 98, 40, 48, 32, 48, 32, 48, 47, 45, 49, 41], .agg ⟨[vU 0, vU 0, vU 0, vU 0]⟩]⟩ (.bool y38) wz), fun wz => ((cond x37 y38 false) = true ∧ True → RetB Tryz.prog 16 ⟨[vS [114, 103, 98, 40, 48, 32, 48, 32, 48, 32, 47, 32, 48, 46, 57, 57, 57, 41], .agg ⟨[vU 0, vU 0, vU 0, vU 254]⟩]⟩ (.bool y39) wz), fun wz => ((cond (cond x37 y38 false) y39 false) = true ∧ True → RetB Tryz.prog 17 ⟨[vU 9, vU 8, vU 7]⟩ (.agg ⟨[vU y40.Red, vU y40.Green, vU y40.Blue, vU y40.Alpha]⟩) wz), fun wz => ((cond (cond x37 y38 false) y39 false) = true ∧ True → RetB Tryz.prog 16 ⟨[vS [114, 103, 98, 40, 57, 32, 56, 32, 55], .agg ⟨[vU y40.Red, vU y40.Green, vU y40.Blue, vU y40.Alpha]⟩]⟩ (.bool y41) wz)] H28 (by subst hy29 hy31 hy33 hy35 hx37 hy40 hx42; kernel_rfl) ⟨((by rw [hy29]; exact (law26_full_ok _ _ _).b)), (law26_color_ok m _ _ _ hy30 _ (s0im s0nil (hS.im 0 rfl))), fun hg => (by rw [hy31]; exact (law26_full_ok _ _ _).b), fun hg => law26_color_ok m _ _ _ (bT (hg.1) hy32) _ (s0im s0nil (hS.im 0 rfl)), fun hg => (by rw [hy33]; exact (law26_full_ok _ _ _).b), fun hg => law26_color_ok m _ _ _ (bT (hg.1) hy34) _ (s0im s0nil (hS.im 0 rfl)), fun hg => (by rw [hy35]; exact (law26_full_ok _ _ _).b), fun hg => law26_color_ok m _ _ _ (bT (hg.1) hy36) _ (s0im s0nil (hS.im 0 rfl)), fun hg => law26_color_ok m _ _ _ (bT (hg.1) hy38) _ (s0im s0nil (hS.im 0 rfl)), fun hg => law26_color_ok m _ _ _ (bT (hg.1) hy39) _ (s0im s0nil (hS.im 0 rfl)), fun hg => (by rw [hy40]; exact (law26_full_ok _ _ _).b), fun hg => law26_color_ok m _ _ _ (bT (hg.1) hy41) _ (s0im s0nil (hS.im 0 rfl)), trivial⟩ fun _ wd43 H44 hb => ?_
 clear H28
 replace hS := hS.below hb
 clear hb
 refine w_seq ?_
 refine wl_start ?_
 have hd := hS.hand [] [0, 1, 2] rfl rfl
 refine m_stp [94, 1, 2, 3] [(1, [], .bool x17), (2, [], .bool x26), (3, [], .bool x42)] H44 rfl rfl rfl rfl (o_lit (T := tS) (E := 9) (zv := vN) [vN, vS [114, 101, 100, 32, 114, 101, 100], vS [114, 103, 98], vS [114, 103, 98, 40, 41], vS [114, 103, 98, 40, 49, 44, 50, 41], vS [114, 103, 98, 40, 49, 32, 50, 41], vS [114, 103, 98, 40, 49, 44, 50, 32, 51, 41], vS [114, 103, 98, 40, 49, 32, 50, 44, 51, 41], vS [114, 103, 98, 40, 49, 44, 50, 44, 51, 47, 49, 41], vS [114, 103, 98, 40, 49, 32, 50, 32, 51, 44, 49, 41], vS [114, 103, 98, 40, 49, 32, 50, 32, 51, 32, 49, 41], vS [114, 103, 98, 40, 49, 44, 44, 50, 44, 51, 41], vS [114, 103, 98, 40, 44, 49, 44, 50, 44, 51, 41], vS [114, 103, 98, 40, 49, 44, 50, 44, 51, 44, 41], vS [114, 103, 98, 40, 49, 32, 50, 32, 51, 32, 47, 41], vS [114, 103, 98, 40, 49, 32, 50, 32, 51, 32, 47, 32, 49, 32, 49, 41], vS [114, 103, 98, 40, 49, 47, 50, 47, 51, 41], vS [114, 103, 98, 40, 49, 37, 44, 50, 37, 44, 51, 37, 41], vS [114, 103, 98, 40, 97, 44, 98, 44, 99, 41], vS [114, 103, 98, 40, 40, 49, 41, 32, 50, 32, 51, 41], vS [104, 115, 108, 40, 49, 44, 50, 44, 51, 41], vS [35, 49, 50], vS [35, 49, 50, 51, 52, 53], vS [35, 49, 50, 51, 52, 53, 54, 55], vS [35, 49, 50, 51, 52, 53, 54, 55, 56, 57], vS [35, 49, 50, 103], vS [34, 114, 101, 100, 34], vS [103, 114, 101, 101, 110], vS [35], vS [99, 117, 114, 114, 101, 110, 116, 99, 111, 108, 111, 114]] ([[], [114, 101, 100, 32, 114, 101, 100], [114, 103, 98], [114, 103, 98, 40, 41], [114, 103, 98, 40, 49, 44, 50, 41], [114, 103, 98, 40, 49, 32, 50, 41], [114, 103, 98, 40, 49, 44, 50, 32, 51, 41], [114, 103, 98, 40, 49, 32, 50, 44, 51, 41], [114, 103, 98, 40, 49, 44, 50, 44, 51, 47, 49, 41], [114, 103, 98, 40, 49, 32, 50, 32, 51, 44, 49, 41], [114, 103, 98, 40, 49, 32, 50, 32, 51, 32, 49, 41], [114, 103, 98, 40, 49, 44, 44, 50, 44, 51, 41], [114, 103, 98, 40, 44, 49, 44, 50, 44, 51, 41], [114, 103, 98, 40, 49, 44, 50, 44, 51, 44, 41], [114, 103, 98, 40, 49, 32, 50, 32, 51, 32, 47, 41], [114, 103, 98, 40, 49, 32, 50, 32, 51, 32, 47, 32, 49, 32, 49, 41], [114, 103, 98, 40, 49, 47, 50, 47, 51, 41], [114, 103, 98, 40, 49, 37, 44, 50, 37, 44, 51, 37, 41], [114, 103, 98, 40, 97, 44, 98, 44, 99, 41], [114, 103, 98, 40, 40, 49, 41, 32, 50, 32, 51, 41], [104, 115, 108, 40, 49, 44, 50, 44, 51, 41], [35, 49, 50], [35, 49, 50, 51, 52, 53], [35, 49, 50, 51, 52, 53, 54, 55], [35, 49, 50, 51, 52, 53, 54, 55, 56, 57], [35, 49, 50, 103], [34, 114, 101, 100, 34], [103, 114, 101, 101, 110], [35], [99, 117, 114, 114, 101, 110, 116, 99, 111, 108, 111, 114]] : List Str) [gL [], gL [], gL [], gL [], gL [], gL [], gL [], gL [], gL [], gL [], gL [], gL [], gL [], gL [], gL [], gL [], gL [], gL [], gL [], gL [], gL [], gL [], gL [], gL [], gL [], gL [], gL [], gL [], gL [], gL []] _ H44 hd rfl (by kernel_rfl) (by kernel_rfl) (by kernel_rfl) (by kernel_rfl) (by kernel_rfl) (by kernel_rfl) (by kernel_rfl) rfl (InnL.cons trivial (InnL.cons trivial (InnL.cons trivial (InnL.cons trivial (InnL.cons trivial (InnL.cons trivial (InnL.cons trivial (InnL.cons trivial (InnL.cons trivial (InnL.cons trivial (InnL.cons trivial (InnL.cons trivial (InnL.cons trivial (InnL.cons trivial (InnL.cons trivial (InnL.cons trivial (InnL.cons trivial (InnL.cons trivial (InnL.cons trivial (InnL.cons trivial (InnL.cons trivial (InnL.cons trivial (InnL.cons trivial (InnL.cons trivial (InnL.cons trivial (InnL.cons trivial (InnL.cons trivial (InnL.cons trivial (InnL.cons trivial (InnL.cons trivial InnL.nil))))))))))))))))))))))))))))))) (fun _ => rfl) fun _ wd47 v H48 hq => ?_
 clear H44 hd
 obtain ⟨g45, rfl, hq⟩ := hq
 replace hS : SH M X w [eO 9 tS ([[], [114, 101, 100, 32, 114, 101, 100], [114, 103, 98], [114, 103, 98, 40, 41], [114, 103, 98, 40, 49, 44, 50, 41], [114, 103, 98, 40, 49, 32, 50, 41], [114, 103, 98, 40, 49, 44, 50, 32, 51, 41], [114, 103, 98, 40, 49, 32, 50, 44, 51, 41], [114, 103, 98, 40, 49, 44, 50, 44, 51, 47, 49, 41], [114, 103, 98, 40, 49, 32, 50, 32, 51, 44, 49, 41], [114, 103, 98, 40, 49, 32, 50, 32, 51, 32, 49, 41], [114, 103, 98, 40, 49, 44, 44, 50, 44, 51, 41], [114, 103, 98, 40, 44, 49, 44, 50, 44, 51, 41], [114, 103, 98, 40, 49, 44, 50, 44, 51, 44, 41], [114, 103, 98, 40, 49, 32, 50, 32, 51, 32, 47, 41], [114, 103, 98, 40, 49, 32, 50, 32, 51, 32, 47, 32, 49, 32, 49, 41], [114, 103, 98, 40, 49, 47, 50, 47, 51, 41], [114, 103, 98, 40, 49, 37, 44, 50, 37, 44, 51, 37, 41], [114, 103, 98, 40, 97, 44, 98, 44, 99, 41], [114, 103, 98, 40, 40, 49, 41, 32, 50, 32, 51, 41], [104, 115, 108, 40, 49, 44, 50, 44, 51, 41], [35, 49, 50], [35, 49, 50, 51, 52, 53], [35, 49, 50, 51, 52, 53, 54, 55], [35, 49, 50, 51, 52, 53, 54, 55, 56, 57], [35, 49, 50, 103], [34, 114, 101, 100, 34], [103, 114, 101, 101, 110], [35], [99, 117, 114, 114, 101, 110, 116, 99, 111, 108, 111, 114]] : List Str) g45, gE1, Ent.tab 0 (Lib.pow10Tab.map fun z => Value.int .u64 z), gE5] _ := hS.join [] [0, 1, 2] rfl rfl hq
 clear hq
 refine wl_batch 1 2 [] [1, 2, 3, 4] [(1, [], .bool x17), (2, [], .bool x26), (3, [], .bool x42), (4, [], .slice g45.a 30 g45.c)] [] H48 (by decide) (by kernel_rfl) trivial fun _ wd49 H50 hb => ?_
 clear H48
 replace hS := hS.below hb
 clear hb
 refine wl_end rfl ?_
 obtain ⟨z51, hz, hm_z51⟩ := bindE hm
 refine w_cut (fun a' w' => ∃ s_z51 : Unit, z51 = Sum.inr s_z51 ∧ Fr 319 [(1, [], .bool x17), (2, [], .bool x26), (3, [], .bool x42)] a' ∧ SH M X w [eO 9 tS ([[], [114, 101, 100, 32, 114, 101, 100], [114, 103, 98], [114, 103, 98, 40, 41], [114, 103, 98, 40, 49, 44, 50, 41], [114, 103, 98, 40, 49, 32, 50, 41], [114, 103, 98, 40, 49, 44, 50, 32, 51, 41], [114, 103, 98, 40, 49, 32, 50, 44, 51, 41], [114, 103, 98, 40, 49, 44, 50, 44, 51, 47, 49, 41], [114, 103, 98, 40, 49, 32, 50, 32, 51, 44, 49, 41], [114, 103, 98, 40, 49, 32, 50, 32, 51, 32, 49, 41], [114, 103, 98, 40, 49, 44, 44, 50, 44, 51, 41], [114, 103, 98, 40, 44, 49, 44, 50, 44, 51, 41], [114, 103, 98, 40, 49, 44, 50, 44, 51, 44, 41], [114, 103, 98, 40, 49, 32, 50, 32, 51, 32, 47, 41], [114, 103, 98, 40, 49, 32, 50, 32, 51, 32, 47, 32, 49, 32, 49, 41], [114, 103, 98, 40, 49, 47, 50, 47, 51, 41], [114, 103, 98, 40, 49, 37, 44, 50, 37, 44, 51, 37, 41], [114, 103, 98, 40, 97, 44, 98, 44, 99, 41], [114, 103, 98, 40, 40, 49, 41, 32, 50, 32, 51, 41], [104, 115, 108, 40, 49, 44, 50, 44, 51, 41], [35, 49, 50], [35, 49, 50, 51, 52, 53], [35, 49, 50, 51, 52, 53, 54, 55], [35, 49, 50, 51, 52, 53, 54, 55, 56, 57], [35, 49, 50, 103], [34, 114, 101, 100, 34], [103, 114, 101, 101, 110], [35], [99, 117, 114, 114, 101, 110, 116, 99, 111, 108, 111, 114]] : List Str) g45, gE1, Ent.tab 0 (Lib.pow10Tab.map fun z => Value.int .u64 z), gE5] w') ?_ ?_
 ·replace hm := hz
  refine s_reg [] [1, 2, 3, 4, 5] [(1, [], .bool x17), (2, [], .bool x26), (3, [], .bool x42), (4, [], .slice g45.a 30 g45.c), (5, [], vI 0)] [] H50 (by kernel_rfl) trivial fun _ wd52 H53 hb => ?_
  clear H50
  replace hS := hS.below hb
  clear hb
  refine w_block ?_
  refine w_loop (fun kk a' w' => ∃ (v54 : Int), law26_ParsevalNames_L1 m  kk v54 = some _ ∧ Fr 319 [(1, [], .bool x17), (2, [], .bool x26), (3, [], .bool x42), (4, [], .slice g45.a 30 g45.c), (5, [], vI v54)] a' ∧ SH M X w [eO 9 tS ([[], [114, 101, 100, 32, 114, 101, 100], [114, 103, 98], [114, 103, 98, 40, 41], [114, 103, 98, 40, 49, 44, 50, 41], [114, 103, 98, 40, 49, 32, 50, 41], [114, 103, 98, 40, 49, 44, 50, 32, 51, 41], [114, 103, 98, 40, 49, 32, 50, 44, 51, 41], [114, 103, 98, 40, 49, 44, 50, 44, 51, 47, 49, 41], [114, 103, 98, 40, 49, 32, 50, 32, 51, 44, 49, 41], [114, 103, 98, 40, 49, 32, 50, 32, 51, 32, 49, 41], [114, 103, 98, 40, 49, 44, 44, 50, 44, 51, 41], [114, 103, 98, 40, 44, 49, 44, 50, 44, 51, 41], [114, 103, 98, 40, 49, 44, 50, 44, 51, 44, 41], [114, 103, 98, 40, 49, 32, 50, 32, 51, 32, 47, 41], [114, 103, 98, 40, 49, 32, 50, 32, 51, 32, 47, 32, 49, 32, 49, 41], [114, 103, 98, 40, 49, 47, 50, 47, 51, 41], [114, 103, 98, 40, 49, 37, 44, 50, 37, 44, 51, 37, 41], [114, 103, 98, 40, 97, 44, 98, 44, 99, 41], [114, 103, 98, 40, 40, 49, 41, 32, 50, 32, 51, 41], [104, 115, 108, 40, 49, 44, 50, 44, 51, 41], [35, 49, 50], [35, 49, 50, 51, 52, 53], [35, 49, 50, 51, 52, 53, 54, 55], [35, 49, 50, 51, 52, 53, 54, 55, 56, 57], [35, 49, 50, 103], [34, 114, 101, 100, 34], [103, 114, 101, 101, 110], [35], [99, 117, 114, 114, 101, 110, 116, 99, 111, 108, 111, 114]] : List Str) g45, gE1, Ent.tab 0 (Lib.pow10Tab.map fun z => Value.int .u64 z), gE5] w') ⟨_, 0, hm, FrG.keep (ks := [1, 2, 3, 4, 5]) H53 (by kernel_rfl), hS⟩ ?_
  clear hm H53 hS
  rintro kk _ wd85 ⟨v54, hm, H, hS⟩
  cases kk with
  | zero => exact noneE hm
  | succ kk =>
   rw [law26_ParsevalNames_L1] at hm
   refine w_seq ?_
   refine s_reg [] [1, 2, 3, 4, 5, 98] [(1, [], .bool x17), (2, [], .bool x26), (3, [], .bool x42), (4, [], .slice g45.a 30 g45.c), (5, [], vI v54), (98, [], .bool (decide (v54 < 30)))] [] H (by kernel_rfl) trivial fun _ wd55 H56 hb => ?_
   clear H
   replace hS := hS.below hb
   clear hb
   refine w_if H56 rfl (fun hc => ?_) (fun hc => ?c84)
   case c84 =>
    replace hm := bF hc hm
    refine w_exit rfl ?_
    obtain rfl := someE hm
    exact ⟨_, rfl, FrG.keep (ks := [1, 2, 3]) H56 (by kernel_rfl), hS⟩
   replace hm := bT hc hm
   refine w_skip ?_
   refine w_seq ?_
   refine w_block ?_
   refine w_seq ?_
   refine wl_start ?_
   obtain ⟨ho57, hm⟩ := chkE hm
   obtain ⟨x58, hx58, hm⟩ := letE hm
   refine wl_batch 0 4 [(.string ⟨⟨(gi ([[], [114, 101, 100, 32, 114, 101, 100], [114, 103, 98], [114, 103, 98, 40, 41], [114, 103, 98, 40, 49, 44, 50, 41], [114, 103, 98, 40, 49, 32, 50, 41], [114, 103, 98, 40, 49, 44, 50, 32, 51, 41], [114, 103, 98, 40, 49, 32, 50, 44, 51, 41], [114, 103, 98, 40, 49, 44, 50, 44, 51, 47, 49, 41], [114, 103, 98, 40, 49, 32, 50, 32, 51, 44, 49, 41], [114, 103, 98, 40, 49, 32, 50, 32, 51, 32, 49, 41], [114, 103, 98, 40, 49, 44, 44, 50, 44, 51, 41], [114, 103, 98, 40, 44, 49, 44, 50, 44, 51, 41], [114, 103, 98, 40, 49, 44, 50, 44, 51, 44, 41], [114, 103, 98, 40, 49, 32, 50, 32, 51, 32, 47, 41], [114, 103, 98, 40, 49, 32, 50, 32, 51, 32, 47, 32, 49, 32, 49, 41], [114, 103, 98, 40, 49, 47, 50, 47, 51, 41], [114, 103, 98, 40, 49, 37, 44, 50, 37, 44, 51, 37, 41], [114, 103, 98, 40, 97, 44, 98, 44, 99, 41], [114, 103, 98, 40, 40, 49, 41, 32, 50, 32, 51, 41], [104, 115, 108, 40, 49, 44, 50, 44, 51, 41], [35, 49, 50], [35, 49, 50, 51, 52, 53], [35, 49, 50, 51, 52, 53, 54, 55], [35, 49, 50, 51, 52, 53, 54, 55, 56, 57], [35, 49, 50, 103], [34, 114, 101, 100, 34], [103, 114, 101, 101, 110], [35], [99, 117, 114, 114, 101, 110, 116, 99, 111, 108, 111, 114]] : List Str) v54)⟩⟩)] [1, 2, 3, 4, 5, 105] [(1, [], .bool x17), (2, [], .bool x26), (3, [], .bool x42), (4, [], .slice g45.a 30 g45.c), (5, [], vI v54), (105, [], vS x58)] [fun _ => oka g45.a ∧ 0 ≤ v54 ∧ v54 < ln ([[], [114, 101, 100, 32, 114, 101, 100], [114, 103, 98], [114, 103, 98, 40, 41], [114, 103, 98, 40, 49, 44, 50, 41], [114, 103, 98, 40, 49, 32, 50, 41], [114, 103, 98, 40, 49, 44, 50, 32, 51, 41], [114, 103, 98, 40, 49, 32, 50, 44, 51, 41], [114, 103, 98, 40, 49, 44, 50, 44, 51, 47, 49, 41], [114, 103, 98, 40, 49, 32, 50, 32, 51, 44, 49, 41], [114, 103, 98, 40, 49, 32, 50, 32, 51, 32, 49, 41], [114, 103, 98, 40, 49, 44, 44, 50, 44, 51, 41], [114, 103, 98, 40, 44, 49, 44, 50, 44, 51, 41], [114, 103, 98, 40, 49, 44, 50, 44, 51, 44, 41], [114, 103, 98, 40, 49, 32, 50, 32, 51, 32, 47, 41], [114, 103, 98, 40, 49, 32, 50, 32, 51, 32, 47, 32, 49, 32, 49, 41], [114, 103, 98, 40, 49, 47, 50, 47, 51, 41], [114, 103, 98, 40, 49, 37, 44, 50, 37, 44, 51, 37, 41], [114, 103, 98, 40, 97, 44, 98, 44, 99, 41], [114, 103, 98, 40, 40, 49, 41, 32, 50, 32, 51, 41], [104, 115, 108, 40, 49, 44, 50, 44, 51, 41], [35, 49, 50], [35, 49, 50, 51, 52, 53], [35, 49, 50, 51, 52, 53, 54, 55], [35, 49, 50, 51, 52, 53, 54, 55, 56, 57], [35, 49, 50, 103], [34, 114, 101, 100, 34], [103, 114, 101, 101, 110], [35], [99, 117, 114, 114, 101, 110, 116, 99, 111, 108, 111, 114]] : List Str), fun wz => V.at1 ⟨ab g45.a, ao g45.a + (v54).toNat * 1, none⟩ (.string ⟨⟨(gi ([[], [114, 101, 100, 32, 114, 101, 100], [114, 103, 98], [114, 103, 98, 40, 41], [114, 103, 98, 40, 49, 44, 50, 41], [114, 103, 98, 40, 49, 32, 50, 41], [114, 103, 98, 40, 49, 44, 50, 32, 51, 41], [114, 103, 98, 40, 49, 32, 50, 44, 51, 41], [114, 103, 98, 40, 49, 44, 50, 44, 51, 47, 49, 41], [114, 103, 98, 40, 49, 32, 50, 32, 51, 44, 49, 41], [114, 103, 98, 40, 49, 32, 50, 32, 51, 32, 49, 41], [114, 103, 98, 40, 49, 44, 44, 50, 44, 51, 41], [114, 103, 98, 40, 44, 49, 44, 50, 44, 51, 41], [114, 103, 98, 40, 49, 44, 50, 44, 51, 44, 41], [114, 103, 98, 40, 49, 32, 50, 32, 51, 32, 47, 41], [114, 103, 98, 40, 49, 32, 50, 32, 51, 32, 47, 32, 49, 32, 49, 41], [114, 103, 98, 40, 49, 47, 50, 47, 51, 41], [114, 103, 98, 40, 49, 37, 44, 50, 37, 44, 51, 37, 41], [114, 103, 98, 40, 97, 44, 98, 44, 99, 41], [114, 103, 98, 40, 40, 49, 41, 32, 50, 32, 51, 41], [104, 115, 108, 40, 49, 44, 50, 44, 51, 41], [35, 49, 50], [35, 49, 50, 51, 52, 53], [35, 49, 50, 51, 52, 53, 54, 55], [35, 49, 50, 51, 52, 53, 54, 55, 56, 57], [35, 49, 50, 103], [34, 114, 101, 100, 34], [103, 114, 101, 101, 110], [35], [99, 117, 114, 114, 101, 110, 116, 99, 111, 108, 111, 114]] : List Str) v54)⟩⟩) wz] H56 (by decide) (by subst hx58; kernel_rfl) ⟨((hS.osl 0 rfl).oki ho57), ((hS.osl 0 rfl).at1 ho57 0 rfl), trivial⟩ fun _ wd59 H60 hb => ?_
   clear H56
   replace hS := hS.below hb
   clear hb
   obtain ⟨y61, hy61, hm⟩ := bindE hm
   have hd := hS.hand [] [0, 1, 2, 3] rfl rfl
   refine m_stp [106, 1, 2, 3, 4, 5] [(1, [], .bool x17), (2, [], .bool x26), (3, [], .bool x42), (4, [], .slice g45.a 30 g45.c), (5, [], vI v54)] H60 rfl rfl rfl rfl (o_callx H60 rfl rfl (r04_Of_ok m _ _ hy61 _ _ hd)) (fun _ => rfl) fun _ wd64 v H65 hq => ?_
   clear H60 hd
   obtain ⟨g62, rfl, hq⟩ := hq
   replace hS : SH M X w [eI tyValue y61 g62, eO 9 tS ([[], [114, 101, 100, 32, 114, 101, 100], [114, 103, 98], [114, 103, 98, 40, 41], [114, 103, 98, 40, 49, 44, 50, 41], [114, 103, 98, 40, 49, 32, 50, 41], [114, 103, 98, 40, 49, 44, 50, 32, 51, 41], [114, 103, 98, 40, 49, 32, 50, 44, 51, 41], [114, 103, 98, 40, 49, 44, 50, 44, 51, 47, 49, 41], [114, 103, 98, 40, 49, 32, 50, 32, 51, 44, 49, 41], [114, 103, 98, 40, 49, 32, 50, 32, 51, 32, 49, 41], [114, 103, 98, 40, 49, 44, 44, 50, 44, 51, 41], [114, 103, 98, 40, 44, 49, 44, 50, 44, 51, 41], [114, 103, 98, 40, 49, 44, 50, 44, 51, 44, 41], [114, 103, 98, 40, 49, 32, 50, 32, 51, 32, 47, 41], [114, 103, 98, 40, 49, 32, 50, 32, 51, 32, 47, 32, 49, 32, 49, 41], [114, 103, 98, 40, 49, 47, 50, 47, 51, 41], [114, 103, 98, 40, 49, 37, 44, 50, 37, 44, 51, 37, 41], [114, 103, 98, 40, 97, 44, 98, 44, 99, 41], [114, 103, 98, 40, 40, 49, 41, 32, 50, 32, 51, 41], [104, 115, 108, 40, 49, 44, 50, 44, 51, 41], [35, 49, 50], [35, 49, 50, 51, 52, 53], [35, 49, 50, 51, 52, 53, 54, 55], [35, 49, 50, 51, 52, 53, 54, 55, 56, 57], [35, 49, 50, 103], [34, 114, 101, 100, 34], [103, 114, 101, 101, 110], [35], [99, 117, 114, 114, 101, 110, 116, 99, 111, 108, 111, 114]] : List Str) g45, gE1, Ent.tab 0 (Lib.pow10Tab.map fun z => Value.int .u64 z), gE5] _ := hS.join [] [0, 1, 2, 3] rfl rfl hq
   clear hq
   obtain ⟨y66, hy66, hm⟩ := bindE hm
   refine wl_batch 5 9 [(.tuple ⟨[.agg ⟨[vU y66.1.Red, vU y66.1.Green, vU y66.1.Blue, vU y66.1.Alpha]⟩, vI y66.2]⟩)] [1, 2, 3, 4, 5, 108, 109] [(1, [], .bool x17), (2, [], .bool x26), (3, [], .bool x42), (4, [], .slice g45.a 30 g45.c), (5, [], vI v54), (108, [], .agg ⟨[vU y66.1.Red, vU y66.1.Green, vU y66.1.Blue, vU y66.1.Alpha]⟩), (109, [], vI y66.2)] [fun wz => RetB Tryz.prog 14 ⟨[vL g62 y61]⟩ (.tuple ⟨[.agg ⟨[vU y66.1.Red, vU y66.1.Green, vU y66.1.Blue, vU y66.1.Alpha]⟩, vI y66.2]⟩) wz] H65 (by decide) (by kernel_rfl) ⟨(parseval_Color_ok (g_l_ := g62) m _ _ hy66 _ (s0im s0nil (hS.im 0 rfl))), trivial⟩ fun _ wd67 H68 hb => ?_
   clear H65
   replace hS := hS.below hb
   clear hb
   have hd := hS.hand [] [0, 1, 2, 3, 4] rfl rfl
   refine m_stp [6, 1, 2, 3, 4, 5, 108, 109] [(1, [], .bool x17), (2, [], .bool x26), (3, [], .bool x42), (4, [], .slice g45.a 30 g45.c), (5, [], vI v54), (108, [], .agg ⟨[vU y66.1.Red, vU y66.1.Green, vU y66.1.Blue, vU y66.1.Alpha]⟩), (109, [], vI y66.2)] H68 rfl rfl rfl rfl (o_alloc [vU 0, vU 0, vU 0, vU 0] (z := .agg ⟨[vU 0, vU 0, vU 0, vU 0]⟩) hd (by kernel_rfl) rfl) (fun _ => rfl) fun _ wd70 v H71 hq => ?_
   clear H68 hd
   obtain ⟨b69, rfl, hq⟩ := hq
   replace hS : SH M X w [eB b69 [vU 0, vU 0, vU 0, vU 0], eI tyValue y61 g62, eO 9 tS ([[], [114, 101, 100, 32, 114, 101, 100], [114, 103, 98], [114, 103, 98, 40, 41], [114, 103, 98, 40, 49, 44, 50, 41], [114, 103, 98, 40, 49, 32, 50, 41], [114, 103, 98, 40, 49, 44, 50, 32, 51, 41], [114, 103, 98, 40, 49, 32, 50, 44, 51, 41], [114, 103, 98, 40, 49, 44, 50, 44, 51, 47, 49, 41], [114, 103, 98, 40, 49, 32, 50, 32, 51, 44, 49, 41], [114, 103, 98, 40, 49, 32, 50, 32, 51, 32, 49, 41], [114, 103, 98, 40, 49, 44, 44, 50, 44, 51, 41], [114, 103, 98, 40, 44, 49, 44, 50, 44, 51, 41], [114, 103, 98, 40, 49, 44, 50, 44, 51, 44, 41], [114, 103, 98, 40, 49, 32, 50, 32, 51, 32, 47, 41], [114, 103, 98, 40, 49, 32, 50, 32, 51, 32, 47, 32, 49, 32, 49, 41], [114, 103, 98, 40, 49, 47, 50, 47, 51, 41], [114, 103, 98, 40, 49, 37, 44, 50, 37, 44, 51, 37, 41], [114, 103, 98, 40, 97, 44, 98, 44, 99, 41], [114, 103, 98, 40, 40, 49, 41, 32, 50, 32, 51, 41], [104, 115, 108, 40, 49, 44, 50, 44, 51, 41], [35, 49, 50], [35, 49, 50, 51, 52, 53], [35, 49, 50, 51, 52, 53, 54, 55], [35, 49, 50, 51, 52, 53, 54, 55, 56, 57], [35, 49, 50, 103], [34, 114, 101, 100, 34], [103, 114, 101, 101, 110], [35], [99, 117, 114, 114, 101, 110, 116, 99, 111, 108, 111, 114]] : List Str) g45, gE1, Ent.tab 0 (Lib.pow10Tab.map fun z => Value.int .u64 z), gE5] _ := hS.join [] [0, 1, 2, 3, 4] rfl rfl hq
   clear hq
   have hd := hS.hand [0] [1, 2, 3, 4, 5] rfl rfl
   refine m_stp0 [1, 2, 3, 4, 5, 6, 109] [(1, [], .bool x17), (2, [], .bool x26), (3, [], .bool x42), (4, [], .slice g45.a 30 g45.c), (5, [], vI v54), (6, [], vP b69), (109, [], vI y66.2)] H71 rfl rfl rfl (o_store [vU y66.1.Red, vU y66.1.Green, vU y66.1.Blue, vU y66.1.Alpha] H71 hd rfl rfl (by kernel_rfl) rfl rfl rfl) rfl fun _ wd72 H73 hq => ?_
   clear H71 hd
   obtain ⟨_, hq⟩ := hq
   replace hS : SH M X w [eB b69 [vU y66.1.Red, vU y66.1.Green, vU y66.1.Blue, vU y66.1.Alpha], eI tyValue y61 g62, eO 9 tS ([[], [114, 101, 100, 32, 114, 101, 100], [114, 103, 98], [114, 103, 98, 40, 41], [114, 103, 98, 40, 49, 44, 50, 41], [114, 103, 98, 40, 49, 32, 50, 41], [114, 103, 98, 40, 49, 44, 50, 32, 51, 41], [114, 103, 98, 40, 49, 32, 50, 44, 51, 41], [114, 103, 98, 40, 49, 44, 50, 44, 51, 47, 49, 41], [114, 103, 98, 40, 49, 32, 50, 32, 51, 44, 49, 41], [114, 103, 98, 40, 49, 32, 50, 32, 51, 32, 49, 41], [114, 103, 98, 40, 49, 44, 44, 50, 44, 51, 41], [114, 103, 98, 40, 44, 49, 44, 50, 44, 51, 41], [114, 103, 98, 40, 49, 44, 50, 44, 51, 44, 41], [114, 103, 98, 40, 49, 32, 50, 32, 51, 32, 47, 41], [114, 103, 98, 40, 49, 32, 50, 32, 51, 32, 47, 32, 49, 32, 49, 41], [114, 103, 98, 40, 49, 47, 50, 47, 51, 41], [114, 103, 98, 40, 49, 37, 44, 50, 37, 44, 51, 37, 41], [114, 103, 98, 40, 97, 44, 98, 44, 99, 41], [114, 103, 98, 40, 40, 49, 41, 32, 50, 32, 51, 41], [104, 115, 108, 40, 49, 44, 50, 44, 51, 41], [35, 49, 50], [35, 49, 50, 51, 52, 53], [35, 49, 50, 51, 52, 53, 54, 55], [35, 49, 50, 51, 52, 53, 54, 55, 56, 57], [35, 49, 50, 103], [34, 114, 101, 100, 34], [103, 114, 101, 101, 110], [35], [99, 117, 114, 114, 101, 110, 116, 99, 111, 108, 111, 114]] : List Str) g45, gE1, Ent.tab 0 (Lib.pow10Tab.map fun z => Value.int .u64 z), gE5] _ := hS.join [0] [1, 2, 3, 4, 5] rfl rfl hq
   clear hq
   refine wl_batch 11 12 [] [1, 2, 3, 4, 5, 6, 7] [(1, [], .bool x17), (2, [], .bool x26), (3, [], .bool x42), (4, [], .slice g45.a 30 g45.c), (5, [], vI v54), (6, [], vP b69), (7, [], vI y66.2)] [] H73 (by decide) (by kernel_rfl) trivial fun _ wd74 H75 hb => ?_
   clear H73
   replace hS := hS.below hb
   clear hb
   refine wl_end rfl ?_
   replace hS : SH M X w [eB b69 [vU y66.1.Red, vU y66.1.Green, vU y66.1.Blue, vU y66.1.Alpha], eO 9 tS ([[], [114, 101, 100, 32, 114, 101, 100], [114, 103, 98], [114, 103, 98, 40, 41], [114, 103, 98, 40, 49, 44, 50, 41], [114, 103, 98, 40, 49, 32, 50, 41], [114, 103, 98, 40, 49, 44, 50, 32, 51, 41], [114, 103, 98, 40, 49, 32, 50, 44, 51, 41], [114, 103, 98, 40, 49, 44, 50, 44, 51, 47, 49, 41], [114, 103, 98, 40, 49, 32, 50, 32, 51, 44, 49, 41], [114, 103, 98, 40, 49, 32, 50, 32, 51, 32, 49, 41], [114, 103, 98, 40, 49, 44, 44, 50, 44, 51, 41], [114, 103, 98, 40, 44, 49, 44, 50, 44, 51, 41], [114, 103, 98, 40, 49, 44, 50, 44, 51, 44, 41], [114, 103, 98, 40, 49, 32, 50, 32, 51, 32, 47, 41], [114, 103, 98, 40, 49, 32, 50, 32, 51, 32, 47, 32, 49, 32, 49, 41], [114, 103, 98, 40, 49, 47, 50, 47, 51, 41], [114, 103, 98, 40, 49, 37, 44, 50, 37, 44, 51, 37, 41], [114, 103, 98, 40, 97, 44, 98, 44, 99, 41], [114, 103, 98, 40, 40, 49, 41, 32, 50, 32, 51, 41], [104, 115, 108, 40, 49, 44, 50, 44, 51, 41], [35, 49, 50], [35, 49, 50, 51, 52, 53], [35, 49, 50, 51, 52, 53, 54, 55], [35, 49, 50, 51, 52, 53, 54, 55, 56, 57], [35, 49, 50, 103], [34, 114, 101, 100, 34], [103, 114, 101, 101, 110], [35], [99, 117, 114, 114, 101, 110, 116, 99, 111, 108, 111, 114]] : List Str) g45, gE1, Ent.tab 0 (Lib.pow10Tab.map fun z => Value.int .u64 z), gE5] _ := hS.sel [0, 2, 3, 4, 5] rfl
   obtain ⟨x76, hx76, hm⟩ := letE hm
   refine s_reg [(.agg ⟨[vU y66.1.Red, vU y66.1.Green, vU y66.1.Blue, vU y66.1.Alpha]⟩)] [1, 2, 3, 4, 5, 116] [(1, [], .bool x17), (2, [], .bool x26), (3, [], .bool x42), (4, [], .slice g45.a 30 g45.c), (5, [], vI v54), (116, [], .bool x76)] [fun wz => ((y66.2 != 12) = false ∧ True → V.atN b69 0 [vU y66.1.Red, vU y66.1.Green, vU y66.1.Blue, vU y66.1.Alpha] 0 wz)] H75 (by subst hx76; kernel_rfl) ⟨fun hg => (hS.bk 0 rfl).atD rfl, trivial⟩ fun _ wd77 H78 hb => ?_
   clear H75
   replace hS := hS.below hb
   clear hb
   replace hS : SH M X w [eO 9 tS ([[], [114, 101, 100, 32, 114, 101, 100], [114, 103, 98], [114, 103, 98, 40, 41], [114, 103, 98, 40, 49, 44, 50, 41], [114, 103, 98, 40, 49, 32, 50, 41], [114, 103, 98, 40, 49, 44, 50, 32, 51, 41], [114, 103, 98, 40, 49, 32, 50, 44, 51, 41], [114, 103, 98, 40, 49, 44, 50, 44, 51, 47, 49, 41], [114, 103, 98, 40, 49, 32, 50, 32, 51, 44, 49, 41], [114, 103, 98, 40, 49, 32, 50, 32, 51, 32, 49, 41], [114, 103, 98, 40, 49, 44, 44, 50, 44, 51, 41], [114, 103, 98, 40, 44, 49, 44, 50, 44, 51, 41], [114, 103, 98, 40, 49, 44, 50, 44, 51, 44, 41], [114, 103, 98, 40, 49, 32, 50, 32, 51, 32, 47, 41], [114, 103, 98, 40, 49, 32, 50, 32, 51, 32, 47, 32, 49, 32, 49, 41], [114, 103, 98, 40, 49, 47, 50, 47, 51, 41], [114, 103, 98, 40, 49, 37, 44, 50, 37, 44, 51, 37, 41], [114, 103, 98, 40, 97, 44, 98, 44, 99, 41], [114, 103, 98, 40, 40, 49, 41, 32, 50, 32, 51, 41], [104, 115, 108, 40, 49, 44, 50, 44, 51, 41], [35, 49, 50], [35, 49, 50, 51, 52, 53], [35, 49, 50, 51, 52, 53, 54, 55], [35, 49, 50, 51, 52, 53, 54, 55, 56, 57], [35, 49, 50, 103], [34, 114, 101, 100, 34], [103, 114, 101, 101, 110], [35], [99, 117, 114, 114, 101, 110, 116, 99, 111, 108, 111, 114]] : List Str) g45, gE1, Ent.tab 0 (Lib.pow10Tab.map fun z => Value.int .u64 z), gE5] _ := hS.sel [1, 2, 3, 4] rfl
   refine w_if H78 rfl (fun hc => ?_) (fun hc => ?c83)
   case c83 =>
    replace hm := bF hc hm
    refine w_skip ?_
    refine w_reg [] [1, 2, 3, 4, 5] [(1, [], .bool x17), (2, [], .bool x26), (3, [], .bool x42), (4, [], .slice g45.a 30 g45.c), (5, [], vI (w64 (v54 + 1)))] [] H78 (by kernel_rfl) trivial fun _ wd81 H82 hb => ?_
    clear H78
    replace hS := hS.below hb
    clear hb
    exact ⟨_, Nat.lt_succ_self _, w64 (v54 + 1), hm, FrG.keep (ks := [1, 2, 3, 4, 5]) H82 (by kernel_rfl), hS⟩
   replace hm := bT hc hm
   refine s_reg [] [0] [(0, [], vF)] [] H78 (by kernel_rfl) trivial fun _ wd79 H80 hb => ?_
   clear H78
   replace hS := hS.below hb
   clear hb
   refine w_ret ?_
   obtain rfl := someE hm
   have hm := hm_z51
   obtain rfl := someE hm
   exact retR1 H80 rfl rfl ⟨_, rfl, rfl, (hS.sel [] rfl)⟩
 ·rintro _ wd202 ⟨s_z51, hz, H, hS⟩
  subst hz
  replace hm := sumR hm_z51
  replace hS : SH M X w [gE1, Ent.tab 0 (Lib.pow10Tab.map fun z => Value.int .u64 z), gE5] _ := hS.sel [1, 2, 3] rfl
  obtain ⟨y86, hy86, hm⟩ := letE hm
  obtain ⟨y87, hy87, hm⟩ := bindE hm
  obtain ⟨y88, hy88, hm⟩ := letE hm
  obtain ⟨y89, hy89, hm⟩ := bindE hm
  obtain ⟨y90, hy90, hm⟩ := bindE hm
  obtain ⟨y91, hy91, hm⟩ := bindE hm
  obtain ⟨x92, hx92, hm⟩ := letE hm
  obtain ⟨y93, hy93, hm⟩ := bindE hm
  obtain ⟨y94, hy94, hm⟩ := bindE hm
  obtain ⟨y95, hy95, hm⟩ := letE hm
  obtain ⟨y96, hy96, hm⟩ := bindE hm
  obtain ⟨x97, hx97, hm⟩ := letE hm
  obtain ⟨y98, hy98, hm⟩ := letE hm
  obtain ⟨y99, hy99, hm⟩ := bindE hm
  obtain ⟨y100, hy100, hm⟩ := bindE hm
  obtain ⟨y101, hy101, hm⟩ := bindE hm
  obtain ⟨x102, hx102, hm⟩ := letE hm
  obtain ⟨y103, hy103, hm⟩ := bindE hm
  obtain ⟨y104, hy104, hm⟩ := bindE hm
  refine s_reg [(.agg ⟨[vU y86.Kind, .string ⟨⟨y86.Word⟩⟩, vI y86.Num, vU y86.Color.Red, vU y86.Color.Green, vU y86.Color.Blue, vU y86.Color.Alpha]⟩), (.bool y87), (.agg ⟨[vU y88.Kind, .string ⟨⟨y88.Word⟩⟩, vI y88.Num, vU y88.Color.Red, vU y88.Color.Green, vU y88.Color.Blue, vU y88.Color.Alpha]⟩), (.bool y89), (.bool y90), (.bool y91), (.bool y93), (.bool y94), (.agg ⟨[vU y95.Kind, .string ⟨⟨y95.Word⟩⟩, vI y95.Num, vU y95.Color.Red, vU y95.Color.Green, vU y95.Color.Blue, vU y95.Color.Alpha]⟩), (.bool y96), (.agg ⟨[vU y98.Kind, .string ⟨⟨y98.Word⟩⟩, vI y98.Num, vU y98.Color.Red, vU y98.Color.Green, vU y98.Color.Blue, vU y98.Color.Alpha]⟩), (.bool y99), (.bool y100), (.bool y101), (.bool y103), (.bool y104)] [1, 2, 3, 8] [(1, [], .bool x17), (2, [], .bool x26), (3, [], .bool x42), (8, [], .bool (cond (cond x102 y103 false) y104 false))] [fun wz => RetB Tryz.prog 19 ⟨[vS [105, 110, 108, 105, 110, 101, 45, 98, 108, 111, 99, 107]]⟩ (.agg ⟨[vU y86.Kind, .string ⟨⟨y86.Word⟩⟩, vI y86.Num, vU y86.Color.Red, vU y86.Color.Green, vU y86.Color.Blue, vU y86.Color.Alpha]⟩) wz, fun wz => RetB Tryz.prog 18 ⟨[vI 4, vS [73, 78, 76, 73, 78, 69, 45, 98, 108, 111, 99, 107], .agg ⟨[vU y86.Kind, .string ⟨⟨y86.Word⟩⟩, vI y86.Num, vU y86.Color.Red, vU y86.Color.Green, vU y86.Color.Blue, vU y86.Color.Alpha]⟩]⟩ (.bool y87) wz, fun wz => (y87 = true ∧ True → RetB Tryz.prog 19 ⟨[vS [104, 105, 100, 100, 101, 110]]⟩ (.agg ⟨[vU y88.Kind, .string ⟨⟨y88.Word⟩⟩, vI y88.Num, vU y88.Color.Red, vU y88.Color.Green, vU y88.Color.Blue, vU y88.Color.Alpha]⟩) wz), fun wz => (y87 = true ∧ True → RetB Tryz.prog 18 ⟨[vI 5, vS [104, 105, 100, 100, 101, 110], .agg ⟨[vU y88.Kind, .string ⟨⟨y88.Word⟩⟩, vI y88.Num, vU y88.Color.Red, vU y88.Color.Green, vU y88.Color.Blue, vU y88.Color.Alpha]⟩]⟩ (.bool y89) wz), fun wz => ((cond y87 y89 false) = true ∧ True → RetB Tryz.prog 18 ⟨[vI 7, vS [50, 80, 88], .agg ⟨[vU 2, vN, vI 2000, vU 0, vU 0, vU 0, vU 0]⟩]⟩ (.bool y90) wz), fun wz => ((cond (cond y87 y89 false) y90 false) = true ∧ True → RetB Tryz.prog 18 ⟨[vI 8, vS [45, 48, 46, 50, 53, 114, 101, 109], .agg ⟨[vU 4, vN, vI (-250), vU 0, vU 0, vU 0, vU 0]⟩]⟩ (.bool y91) wz), fun wz => (x92 = true ∧ True → RetB Tryz.prog 18 ⟨[vI 12, vS [48, 46, 48], .agg ⟨[vU 2, vN, vI 0, vU 0, vU 0, vU 0, vU 0]⟩]⟩ (.bool y93) wz), fun wz => ((cond x92 y93 false) = true ∧ True → RetB Tryz.prog 18 ⟨[vI 13, vS [49, 46, 53], .agg ⟨[vU 5, vN, vI 1500, vU 0, vU 0, vU 0, vU 0]⟩]⟩ (.bool y94) wz), fun wz => ((cond (cond x92 y93 false) y94 false) = true ∧ True → RetB Tryz.prog 19 ⟨[vS [110, 111, 114, 109, 97, 108]]⟩ (.agg ⟨[vU y95.Kind, .string ⟨⟨y95.Word⟩⟩, vI y95.Num, vU y95.Color.Red, vU y95.Color.Green, vU y95.Color.Blue, vU y95.Color.Alpha]⟩) wz), fun wz => ((cond (cond x92 y93 false) y94 false) = true ∧ True → RetB Tryz.prog 18 ⟨[vI 13, vS [110, 111, 114, 109, 97, 108], .agg ⟨[vU y95.Kind, .string ⟨⟨y95.Word⟩⟩, vI y95.Num, vU y95.Color.Red, vU y95.Color.Green, vU y95.Color.Blue, vU y95.Color.Alpha]⟩]⟩ (.bool y96) wz), fun wz => (x97 = true ∧ True → RetB Tryz.prog 19 ⟨[vS [106, 117, 115, 116, 105, 102, 121]]⟩ (.agg ⟨[vU y98.Kind, .string ⟨⟨y98.Word⟩⟩, vI y98.Num, vU y98.Color.Red, vU y98.Color.Green, vU y98.Color.Blue, vU y98.Color.Alpha]⟩) wz), fun wz => (x97 = true ∧ True → RetB Tryz.prog 18 ⟨[vI 14, vS [74, 117, 115, 116, 105, 102, 121], .agg ⟨[vU y98.Kind, .string ⟨⟨y98.Word⟩⟩, vI y98.Num, vU y98.Color.Red, vU y98.Color.Green, vU y98.Color.Blue, vU y98.Color.Alpha]⟩]⟩ (.bool y99) wz), fun wz => ((cond x97 y99 false) = true ∧ True → RetB Tryz.prog 18 ⟨[vI 15, vS [45, 55], .agg ⟨[vU 5, vN, vI (-7000), vU 0, vU 0, vU 0, vU 0]⟩]⟩ (.bool y100) wz), fun wz => ((cond (cond x97 y99 false) y100 false) = true ∧ True → RetB Tryz.prog 18 ⟨[vI 17, vS [45, 48], .agg ⟨[vU 6, vN, vI 0, vU 0, vU 0, vU 0, vU 0]⟩]⟩ (.bool y101) wz), fun wz => (x102 = true ∧ True → RetB Tryz.prog 18 ⟨[vI 16, vS [57, 57, 57, 57, 57, 57, 57, 57, 57, 57], .agg ⟨[vU 6, vN, vI 1000000000, vU 0, vU 0, vU 0, vU 0]⟩]⟩ (.bool y103) wz), fun wz => ((cond x102 y103 false) = true ∧ True → RetB Tryz.prog 18 ⟨[vI 0, vS [67, 117, 114, 114, 101, 110, 116, 67, 111, 108, 111, 114], .agg ⟨[vU 8, vN, vI 0, vU 0, vU 0, vU 0, vU 0]⟩]⟩ (.bool y104) wz)] H (by subst hy86 hy88 hx92 hy95 hx97 hy98 hx102; kernel_rfl) ⟨((by rw [hy86]; exact (law26_word_ok _).b)), (law26_reads_ok m _ _ _ _ hy87 _ (s0im s0nil (hS.im 0 rfl))), fun hg => (by rw [hy88]; exact (law26_word_ok _).b), fun hg => law26_reads_ok m _ _ _ _ (bT (hg.1) hy89) _ (s0im s0nil (hS.im 0 rfl)), fun hg => law26_reads_ok m _ _ _ _ (bT (hg.1) hy90) _ (s0im s0nil (hS.im 0 rfl)), fun hg => law26_reads_ok m _ _ _ _ (bT (hg.1) hy91) _ (s0im s0nil (hS.im 0 rfl)), fun hg => law26_reads_ok m _ _ _ _ (bT (hg.1) hy93) _ (s0im s0nil (hS.im 0 rfl)), fun hg => law26_reads_ok m _ _ _ _ (bT (hg.1) hy94) _ (s0im s0nil (hS.im 0 rfl)), fun hg => (by rw [hy95]; exact (law26_word_ok _).b), fun hg => law26_reads_ok m _ _ _ _ (bT (hg.1) hy96) _ (s0im s0nil (hS.im 0 rfl)), fun hg => (by rw [hy98]; exact (law26_word_ok _).b), fun hg => law26_reads_ok m _ _ _ _ (bT (hg.1) hy99) _ (s0im s0nil (hS.im 0 rfl)), fun hg => law26_reads_ok m _ _ _ _ (bT (hg.1) hy100) _ (s0im s0nil (hS.im 0 rfl)), fun hg => law26_reads_ok m _ _ _ _ (bT (hg.1) hy101) _ (s0im s0nil (hS.im 0 rfl)), fun hg => law26_reads_ok m _ _ _ _ (bT (hg.1) hy103) _ (s0im s0nil (hS.im 0 rfl)), fun hg => law26_reads_ok m _ _ _ _ (bT (hg.1) hy104) _ (s0im s0nil (hS.im 0 rfl)), trivial⟩ fun _ wd105 H106 hb => ?_
  clear H
  replace hS := hS.below hb
  clear hb
  obtain ⟨y107, hy107, hm⟩ := bindE hm
  obtain ⟨y108, hy108, hm⟩ := bindE hm
  obtain ⟨y109, hy109, hm⟩ := bindE hm
  obtain ⟨y110, hy110, hm⟩ := bindE hm
  obtain ⟨x111, hx111, hm⟩ := letE hm
  obtain ⟨y112, hy112, hm⟩ := bindE hm
  obtain ⟨y113, hy113, hm⟩ := bindE hm
  obtain ⟨y114, hy114, hm⟩ := bindE hm
  obtain ⟨x115, hx115, hm⟩ := letE hm
  obtain ⟨y116, hy116, hm⟩ := bindE hm
  obtain ⟨y117, hy117, hm⟩ := bindE hm
  obtain ⟨y118, hy118, hm⟩ := bindE hm
  obtain ⟨x119, hx119, hm⟩ := letE hm
  obtain ⟨y120, hy120, hm⟩ := bindE hm
  obtain ⟨y121, hy121, hm⟩ := bindE hm
  obtain ⟨y122, hy122, hm⟩ := bindE hm
  obtain ⟨x123, hx123, hm⟩ := letE hm
  obtain ⟨y124, hy124, hm⟩ := bindE hm
  obtain ⟨y125, hy125, hm⟩ := bindE hm
  obtain ⟨y126, hy126, hm⟩ := bindE hm
  obtain ⟨x127, hx127, hm⟩ := letE hm
  refine s_reg [(.bool y107), (.bool y108), (.bool y109), (.bool y110), (.bool y112), (.bool y113), (.bool y114), (.bool y116), (.bool y117), (.bool y118), (.bool y120), (.bool y121), (.bool y122), (.bool y124), (.bool y125), (.bool y126)] [1, 2, 3, 8, 9] [(1, [], .bool x17), (2, [], .bool x26), (3, [], .bool x42), (8, [], .bool (cond (cond x102 y103 false) y104 false)), (9, [], .bool x127)] [fun wz => RetB Tryz.prog 20 ⟨[vI 6, vS [45, 49, 112, 120]]⟩ (.bool y107) wz, fun wz => (y107 = true ∧ True → RetB Tryz.prog 20 ⟨[vI 6, vS [49]]⟩ (.bool y108) wz), fun wz => ((cond y107 y108 false) = true ∧ True → RetB Tryz.prog 20 ⟨[vI 6, vS [49, 37]]⟩ (.bool y109) wz), fun wz => ((cond (cond y107 y108 false) y109 false) = true ∧ True → RetB Tryz.prog 20 ⟨[vI 6, vS [49, 112, 116]]⟩ (.bool y110) wz), fun wz => (x111 = true ∧ True → RetB Tryz.prog 20 ⟨[vI 6, vS [110, 111, 110, 101]]⟩ (.bool y112) wz), fun wz => ((cond x111 y112 false) = true ∧ True → RetB Tryz.prog 20 ⟨[vI 12, vS [109, 101, 100, 105, 117, 109]]⟩ (.bool y113) wz), fun wz => ((cond (cond x111 y112 false) y113 false) = true ∧ True → RetB Tryz.prog 20 ⟨[vI 13, vS [45, 49]]⟩ (.bool y114) wz), fun wz => (x115 = true ∧ True → RetB Tryz.prog 20 ⟨[vI 4, vS [114, 101, 100]]⟩ (.bool y116) wz), fun wz => ((cond x115 y116 false) = true ∧ True → RetB Tryz.prog 20 ⟨[vI 17, vS [97, 117, 116, 111]]⟩ (.bool y117) wz), fun wz => ((cond (cond x115 y116 false) y117 false) = true ∧ True → RetB Tryz.prog 20 ⟨[vI 17, vS [49, 101, 48]]⟩ (.bool y118) wz), fun wz => (x119 = true ∧ True → RetB Tryz.prog 20 ⟨[vI 15, vS [53, 48, 37]]⟩ (.bool y120) wz), fun wz => ((cond x119 y120 false) = true ∧ True → RetB Tryz.prog 20 ⟨[vI 11, vS [49, 112, 120, 32, 50, 112, 120]]⟩ (.bool y121) wz), fun wz => ((cond (cond x119 y120 false) y121 false) = true ∧ True → RetB Tryz.prog 20 ⟨[vI 0, vS [105, 110, 104, 101, 114, 105, 116]]⟩ (.bool y122) wz), fun wz => (x123 = true ∧ True → RetB Tryz.prog 20 ⟨[vI 0, vS [118, 97, 114, 40, 45, 45, 97, 41]]⟩ (.bool y124) wz), fun wz => ((cond x123 y124 false) = true ∧ True → RetB Tryz.prog 20 ⟨[vI 0, vS [32, 114, 101, 100]]⟩ (.bool y125) wz), fun wz => ((cond (cond x123 y124 false) y125 false) = true ∧ True → RetB Tryz.prog 20 ⟨[vI 4, vS [99, 117, 114, 114, 101, 110, 116, 99, 111, 108, 111, 114]]⟩ (.bool y126) wz)] H106 (by subst hx111 hx115 hx119 hx123 hx127; kernel_rfl) ⟨(law26_none_ok m _ _ _ hy107 _ (s0im s0nil (hS.im 0 rfl))), fun hg => law26_none_ok m _ _ _ (bT (hg.1) hy108) _ (s0im s0nil (hS.im 0 rfl)), fun hg => law26_none_ok m _ _ _ (bT (hg.1) hy109) _ (s0im s0nil (hS.im 0 rfl)), fun hg => law26_none_ok m _ _ _ (bT (hg.1) hy110) _ (s0im s0nil (hS.im 0 rfl)), fun hg => law26_none_ok m _ _ _ (bT (hg.1) hy112) _ (s0im s0nil (hS.im 0 rfl)), fun hg => law26_none_ok m _ _ _ (bT (hg.1) hy113) _ (s0im s0nil (hS.im 0 rfl)), fun hg => law26_none_ok m _ _ _ (bT (hg.1) hy114) _ (s0im s0nil (hS.im 0 rfl)), fun hg => law26_none_ok m _ _ _ (bT (hg.1) hy116) _ (s0im s0nil (hS.im 0 rfl)), fun hg => law26_none_ok m _ _ _ (bT (hg.1) hy117) _ (s0im s0nil (hS.im 0 rfl)), fun hg => law26_none_ok m _ _ _ (bT (hg.1) hy118) _ (s0im s0nil (hS.im 0 rfl)), fun hg => law26_none_ok m _ _ _ (bT (hg.1) hy120) _ (s0im s0nil (hS.im 0 rfl)), fun hg => law26_none_ok m _ _ _ (bT (hg.1) hy121) _ (s0im s0nil (hS.im 0 rfl)), fun hg => law26_none_ok m _ _ _ (bT (hg.1) hy122) _ (s0im s0nil (hS.im 0 rfl)), fun hg => law26_none_ok m _ _ _ (bT (hg.1) hy124) _ (s0im s0nil (hS.im 0 rfl)), fun hg => law26_none_ok m _ _ _ (bT (hg.1) hy125) _ (s0im s0nil (hS.im 0 rfl)), fun hg => law26_none_ok m _ _ _ (bT (hg.1) hy126) _ (s0im s0nil (hS.im 0 rfl)), trivial⟩ fun _ wd128 H129 hb => ?_
  clear H106
  replace hS := hS.below hb
  clear hb
  refine w_seq ?_
  refine wl_start ?_
  obtain ⟨y130, hy130, hm⟩ := bindE hm
  have hd := hS.hand [] [0, 1, 2] rfl rfl
  refine m_stp [210, 1, 2, 3, 8, 9] [(1, [], .bool x17), (2, [], .bool x26), (3, [], .bool x42), (8, [], .bool (cond (cond x102 y103 false) y104 false)), (9, [], .bool x127)] H129 rfl rfl rfl rfl (o_callx H129 rfl rfl (r04_Of_ok m _ _ hy130 _ _ hd)) (fun _ => rfl) fun _ wd133 v H134 hq => ?_
  clear H129 hd
  obtain ⟨g131, rfl, hq⟩ := hq
  replace hS : SH M X w [eI tyValue y130 g131, gE1, Ent.tab 0 (Lib.pow10Tab.map fun z => Value.int .u64 z), gE5] _ := hS.join [] [0, 1, 2] rfl rfl hq
  clear hq
  obtain ⟨y135, hy135, hm⟩ := bindE hm
  refine wl_batch 1 5 [(.tuple ⟨[.agg ⟨[vU y135.1.Kind, .string ⟨⟨y135.1.Word⟩⟩, vI y135.1.Num, vU y135.1.Color.Red, vU y135.1.Color.Green, vU y135.1.Color.Blue, vU y135.1.Color.Alpha]⟩, vI y135.2]⟩)] [1, 2, 3, 8, 9, 212, 213] [(1, [], .bool x17), (2, [], .bool x26), (3, [], .bool x42), (8, [], .bool (cond (cond x102 y103 false) y104 false)), (9, [], .bool x127), (212, [], .agg ⟨[vU y135.1.Kind, .string ⟨⟨y135.1.Word⟩⟩, vI y135.1.Num, vU y135.1.Color.Red, vU y135.1.Color.Green, vU y135.1.Color.Blue, vU y135.1.Color.Alpha]⟩), (213, [], vI y135.2)] [fun wz => RetB Tryz.prog 10 ⟨[vI (-1), vL g131 y130]⟩ (.tuple ⟨[.agg ⟨[vU y135.1.Kind, .string ⟨⟨y135.1.Word⟩⟩, vI y135.1.Num, vU y135.1.Color.Red, vU y135.1.Color.Green, vU y135.1.Color.Blue, vU y135.1.Color.Alpha]⟩, vI y135.2]⟩) wz] H134 (by decide) (by kernel_rfl) ⟨(parseval_Parse_ok (g_l_ := g131) m _ _ _ hy135 _ (s0im (s0im s0nil (hS.im 1 rfl)) (hS.im 0 rfl))), trivial⟩ fun _ wd136 H137 hb => ?_
  clear H134
  replace hS := hS.below hb
  clear hb
  have hd := hS.hand [] [0, 1, 2, 3] rfl rfl
  refine m_stp [10, 1, 2, 3, 8, 9, 212, 213] [(1, [], .bool x17), (2, [], .bool x26), (3, [], .bool x42), (8, [], .bool (cond (cond x102 y103 false) y104 false)), (9, [], .bool x127), (212, [], .agg ⟨[vU y135.1.Kind, .string ⟨⟨y135.1.Word⟩⟩, vI y135.1.Num, vU y135.1.Color.Red, vU y135.1.Color.Green, vU y135.1.Color.Blue, vU y135.1.Color.Alpha]⟩), (213, [], vI y135.2)] H137 rfl rfl rfl rfl (o_alloc [vU 0, vN, vI 0, vU 0, vU 0, vU 0, vU 0] (z := .agg ⟨[vU 0, vN, vI 0, vU 0, vU 0, vU 0, vU 0]⟩) hd (by kernel_rfl) rfl) (fun _ => rfl) fun _ wd139 v H140 hq => ?_
  clear H137 hd
  obtain ⟨b138, rfl, hq⟩ := hq
  replace hS : SH M X w [eB b138 [vU 0, vN, vI 0, vU 0, vU 0, vU 0, vU 0], eI tyValue y130 g131, gE1, Ent.tab 0 (Lib.pow10Tab.map fun z => Value.int .u64 z), gE5] _ := hS.join [] [0, 1, 2, 3] rfl rfl hq
  clear hq
  have hd := hS.hand [0] [1, 2, 3, 4] rfl rfl
  refine m_stp0 [1, 2, 3, 8, 9, 213] [(1, [], .bool x17), (2, [], .bool x26), (3, [], .bool x42), (8, [], .bool (cond (cond x102 y103 false) y104 false)), (9, [], .bool x127), (213, [], vI y135.2)] H140 rfl rfl rfl (o_store [vU y135.1.Kind, .string ⟨⟨y135.1.Word⟩⟩, vI y135.1.Num, vU y135.1.Color.Red, vU y135.1.Color.Green, vU y135.1.Color.Blue, vU y135.1.Color.Alpha] H140 hd rfl rfl (by kernel_rfl) rfl rfl rfl) rfl fun _ wd141 H142 hq => ?_
  clear H140 hd
  obtain ⟨_, hq⟩ := hq
  replace hS : SH M X w [eB b138 [vU y135.1.Kind, .string ⟨⟨y135.1.Word⟩⟩, vI y135.1.Num, vU y135.1.Color.Red, vU y135.1.Color.Green, vU y135.1.Color.Blue, vU y135.1.Color.Alpha], eI tyValue y130 g131, gE1, Ent.tab 0 (Lib.pow10Tab.map fun z => Value.int .u64 z), gE5] _ := hS.join [0] [1, 2, 3, 4] rfl rfl hq
  clear hq
  refine wl_batch 7 8 [] [1, 2, 3, 8, 9, 11] [(1, [], .bool x17), (2, [], .bool x26), (3, [], .bool x42), (8, [], .bool (cond (cond x102 y103 false) y104 false)), (9, [], .bool x127), (11, [], vI y135.2)] [] H142 (by decide) (by kernel_rfl) trivial fun _ wd143 H144 hb => ?_
  clear H142
  replace hS := hS.below hb
  clear hb
  refine wl_end rfl ?_
  replace hS : SH M X w [gE1, Ent.tab 0 (Lib.pow10Tab.map fun z => Value.int .u64 z), gE5] _ := hS.sel [2, 3, 4] rfl
  refine w_seq ?_
  refine wl_start ?_
  obtain ⟨y145, hy145, hm⟩ := bindE hm
  refine wl_batch 0 4 [(.tuple ⟨[.agg ⟨[vU y145.1.Kind, .string ⟨⟨y145.1.Word⟩⟩, vI y145.1.Num, vU y145.1.Color.Red, vU y145.1.Color.Green, vU y145.1.Color.Blue, vU y145.1.Color.Alpha]⟩, vI y145.2]⟩)] [1, 2, 3, 8, 9, 11, 216, 217] [(1, [], .bool x17), (2, [], .bool x26), (3, [], .bool x42), (8, [], .bool (cond (cond x102 y103 false) y104 false)), (9, [], .bool x127), (11, [], vI y135.2), (216, [], .agg ⟨[vU y145.1.Kind, .string ⟨⟨y145.1.Word⟩⟩, vI y145.1.Num, vU y145.1.Color.Red, vU y145.1.Color.Green, vU y145.1.Color.Blue, vU y145.1.Color.Alpha]⟩), (217, [], vI y145.2)] [fun wz => RetB Tryz.prog 10 ⟨[vI 18, vO]⟩ (.tuple ⟨[.agg ⟨[vU y145.1.Kind, .string ⟨⟨y145.1.Word⟩⟩, vI y145.1.Num, vU y145.1.Color.Red, vU y145.1.Color.Green, vU y145.1.Color.Blue, vU y145.1.Color.Alpha]⟩, vI y145.2]⟩) wz] H144 (by decide) (by kernel_rfl) ⟨(parseval_Parse_ok (g_l_ := Gh.nil) m _ _ _ hy145 _ (s0im (s0im s0nil (hS.im 0 rfl)) (SlG.nil (M := F0) (g := Gh.nil)))), trivial⟩ fun _ wd146 H147 hb => ?_
  clear H144
  replace hS := hS.below hb
  clear hb
  have hd := hS.hand [] [0, 1, 2] rfl rfl
  refine m_stp [12, 1, 2, 3, 8, 9, 11, 216, 217] [(1, [], .bool x17), (2, [], .bool x26), (3, [], .bool x42), (8, [], .bool (cond (cond x102 y103 false) y104 false)), (9, [], .bool x127), (11, [], vI y135.2), (216, [], .agg ⟨[vU y145.1.Kind, .string ⟨⟨y145.1.Word⟩⟩, vI y145.1.Num, vU y145.1.Color.Red, vU y145.1.Color.Green, vU y145.1.Color.Blue, vU y145.1.Color.Alpha]⟩), (217, [], vI y145.2)] H147 rfl rfl rfl rfl (o_alloc [vU 0, vN, vI 0, vU 0, vU 0, vU 0, vU 0] (z := .agg ⟨[vU 0, vN, vI 0, vU 0, vU 0, vU 0, vU 0]⟩) hd (by kernel_rfl) rfl) (fun _ => rfl) fun _ wd149 v H150 hq => ?_
  clear H147 hd
  obtain ⟨b148, rfl, hq⟩ := hq
  replace hS : SH M X w [eB b148 [vU 0, vN, vI 0, vU 0, vU 0, vU 0, vU 0], gE1, Ent.tab 0 (Lib.pow10Tab.map fun z => Value.int .u64 z), gE5] _ := hS.join [] [0, 1, 2] rfl rfl hq
  clear hq
  have hd := hS.hand [0] [1, 2, 3] rfl rfl
  refine m_stp0 [1, 2, 3, 8, 9, 11, 217] [(1, [], .bool x17), (2, [], .bool x26), (3, [], .bool x42), (8, [], .bool (cond (cond x102 y103 false) y104 false)), (9, [], .bool x127), (11, [], vI y135.2), (217, [], vI y145.2)] H150 rfl rfl rfl (o_store [vU y145.1.Kind, .string ⟨⟨y145.1.Word⟩⟩, vI y145.1.Num, vU y145.1.Color.Red, vU y145.1.Color.Green, vU y145.1.Color.Blue, vU y145.1.Color.Alpha] H150 hd rfl rfl (by kernel_rfl) rfl rfl rfl) rfl fun _ wd151 H152 hq => ?_
  clear H150 hd
  obtain ⟨_, hq⟩ := hq
  replace hS : SH M X w [eB b148 [vU y145.1.Kind, .string ⟨⟨y145.1.Word⟩⟩, vI y145.1.Num, vU y145.1.Color.Red, vU y145.1.Color.Green, vU y145.1.Color.Blue, vU y145.1.Color.Alpha], gE1, Ent.tab 0 (Lib.pow10Tab.map fun z => Value.int .u64 z), gE5] _ := hS.join [0] [1, 2, 3] rfl rfl hq
  clear hq
  refine wl_batch 6 7 [] [1, 2, 3, 8, 9, 11, 13] [(1, [], .bool x17), (2, [], .bool x26), (3, [], .bool x42), (8, [], .bool (cond (cond x102 y103 false) y104 false)), (9, [], .bool x127), (11, [], vI y135.2), (13, [], vI y145.2)] [] H152 (by decide) (by kernel_rfl) trivial fun _ wd153 H154 hb => ?_
  clear H152
  replace hS := hS.below hb
  clear hb
  refine wl_end rfl ?_
  replace hS : SH M X w [gE1, Ent.tab 0 (Lib.pow10Tab.map fun z => Value.int .u64 z), gE5] _ := hS.sel [1, 2, 3] rfl
  obtain ⟨y155, hy155, hm⟩ := bindE hm
  refine s_reg [(.tuple ⟨[.string ⟨⟨y155.1⟩⟩, vI y155.2]⟩)] [1, 2, 3, 8, 9, 11, 13, 15] [(1, [], .bool x17), (2, [], .bool x26), (3, [], .bool x42), (8, [], .bool (cond (cond x102 y103 false) y104 false)), (9, [], .bool x127), (11, [], vI y135.2), (13, [], vI y145.2), (15, [], vI y155.2)] [fun wz => RetB Tryz.prog 21 ⟨[.agg ⟨[vU 0, vN, vI 0, vU 0, vU 0, vU 0, vU 0]⟩]⟩ (.tuple ⟨[.string ⟨⟨y155.1⟩⟩, vI y155.2]⟩) wz] H154 (by kernel_rfl) ⟨(parseval_Write_ok m _ _ hy155 _ (s0tab (s0im s0nil (hS.im 2 rfl)) (hS.at 1 rfl))), trivial⟩ fun _ wd156 H157 hb => ?_
  clear H154
  replace hS := hS.below hb
  clear hb
  refine w_seq ?_
  refine wl_start ?_
  obtain ⟨y158, hy158, hm⟩ := bindE hm
  refine wl_batch 0 4 [(.tuple ⟨[.agg ⟨[vU y158.1.Red, vU y158.1.Green, vU y158.1.Blue, vU y158.1.Alpha]⟩, vI y158.2]⟩)] [1, 2, 3, 8, 9, 11, 13, 15, 225, 226] [(1, [], .bool x17), (2, [], .bool x26), (3, [], .bool x42), (8, [], .bool (cond (cond x102 y103 false) y104 false)), (9, [], .bool x127), (11, [], vI y135.2), (13, [], vI y145.2), (15, [], vI y155.2), (225, [], .agg ⟨[vU y158.1.Red, vU y158.1.Green, vU y158.1.Blue, vU y158.1.Alpha]⟩), (226, [], vI y158.2)] [fun wz => RetB Tryz.prog 22 ⟨[vN]⟩ (.tuple ⟨[.agg ⟨[vU y158.1.Red, vU y158.1.Green, vU y158.1.Blue, vU y158.1.Alpha]⟩, vI y158.2]⟩) wz] H157 (by decide) (by kernel_rfl) ⟨((parseval_Named_ok m _ _ hy158).b), trivial⟩ fun _ wd159 H160 hb => ?_
  clear H157
  replace hS := hS.below hb
  clear hb
  have hd := hS.hand [] [0, 1, 2] rfl rfl
  refine m_stp [16, 1, 2, 3, 8, 9, 11, 13, 15, 225, 226] [(1, [], .bool x17), (2, [], .bool x26), (3, [], .bool x42), (8, [], .bool (cond (cond x102 y103 false) y104 false)), (9, [], .bool x127), (11, [], vI y135.2), (13, [], vI y145.2), (15, [], vI y155.2), (225, [], .agg ⟨[vU y158.1.Red, vU y158.1.Green, vU y158.1.Blue, vU y158.1.Alpha]⟩), (226, [], vI y158.2)] H160 rfl rfl rfl rfl (o_alloc [vU 0, vU 0, vU 0, vU 0] (z := .agg ⟨[vU 0, vU 0, vU 0, vU 0]⟩) hd (by kernel_rfl) rfl) (fun _ => rfl) fun _ wd162 v H163 hq => ?_
  clear H160 hd
  obtain ⟨b161, rfl, hq⟩ := hq
  replace hS : SH M X w [eB b161 [vU 0, vU 0, vU 0, vU 0], gE1, Ent.tab 0 (Lib.pow10Tab.map fun z => Value.int .u64 z), gE5] _ := hS.join [] [0, 1, 2] rfl rfl hq
  clear hq
  have hd := hS.hand [0] [1, 2, 3] rfl rfl
  refine m_stp0 [1, 2, 3, 8, 9, 11, 13, 15, 226] [(1, [], .bool x17), (2, [], .bool x26), (3, [], .bool x42), (8, [], .bool (cond (cond x102 y103 false) y104 false)), (9, [], .bool x127), (11, [], vI y135.2), (13, [], vI y145.2), (15, [], vI y155.2), (226, [], vI y158.2)] H163 rfl rfl rfl (o_store [vU y158.1.Red, vU y158.1.Green, vU y158.1.Blue, vU y158.1.Alpha] H163 hd rfl rfl (by kernel_rfl) rfl rfl rfl) rfl fun _ wd164 H165 hq => ?_
  clear H163 hd
  obtain ⟨_, hq⟩ := hq
  replace hS : SH M X w [eB b161 [vU y158.1.Red, vU y158.1.Green, vU y158.1.Blue, vU y158.1.Alpha], gE1, Ent.tab 0 (Lib.pow10Tab.map fun z => Value.int .u64 z), gE5] _ := hS.join [0] [1, 2, 3] rfl rfl hq
  clear hq
  refine wl_batch 6 7 [] [1, 2, 3, 8, 9, 11, 13, 15, 17] [(1, [], .bool x17), (2, [], .bool x26), (3, [], .bool x42), (8, [], .bool (cond (cond x102 y103 false) y104 false)), (9, [], .bool x127), (11, [], vI y135.2), (13, [], vI y145.2), (15, [], vI y155.2), (17, [], vI y158.2)] [] H165 (by decide) (by kernel_rfl) trivial fun _ wd166 H167 hb => ?_
  clear H165
  replace hS := hS.below hb
  clear hb
  refine wl_end rfl ?_
  replace hS : SH M X w [gE1, Ent.tab 0 (Lib.pow10Tab.map fun z => Value.int .u64 z), gE5] _ := hS.sel [1, 2, 3] rfl
  refine w_seq ?_
  refine wl_start ?_
  obtain ⟨y168, hy168, hm⟩ := bindE hm
  refine wl_batch 0 4 [(.tuple ⟨[.agg ⟨[vU y168.1.Red, vU y168.1.Green, vU y168.1.Blue, vU y168.1.Alpha]⟩, vI y168.2]⟩)] [1, 2, 3, 8, 9, 11, 13, 15, 17, 229, 230] [(1, [], .bool x17), (2, [], .bool x26), (3, [], .bool x42), (8, [], .bool (cond (cond x102 y103 false) y104 false)), (9, [], .bool x127), (11, [], vI y135.2), (13, [], vI y145.2), (15, [], vI y155.2), (17, [], vI y158.2), (229, [], .agg ⟨[vU y168.1.Red, vU y168.1.Green, vU y168.1.Blue, vU y168.1.Alpha]⟩), (230, [], vI y168.2)] [fun wz => RetB Tryz.prog 22 ⟨[vS [114, 103, 98]]⟩ (.tuple ⟨[.agg ⟨[vU y168.1.Red, vU y168.1.Green, vU y168.1.Blue, vU y168.1.Alpha]⟩, vI y168.2]⟩) wz] H167 (by decide) (by kernel_rfl) ⟨((parseval_Named_ok m _ _ hy168).b), trivial⟩ fun _ wd169 H170 hb => ?_
  clear H167
  replace hS := hS.below hb
  clear hb
  have hd := hS.hand [] [0, 1, 2] rfl rfl
  refine m_stp [18, 1, 2, 3, 8, 9, 11, 13, 15, 17, 229, 230] [(1, [], .bool x17), (2, [], .bool x26), (3, [], .bool x42), (8, [], .bool (cond (cond x102 y103 false) y104 false)), (9, [], .bool x127), (11, [], vI y135.2), (13, [], vI y145.2), (15, [], vI y155.2), (17, [], vI y158.2), (229, [], .agg ⟨[vU y168.1.Red, vU y168.1.Green, vU y168.1.Blue, vU y168.1.Alpha]⟩), (230, [], vI y168.2)] H170 rfl rfl rfl rfl (o_alloc [vU 0, vU 0, vU 0, vU 0] (z := .agg ⟨[vU 0, vU 0, vU 0, vU 0]⟩) hd (by kernel_rfl) rfl) (fun _ => rfl) fun _ wd172 v H173 hq => ?_
  clear H170 hd
  obtain ⟨b171, rfl, hq⟩ := hq
  replace hS : SH M X w [eB b171 [vU 0, vU 0, vU 0, vU 0], gE1, Ent.tab 0 (Lib.pow10Tab.map fun z => Value.int .u64 z), gE5] _ := hS.join [] [0, 1, 2] rfl rfl hq
  clear hq
  have hd := hS.hand [0] [1, 2, 3] rfl rfl
  refine m_stp0 [1, 2, 3, 8, 9, 11, 13, 15, 17, 230] [(1, [], .bool x17), (2, [], .bool x26), (3, [], .bool x42), (8, [], .bool (cond (cond x102 y103 false) y104 false)), (9, [], .bool x127), (11, [], vI y135.2), (13, [], vI y145.2), (15, [], vI y155.2), (17, [], vI y158.2), (230, [], vI y168.2)] H173 rfl rfl rfl (o_store [vU y168.1.Red, vU y168.1.Green, vU y168.1.Blue, vU y168.1.Alpha] H173 hd rfl rfl (by kernel_rfl) rfl rfl rfl) rfl fun _ wd174 H175 hq => ?_
  clear H173 hd
  obtain ⟨_, hq⟩ := hq
  replace hS : SH M X w [eB b171 [vU y168.1.Red, vU y168.1.Green, vU y168.1.Blue, vU y168.1.Alpha], gE1, Ent.tab 0 (Lib.pow10Tab.map fun z => Value.int .u64 z), gE5] _ := hS.join [0] [1, 2, 3] rfl rfl hq
  clear hq
  refine wl_batch 6 7 [] [1, 2, 3, 8, 9, 11, 13, 15, 17, 19] [(1, [], .bool x17), (2, [], .bool x26), (3, [], .bool x42), (8, [], .bool (cond (cond x102 y103 false) y104 false)), (9, [], .bool x127), (11, [], vI y135.2), (13, [], vI y145.2), (15, [], vI y155.2), (17, [], vI y158.2), (19, [], vI y168.2)] [] H175 (by decide) (by kernel_rfl) trivial fun _ wd176 H177 hb => ?_
  clear H175
  replace hS := hS.below hb
  clear hb
  refine wl_end rfl ?_
  replace hS : SH M X w [gE1, Ent.tab 0 (Lib.pow10Tab.map fun z => Value.int .u64 z), gE5] _ := hS.sel [1, 2, 3] rfl
  obtain ⟨y178, hy178, hm⟩ := bindE hm
  refine s_reg [(.tuple ⟨[.string ⟨⟨y178.1⟩⟩, vI y178.2]⟩)] [1, 2, 3, 8, 9, 11, 13, 15, 17, 19, 20, 21] [(1, [], .bool x17), (2, [], .bool x26), (3, [], .bool x42), (8, [], .bool (cond (cond x102 y103 false) y104 false)), (9, [], .bool x127), (11, [], vI y135.2), (13, [], vI y145.2), (15, [], vI y155.2), (17, [], vI y158.2), (19, [], vI y168.2), (20, [], .string ⟨⟨y178.1⟩⟩), (21, [], vI y178.2)] [fun wz => RetB Tryz.prog 21 ⟨[.agg ⟨[vU 6, vN, vI (-1000000000), vU 0, vU 0, vU 0, vU 0]⟩]⟩ (.tuple ⟨[.string ⟨⟨y178.1⟩⟩, vI y178.2]⟩) wz] H177 (by kernel_rfl) ⟨(parseval_Write_ok m _ _ hy178 _ (s0tab (s0im s0nil (hS.im 2 rfl)) (hS.at 1 rfl))), trivial⟩ fun _ wd179 H180 hb => ?_
  clear H177
  replace hS := hS.below hb
  clear hb
  obtain ⟨y181, hy181, hm⟩ := bindE hm
  refine s_reg [(.tuple ⟨[.string ⟨⟨y181.1⟩⟩, vI y181.2]⟩)] [1, 2, 3, 8, 9, 11, 13, 15, 17, 19, 20, 21, 22, 23] [(1, [], .bool x17), (2, [], .bool x26), (3, [], .bool x42), (8, [], .bool (cond (cond x102 y103 false) y104 false)), (9, [], .bool x127), (11, [], vI y135.2), (13, [], vI y145.2), (15, [], vI y155.2), (17, [], vI y158.2), (19, [], vI y168.2), (20, [], .string ⟨⟨y178.1⟩⟩), (21, [], vI y178.2), (22, [], .string ⟨⟨y181.1⟩⟩), (23, [], vI y181.2)] [fun wz => RetB Tryz.prog 21 ⟨[.agg ⟨[vU 3, vN, vI (-1), vU 0, vU 0, vU 0, vU 0]⟩]⟩ (.tuple ⟨[.string ⟨⟨y181.1⟩⟩, vI y181.2]⟩) wz] H180 (by kernel_rfl) ⟨(parseval_Write_ok m _ _ hy181 _ (s0tab (s0im s0nil (hS.im 2 rfl)) (hS.at 1 rfl))), trivial⟩ fun _ wd182 H183 hb => ?_
  clear H180
  replace hS := hS.below hb
  clear hb
  obtain ⟨y184, hy184, hm⟩ := bindE hm
  refine s_reg [(.tuple ⟨[.string ⟨⟨y184.1⟩⟩, vI y184.2]⟩)] [1, 2, 3, 8, 9, 11, 13, 15, 17, 19, 20, 21, 22, 23, 24, 25] [(1, [], .bool x17), (2, [], .bool x26), (3, [], .bool x42), (8, [], .bool (cond (cond x102 y103 false) y104 false)), (9, [], .bool x127), (11, [], vI y135.2), (13, [], vI y145.2), (15, [], vI y155.2), (17, [], vI y158.2), (19, [], vI y168.2), (20, [], .string ⟨⟨y178.1⟩⟩), (21, [], vI y178.2), (22, [], .string ⟨⟨y181.1⟩⟩), (23, [], vI y181.2), (24, [], .string ⟨⟨y184.1⟩⟩), (25, [], vI y184.2)] [fun wz => RetB Tryz.prog 21 ⟨[.agg ⟨[vU 5, vN, vI 1000000000000, vU 0, vU 0, vU 0, vU 0]⟩]⟩ (.tuple ⟨[.string ⟨⟨y184.1⟩⟩, vI y184.2]⟩) wz] H183 (by kernel_rfl) ⟨(parseval_Write_ok m _ _ hy184 _ (s0tab (s0im s0nil (hS.im 2 rfl)) (hS.at 1 rfl))), trivial⟩ fun _ wd185 H186 hb => ?_
  clear H183
  replace hS := hS.below hb
  clear hb
  obtain ⟨y187, hy187, hm⟩ := bindE hm
  refine s_reg [(.tuple ⟨[.string ⟨⟨y187.1⟩⟩, vI y187.2]⟩)] [1, 2, 3, 8, 9, 11, 13, 15, 17, 19, 20, 21, 22, 23, 24, 25, 26, 27] [(1, [], .bool x17), (2, [], .bool x26), (3, [], .bool x42), (8, [], .bool (cond (cond x102 y103 false) y104 false)), (9, [], .bool x127), (11, [], vI y135.2), (13, [], vI y145.2), (15, [], vI y155.2), (17, [], vI y158.2), (19, [], vI y168.2), (20, [], .string ⟨⟨y178.1⟩⟩), (21, [], vI y178.2), (22, [], .string ⟨⟨y181.1⟩⟩), (23, [], vI y181.2), (24, [], .string ⟨⟨y184.1⟩⟩), (25, [], vI y184.2), (26, [], .string ⟨⟨y187.1⟩⟩), (27, [], vI y187.2)] [fun wz => RetB Tryz.prog 21 ⟨[.agg ⟨[vU 4, vN, vI 120, vU 0, vU 0, vU 0, vU 0]⟩]⟩ (.tuple ⟨[.string ⟨⟨y187.1⟩⟩, vI y187.2]⟩) wz] H186 (by kernel_rfl) ⟨(parseval_Write_ok m _ _ hy187 _ (s0tab (s0im s0nil (hS.im 2 rfl)) (hS.at 1 rfl))), trivial⟩ fun _ wd188 H189 hb => ?_
  clear H186
  replace hS := hS.below hb
  clear hb
  obtain ⟨y190, hy190, hm⟩ := bindE hm
  obtain ⟨x191, hx191, hm⟩ := letE hm
  obtain ⟨x192, hx192, hm⟩ := letE hm
  obtain ⟨x193, hx193, hm⟩ := letE hm
  obtain ⟨x194, hx194, hm⟩ := letE hm
  obtain ⟨x195, hx195, hm⟩ := letE hm
  obtain ⟨x196, hx196, hm⟩ := letE hm
  obtain ⟨x197, hx197, hm⟩ := letE hm
  obtain ⟨x198, hx198, hm⟩ := letE hm
  obtain ⟨x199, hx199, hm⟩ := letE hm
  refine s_reg [(.bool y190)] [0] [(0, [], .bool x199)] [fun wz => RetB Tryz.prog 8 ⟨[]⟩ (.bool y190) wz] H189 (by subst hx191 hx192 hx193 hx194 hx195 hx196 hx197 hx198 hx199; kernel_rfl) ⟨(law26_alive_ok m _ hy190 _ (s0im (s0tab (s0im s0nil (hS.im 2 rfl)) (hS.at 1 rfl)) (hS.im 0 rfl))), trivial⟩ fun _ wd200 H201 hb => ?_
  clear H189
  replace hS := hS.below hb
  clear hb
  refine w_ret ?_
  obtain rfl := someE hm
  exact retR1 H201 rfl rfl ⟨_, rfl, rfl, (hS.sel [] rfl)⟩
theorem law26_ParsevalNames_ok  (m : Nat)  (r : Bool) (hm : law26_ParsevalNames m = some r) (w : World) (hL : S0 F0 [gE1, Ent.tab 0 (Lib.pow10Tab.map fun z => Value.int .u64 z), gE5] w ∧ fpl [gE1, Ent.tab 0 (Lib.pow10Tab.map fun z => Value.int .u64 z), gE5] = []) : RetB Tryz.prog 5 ⟨[]⟩ (.bool r) w := retB_of hL (Tryz.call5 _) (fun w' h => law26_ParsevalNames_w F0 m    r hm w' h)

end Go.Proofs.YtemchjneoalnoaaGreatDoor
