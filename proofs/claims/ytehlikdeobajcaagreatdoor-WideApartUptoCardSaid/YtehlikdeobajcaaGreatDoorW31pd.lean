/-
  What the Go functions compute, as Lean functions, and that a call returns just that. Printed by a program.
-/
import Derived.Test.YtehlikdeobajcaaGreatDoorRows
import Derived.Test.YtehlikdeobajcaaGreatDoorRF
import Derived.Test.YtehlikdeobajcaaGreatDoorM
import Derived.Test.YtehlikdeobajcaaGreatDoorW31pc
set_option linter.unusedVariables false
set_option maxRecDepth 20000
set_option maxHeartbeats 4000000
namespace Go.Proofs.YtehlikdeobajcaaGreatDoor
open Go.V Go.RowKit

theorem r29_Check_w {g_d__0 : Gh} (M : Av) (m : Nat) (d_ : TDeclared) (r : Int) (hm : r29_Check m d_ = some r) (w : World) (hS : S0 M [eI tyValue d_.Long.Value g_d__0] w) : Calls Tryz.prog 43 ⟨[.agg ⟨[.string ⟨⟨d_.Long.Name⟩⟩, .slice g_d__0.a d_.Long.Value.length g_d__0.c, .string ⟨⟨d_.Long.Whole⟩⟩, .bool d_.Important, vU d_.Origin, .bool d_.Attached, vI d_.Layer, vI d_.Weight.e0, vI d_.Weight.e1, vI d_.Weight.e2, vI d_.Order]⟩]⟩ w (fun e w' => ∃ v, e = .returned v ∧ v = vI r ∧ SH M (fpl [eI tyValue d_.Long.Value g_d__0]) w [] w') := by
 rw [r29_Check] at hm
 have hS0 : SH M (fpl [eI tyValue d_.Long.Value g_d__0]) w [eI tyValue d_.Long.Value g_d__0] w := hS
 generalize hX : fpl [eI tyValue d_.Long.Value g_d__0] = X at hS0 ⊢
 clear hS hX
 have hS := hS0
 clear hS0
 refine calls_entryP Tryz.func43 rfl Tryz.ntmps43 rfl fun _ H => ?_
 refine w_seq ?_
 refine wl_start ?_
 have hd := hS.hand [] [0] rfl rfl
 refine m_stp [1] [] H rfl rfl rfl rfl (o_box [.string ⟨⟨d_.Long.Name⟩⟩, .slice g_d__0.a d_.Long.Value.length g_d__0.c, .string ⟨⟨d_.Long.Whole⟩⟩, .bool d_.Important, vU d_.Origin, .bool d_.Attached, vI d_.Layer, vI d_.Weight.e0, vI d_.Weight.e1, vI d_.Weight.e2, vI d_.Order] H hd rfl rfl) (fun _ => rfl) fun _ wd2 v H3 hq => ?_
 clear H hd
 obtain ⟨b1, rfl, hq⟩ := hq
 replace hS : SH M X w [eB b1 [.string ⟨⟨d_.Long.Name⟩⟩, .slice g_d__0.a d_.Long.Value.length g_d__0.c, .string ⟨⟨d_.Long.Whole⟩⟩, .bool d_.Important, vU d_.Origin, .bool d_.Attached, vI d_.Layer, vI d_.Weight.e0, vI d_.Weight.e1, vI d_.Weight.e2, vI d_.Order], eI tyValue d_.Long.Value g_d__0] _ := hS.join [] [0] rfl rfl hq
 clear hq
 refine wl_batch 1 2 [] [1] [(1, [], vP b1)] [] H3 (by decide) (by kernel_rfl) trivial fun _ wd4 H5 hb => ?_
 clear H3
 replace hS := hS.below hb
 clear hb
 refine wl_end rfl ?_
 refine w_seq ?_
 obtain ⟨y6, hy6, hm⟩ := bindE hm
 refine s_reg [(.string ⟨⟨d_.Long.Name⟩⟩), (.tuple ⟨[.bool y6.1, vI y6.2]⟩)] [1, 4] [(1, [], vP b1), (4, [], vI y6.2)] [fun wz => V.at1 ⟨b1, 0, none⟩ (.string ⟨⟨d_.Long.Name⟩⟩) wz, fun wz => RetB Tryz.prog 28 ⟨[.string ⟨⟨d_.Long.Name⟩⟩]⟩ (.tuple ⟨[.bool y6.1, vI y6.2]⟩) wz] H5 (by kernel_rfl) ⟨((hS.bk 0 rfl).at1 rfl), ((r25_Inherited_ok 64 _ _ hy6).b), trivial⟩ fun _ wd7 H8 hb => ?_
 clear H5
 replace hS := hS.below hb
 clear hb
 obtain ⟨y9, hy9, hm⟩ := bindE hm
 obtain ⟨y10, hy10, hm⟩ := bindE hm
 obtain ⟨x11, hx11, hm⟩ := letE hm
 refine s_reg [(.slice g_d__0.a d_.Long.Value.length g_d__0.c), (vI y9), (.agg ⟨[.string ⟨⟨d_.Long.Name⟩⟩, .slice g_d__0.a d_.Long.Value.length g_d__0.c, .string ⟨⟨d_.Long.Whole⟩⟩]⟩), (.bool y10)] [1, 26] [(1, [], vP b1), (26, [], .bool x11)] [fun wz => ((y6.2 != 0) = false ∧ True → V.at1 ⟨b1, 1, none⟩ (.slice g_d__0.a d_.Long.Value.length g_d__0.c) wz), fun wz => ((y6.2 != 0) = false ∧ True → RetB Tryz.prog 67 ⟨[.slice g_d__0.a d_.Long.Value.length g_d__0.c]⟩ (vI y9) wz), fun wz => ((cond (y6.2 != 0) true (y9 != 0)) = false ∧ True → V.atN b1 0 [.string ⟨⟨d_.Long.Name⟩⟩, .slice g_d__0.a d_.Long.Value.length g_d__0.c, .string ⟨⟨d_.Long.Whole⟩⟩] 0 wz), fun wz => ((cond (y6.2 != 0) true (y9 != 0)) = false ∧ True → RetB Tryz.prog 68 ⟨[.agg ⟨[.string ⟨⟨d_.Long.Name⟩⟩, .slice g_d__0.a d_.Long.Value.length g_d__0.c, .string ⟨⟨d_.Long.Whole⟩⟩]⟩]⟩ (.bool y10) wz)] H8 (by subst hx11; kernel_rfl) ⟨fun hg => (hS.bk 0 rfl).at1 rfl, fun hg => r04_Check_ok (g_v_ := g_d__0) m _ _ (bF (hg.1) hy9) _ (s0im s0nil (hS.im 1 rfl)), fun hg => (hS.bk 0 rfl).atD rfl, fun hg => r29_whole_ok (g_x__0 := g_d__0) m _ _ (bF (hg.1) hy10) _ (s0im s0nil (hS.im 1 rfl)), trivial⟩ fun _ wd12 H13 hb => ?_
 clear H8
 replace hS := hS.below hb
 clear hb
 refine w_if H13 rfl (fun hc => ?c32) (fun hc => ?_)
 case c32 =>
  replace hm := bT hc hm
  refine s_reg [] [2] [(2, [], vI 8)] [] H13 (by kernel_rfl) trivial fun _ wd14 H15 hb => ?_
  clear H13
  replace hS := hS.below hb
  clear hb
  replace hS : SH M X w [] _ := hS.sel [] rfl
  refine w_ret ?_
  obtain rfl := someE hm
  exact retR1 H15 rfl rfl ⟨_, rfl, rfl, (hS.sel [] rfl)⟩
 replace hm := bF hc hm
 refine w_skip ?_
 refine w_seq ?_
 obtain ⟨x16, hx16, hm⟩ := letE hm
 obtain ⟨x17, hx17, hm⟩ := letE hm
 obtain ⟨x18, hx18, hm⟩ := letE hm
 refine s_reg [(vU d_.Origin), (vU d_.Origin), (vI d_.Layer), (.bool (r29_in d_.Layer)), (vI d_.Order), (.bool (r29_in d_.Order)), (vI d_.Weight.e0), (.bool (r29_in d_.Weight.e0)), (vI d_.Weight.e1), (.bool (r29_in d_.Weight.e1)), (vI d_.Weight.e2), (.bool (r29_in d_.Weight.e2))] [1, 67] [(1, [], vP b1), (67, [], .bool (cond x18 true (!(r29_in d_.Weight.e2))))] [fun wz => V.at1 ⟨b1, 4, none⟩ (vU d_.Origin) wz, fun wz => ((decide (d_.Origin < 1)) = false ∧ True → V.at1 ⟨b1, 4, none⟩ (vU d_.Origin) wz), fun wz => (x16 = false ∧ True → V.at1 ⟨b1, 6, none⟩ (vI d_.Layer) wz), fun wz => (x16 = false ∧ True → RetB Tryz.prog 69 ⟨[vI d_.Layer]⟩ (.bool (r29_in d_.Layer)) wz), fun wz => ((cond x16 true (!(r29_in d_.Layer))) = false ∧ True → V.at1 ⟨b1, 10, none⟩ (vI d_.Order) wz), fun wz => ((cond x16 true (!(r29_in d_.Layer))) = false ∧ True → RetB Tryz.prog 69 ⟨[vI d_.Order]⟩ (.bool (r29_in d_.Order)) wz), fun _ => (x17 = false ∧ True → 0 ≤ (0 : Int) ∧ (0 : Int) < 3), fun wz => (x17 = false ∧ True → V.at1 ⟨b1, 7, none⟩ (vI d_.Weight.e0) wz), fun wz => (x17 = false ∧ True → RetB Tryz.prog 69 ⟨[vI d_.Weight.e0]⟩ (.bool (r29_in d_.Weight.e0)) wz), fun _ => ((cond x17 true (!(r29_in d_.Weight.e0))) = false ∧ True → 0 ≤ (1 : Int) ∧ (1 : Int) < 3), fun wz => ((cond x17 true (!(r29_in d_.Weight.e0))) = false ∧ True → V.at1 ⟨b1, 8, none⟩ (vI d_.Weight.e1) wz), fun wz => ((cond x17 true (!(r29_in d_.Weight.e0))) = false ∧ True → RetB Tryz.prog 69 ⟨[vI d_.Weight.e1]⟩ (.bool (r29_in d_.Weight.e1)) wz), fun _ => (x18 = false ∧ True → 0 ≤ (2 : Int) ∧ (2 : Int) < 3), fun wz => (x18 = false ∧ True → V.at1 ⟨b1, 9, none⟩ (vI d_.Weight.e2) wz), fun wz => (x18 = false ∧ True → RetB Tryz.prog 69 ⟨[vI d_.Weight.e2]⟩ (.bool (r29_in d_.Weight.e2)) wz)] H13 (by subst hx16 hx17 hx18; kernel_rfl) ⟨((hS.bk 0 rfl).at1 rfl), fun hg => (hS.bk 0 rfl).at1 rfl, fun hg => (hS.bk 0 rfl).at1 rfl, fun hg => (r29_in_ok _).b, fun hg => (hS.bk 0 rfl).at1 rfl, fun hg => (r29_in_ok _).b, fun hg => (show 0 ≤ (0 : Int) ∧ (0 : Int) < 3 from by decide), fun hg => (hS.bk 0 rfl).at1 rfl, fun hg => (r29_in_ok _).b, fun hg => (show 0 ≤ (1 : Int) ∧ (1 : Int) < 3 from by decide), fun hg => (hS.bk 0 rfl).at1 rfl, fun hg => (r29_in_ok _).b, fun hg => (show 0 ≤ (2 : Int) ∧ (2 : Int) < 3 from by decide), fun hg => (hS.bk 0 rfl).at1 rfl, fun hg => (r29_in_ok _).b, trivial⟩ fun _ wd19 H20 hb => ?_
 clear H13
 replace hS := hS.below hb
 clear hb
 refine w_if H20 rfl (fun hc => ?c31) (fun hc => ?_)
 case c31 =>
  replace hm := bT hc hm
  refine s_reg [] [2] [(2, [], vI 8)] [] H20 (by kernel_rfl) trivial fun _ wd21 H22 hb => ?_
  clear H20
  replace hS := hS.below hb
  clear hb
  replace hS : SH M X w [] _ := hS.sel [] rfl
  refine w_ret ?_
  obtain rfl := someE hm
  exact retR1 H22 rfl rfl ⟨_, rfl, rfl, (hS.sel [] rfl)⟩
 replace hm := bF hc hm
 refine w_skip ?_
 refine w_seq ?_
 obtain ⟨x23, hx23, hm⟩ := letE hm
 refine s_reg [(.bool d_.Attached), (vU d_.Origin), (vI d_.Layer), (.agg ⟨[vI d_.Weight.e0, vI d_.Weight.e1, vI d_.Weight.e2]⟩)] [85] [(85, [], .bool x23)] [fun wz => V.at1 ⟨b1, 5, none⟩ (.bool d_.Attached) wz, fun wz => (d_.Attached = true ∧ True → V.at1 ⟨b1, 4, none⟩ (vU d_.Origin) wz), fun wz => ((d_.Origin != 3) = false ∧ d_.Attached = true ∧ True → V.at1 ⟨b1, 6, none⟩ (vI d_.Layer) wz), fun wz => ((cond (d_.Origin != 3) true (d_.Layer != 0)) = false ∧ d_.Attached = true ∧ True → V.atN b1 7 [vI d_.Weight.e0, vI d_.Weight.e1, vI d_.Weight.e2] 0 wz)] H20 (by subst hx23; kernel_rfl) ⟨((hS.bk 0 rfl).at1 rfl), fun hg => (hS.bk 0 rfl).at1 rfl, fun hg => (hS.bk 0 rfl).at1 rfl, fun hg => (hS.bk 0 rfl).atD rfl, trivial⟩ fun _ wd24 H25 hb => ?_
 clear H20
 replace hS := hS.below hb
 clear hb
 replace hS : SH M X w [] _ := hS.sel [] rfl
 refine w_if H25 rfl (fun hc => ?c30) (fun hc => ?_)
 case c30 =>
  replace hm := bT hc hm
  refine s_reg [] [2] [(2, [], vI 8)] [] H25 (by kernel_rfl) trivial fun _ wd26 H27 hb => ?_
  clear H25
  replace hS := hS.below hb
  clear hb
  refine w_ret ?_
  obtain rfl := someE hm
  exact retR1 H27 rfl rfl ⟨_, rfl, rfl, (hS.sel [] rfl)⟩
 replace hm := bF hc hm
 refine w_skip ?_
 refine s_reg [] [2] [(2, [], vI 0)] [] H25 (by kernel_rfl) trivial fun _ wd28 H29 hb => ?_
 clear H25
 replace hS := hS.below hb
 clear hb
 refine w_ret ?_
 obtain rfl := someE hm
 exact retR1 H29 rfl rfl ⟨_, rfl, rfl, (hS.sel [] rfl)⟩
theorem r29_Check_ok {g_d__0 : Gh} (m : Nat) (d_ : TDeclared) (r : Int) (hm : r29_Check m d_ = some r) (w : World) (hL : S0 F0 [eI tyValue d_.Long.Value g_d__0] w ∧ fpl [eI tyValue d_.Long.Value g_d__0] = []) : RetB Tryz.prog 43 ⟨[.agg ⟨[.string ⟨⟨d_.Long.Name⟩⟩, .slice g_d__0.a d_.Long.Value.length g_d__0.c, .string ⟨⟨d_.Long.Whole⟩⟩, .bool d_.Important, vU d_.Origin, .bool d_.Attached, vI d_.Layer, vI d_.Weight.e0, vI d_.Weight.e1, vI d_.Weight.e2, vI d_.Order]⟩]⟩ (vI r) w := retB_of hL (Tryz.call43 _) (fun w' h => r29_Check_w F0 m   d_ r hm w' h)

theorem r29_All_w {g_l_ : Gh} (M : Av) (m : Nat) (l_ : List TDeclared) (r : Int) (hm : r29_All m l_ = some r) (w : World) (hS : S0 M [eI tyDeclared l_ g_l_] w) : Calls Tryz.prog 23 ⟨[vL g_l_ l_]⟩ w (fun e w' => ∃ v, e = .returned v ∧ v = vI r ∧ SH M (fpl [eI tyDeclared l_ g_l_]) w [] w') := by
 rw [r29_All] at hm
 have hS0 : SH M (fpl [eI tyDeclared l_ g_l_]) w [eI tyDeclared l_ g_l_] w := hS
 generalize hX : fpl [eI tyDeclared l_ g_l_] = X at hS0 ⊢
 clear hS hX
 have hS := hS0
 clear hS0
 refine calls_entryP Tryz.func23 rfl Tryz.ntmps23 rfl fun _ H => ?_
 refine s_reg [] [0] [(0, [], vL g_l_ l_)] [] H (by kernel_rfl) trivial fun _ wd1 H2 hb => ?_
 clear H
 replace hS := hS.below hb
 clear hb
 obtain ⟨z3, hz, hm_z3⟩ := bindE hm
 refine w_cut (fun a' w' => ∃ s_z3 : Unit, z3 = Sum.inr s_z3 ∧ Fr 19 [] a' ∧ SH M X w [eI tyDeclared l_ g_l_] w') ?_ ?_
 ·replace hm := hz
  refine s_reg [] [0, 3] [(0, [], vL g_l_ l_), (3, [], vI 0)] [] H2 (by kernel_rfl) trivial fun _ wd4 H5 hb => ?_
  clear H2
  replace hS := hS.below hb
  clear hb
  refine w_block ?_
  refine w_loop (fun kk a' w' => ∃ (v6 : Int), r29_All_L1 m l_ kk v6 = some _ ∧ Fr 19 [(0, [], vL g_l_ l_), (3, [], vI v6)] a' ∧ SH M X w [eI tyDeclared l_ g_l_] w') ⟨_, 0, hm, FrG.keep (ks := [0, 3]) H5 (by kernel_rfl), hS⟩ ?_
  clear hm H5 hS
  rintro kk _ wd21 ⟨v6, hm, H, hS⟩
  cases kk with
  | zero => exact noneE hm
  | succ kk =>
   rw [r29_All_L1] at hm
   refine w_seq ?_
   refine s_reg [] [0, 3, 8] [(0, [], vL g_l_ l_), (3, [], vI v6), (8, [], .bool (decide (v6 < (ln l_))))] [] H (by kernel_rfl) trivial fun _ wd7 H8 hb => ?_
   clear H
   replace hS := hS.below hb
   clear hb
   refine w_if H8 rfl (fun hc => ?_) (fun hc => ?c20)
   case c20 =>
    replace hm := bF hc hm
    refine w_exit rfl ?_
    obtain rfl := someE hm
    exact ⟨_, rfl, FrG.keep (ks := []) H8 (by kernel_rfl), hS⟩
   replace hm := bT hc hm
   refine w_skip ?_
   refine w_seq ?_
   refine w_block ?_
   obtain ⟨ho9, hm⟩ := chkE hm
   obtain ⟨y10, hy10, hm⟩ := bindE hm
   refine s_reg [(.agg ⟨[.string ⟨⟨(gi l_ v6).Long.Name⟩⟩, .slice (g_l_.s (v6).toNat 0).a (((gi l_ v6).Long.Value).length) (g_l_.s (v6).toNat 0).c, .string ⟨⟨(gi l_ v6).Long.Whole⟩⟩, .bool ((gi l_ v6).Important), vU ((gi l_ v6).Origin), .bool ((gi l_ v6).Attached), vI ((gi l_ v6).Layer), vI ((gi l_ v6).Weight.e0), vI ((gi l_ v6).Weight.e1), vI ((gi l_ v6).Weight.e2), vI ((gi l_ v6).Order)]⟩), (vI y10)] [0, 3, 4] [(0, [], vL g_l_ l_), (3, [], vI v6), (4, [], vI y10)] [fun _ => oka g_l_.a ∧ 0 ≤ v6 ∧ v6 < ln l_, fun wz => V.atN (ab g_l_.a) (ao g_l_.a + (v6).toNat * 11) [.string ⟨⟨(gi l_ v6).Long.Name⟩⟩, .slice (g_l_.s (v6).toNat 0).a (((gi l_ v6).Long.Value).length) (g_l_.s (v6).toNat 0).c, .string ⟨⟨(gi l_ v6).Long.Whole⟩⟩, .bool ((gi l_ v6).Important), vU ((gi l_ v6).Origin), .bool ((gi l_ v6).Attached), vI ((gi l_ v6).Layer), vI ((gi l_ v6).Weight.e0), vI ((gi l_ v6).Weight.e1), vI ((gi l_ v6).Weight.e2), vI ((gi l_ v6).Order)] 0 wz, fun wz => RetB Tryz.prog 43 ⟨[.agg ⟨[.string ⟨⟨(gi l_ v6).Long.Name⟩⟩, .slice (g_l_.s (v6).toNat 0).a (((gi l_ v6).Long.Value).length) (g_l_.s (v6).toNat 0).c, .string ⟨⟨(gi l_ v6).Long.Whole⟩⟩, .bool ((gi l_ v6).Important), vU ((gi l_ v6).Origin), .bool ((gi l_ v6).Attached), vI ((gi l_ v6).Layer), vI ((gi l_ v6).Weight.e0), vI ((gi l_ v6).Weight.e1), vI ((gi l_ v6).Weight.e2), vI ((gi l_ v6).Order)]⟩]⟩ (vI y10) wz] H8 (by kernel_rfl) ⟨((hS.im 0 rfl).oki ho9), ((hS.im 0 rfl).atA ho9 0 rfl), (r29_Check_ok (g_d__0 := (g_l_.s (v6).toNat 0)) m _ _ hy10 _ (s0im s0nil (tyDeclared_i0 ((hS.im 0 rfl).el ho9)))), trivial⟩ fun _ wd11 H12 hb => ?_
   clear H8
   replace hS := hS.below hb
   clear hb
   refine s_reg [] [0, 3, 4, 17] [(0, [], vL g_l_ l_), (3, [], vI v6), (4, [], vI y10), (17, [], .bool (y10 != 0))] [] H12 (by kernel_rfl) trivial fun _ wd13 H14 hb => ?_
   clear H12
   replace hS := hS.below hb
   clear hb
   refine w_if H14 rfl (fun hc => ?_) (fun hc => ?c19)
   case c19 =>
    replace hm := bF hc hm
    refine w_skip ?_
    refine w_reg [] [0, 3] [(0, [], vL g_l_ l_), (3, [], vI (w64 (v6 + 1)))] [] H14 (by kernel_rfl) trivial fun _ wd17 H18 hb => ?_
    clear H14
    replace hS := hS.below hb
    clear hb
    exact ⟨_, Nat.lt_succ_self _, w64 (v6 + 1), hm, FrG.keep (ks := [0, 3]) H18 (by kernel_rfl), hS⟩
   replace hm := bT hc hm
   refine s_reg [] [2] [(2, [], vI y10)] [] H14 (by kernel_rfl) trivial fun _ wd15 H16 hb => ?_
   clear H14
   replace hS := hS.below hb
   clear hb
   refine w_ret ?_
   obtain rfl := someE hm
   have hm := hm_z3
   obtain rfl := someE hm
   exact retR1 H16 rfl rfl ⟨_, rfl, rfl, (hS.sel [] rfl)⟩
 ·rintro _ wd24 ⟨s_z3, hz, H, hS⟩
  subst hz
  replace hm := sumR hm_z3
  replace hS : SH M X w [] _ := hS.sel [] rfl
  refine s_reg [] [2] [(2, [], vI 0)] [] H (by kernel_rfl) trivial fun _ wd22 H23 hb => ?_
  clear H
  replace hS := hS.below hb
  clear hb
  refine w_ret ?_
  obtain rfl := someE hm
  exact retR1 H23 rfl rfl ⟨_, rfl, rfl, (hS.sel [] rfl)⟩
theorem r29_All_ok {g_l_ : Gh} (m : Nat) (l_ : List TDeclared) (r : Int) (hm : r29_All m l_ = some r) (w : World) (hL : S0 F0 [eI tyDeclared l_ g_l_] w ∧ fpl [eI tyDeclared l_ g_l_] = []) : RetB Tryz.prog 23 ⟨[vL g_l_ l_]⟩ (vI r) w := retB_of hL (Tryz.call23 _) (fun w' h => r29_All_w F0 m   l_ r hm w' h)

def tyA7_int : Ty TA7_int where
  z := 7
  enc := fun x g => [vI x.e0, vI x.e1, vI x.e2, vI x.e3, vI x.e4, vI x.e5, vI x.e6]
  inn := fun _ _ _ _ => True
  len := fun _ _ => rfl
  one := fun _ _ => rfl
  kp := fun _ _ _ => trivial
  anti := fun _ _ => trivial
  fresh := fun _ => trivial
theorem r29_Ranked_w {g_d__0 : Gh} (M : Av) (d_ : TDeclared) (r : TA7_int) (hm : r29_Ranked d_ = r) (w : World) (hS : S0 M [eI tyValue d_.Long.Value g_d__0] w) : Calls Tryz.prog 70 ⟨[.agg ⟨[.string ⟨⟨d_.Long.Name⟩⟩, .slice g_d__0.a d_.Long.Value.length g_d__0.c, .string ⟨⟨d_.Long.Whole⟩⟩, .bool d_.Important, vU d_.Origin, .bool d_.Attached, vI d_.Layer, vI d_.Weight.e0, vI d_.Weight.e1, vI d_.Weight.e2, vI d_.Order]⟩]⟩ w (fun e w' => ∃ v, e = .returned v ∧ v = .agg ⟨[vI r.e0, vI r.e1, vI r.e2, vI r.e3, vI r.e4, vI r.e5, vI r.e6]⟩ ∧ SH M (fpl [eI tyValue d_.Long.Value g_d__0]) w [] w') := by
 rw [r29_Ranked] at hm
 have hS0 : SH M (fpl [eI tyValue d_.Long.Value g_d__0]) w [eI tyValue d_.Long.Value g_d__0] w := hS
 generalize hX : fpl [eI tyValue d_.Long.Value g_d__0] = X at hS0 ⊢
 clear hS hX
 have hS := hS0
 clear hS0
 refine calls_entryP Tryz.func70 rfl Tryz.ntmps70 rfl fun _ H => ?_
 refine w_seq ?_
 refine wl_start ?_
 have hd := hS.hand [] [0] rfl rfl
 refine m_stp [1] [] H rfl rfl rfl rfl (o_box [.string ⟨⟨d_.Long.Name⟩⟩, .slice g_d__0.a d_.Long.Value.length g_d__0.c, .string ⟨⟨d_.Long.Whole⟩⟩, .bool d_.Important, vU d_.Origin, .bool d_.Attached, vI d_.Layer, vI d_.Weight.e0, vI d_.Weight.e1, vI d_.Weight.e2, vI d_.Order] H hd rfl rfl) (fun _ => rfl) fun _ wd2 v H3 hq => ?_
 clear H hd
 obtain ⟨b1, rfl, hq⟩ := hq
 replace hS : SH M X w [eB b1 [.string ⟨⟨d_.Long.Name⟩⟩, .slice g_d__0.a d_.Long.Value.length g_d__0.c, .string ⟨⟨d_.Long.Whole⟩⟩, .bool d_.Important, vU d_.Origin, .bool d_.Attached, vI d_.Layer, vI d_.Weight.e0, vI d_.Weight.e1, vI d_.Weight.e2, vI d_.Order], eI tyValue d_.Long.Value g_d__0] _ := hS.join [] [0] rfl rfl hq
 clear hq
 have hd := hS.hand [] [0, 1] rfl rfl
 refine m_stp [2, 1] [(1, [], vP b1)] H3 rfl rfl rfl rfl (o_alloc [vI 0, vI 0, vI 0, vI 0, vI 0, vI 0, vI 0] (z := .agg ⟨[vI 0, vI 0, vI 0, vI 0, vI 0, vI 0, vI 0]⟩) hd (by kernel_rfl) rfl) (fun _ => rfl) fun _ wd5 v H6 hq => ?_
 clear H3 hd
 obtain ⟨b4, rfl, hq⟩ := hq
 replace hS : SH M X w [eB b4 [vI 0, vI 0, vI 0, vI 0, vI 0, vI 0, vI 0], eB b1 [.string ⟨⟨d_.Long.Name⟩⟩, .slice g_d__0.a d_.Long.Value.length g_d__0.c, .string ⟨⟨d_.Long.Whole⟩⟩, .bool d_.Important, vU d_.Origin, .bool d_.Attached, vI d_.Layer, vI d_.Weight.e0, vI d_.Weight.e1, vI d_.Weight.e2, vI d_.Order], eI tyValue d_.Long.Value g_d__0] _ := hS.join [] [0, 1] rfl rfl hq
 clear hq
 refine wl_end rfl ?_
 refine w_seq ?_
 refine wl_start ?_
 refine wl_batch 0 17 [(vU d_.Origin), (vI d_.Layer), (vI d_.Weight.e0), (vI d_.Weight.e1), (vI d_.Weight.e2), (vI d_.Order)] [1, 2, 20] [(1, [], vP b1), (2, [], vP b4), (20, [], .agg ⟨[vI (w64 d_.Origin), vI 0, vI d_.Layer, vI d_.Weight.e0, vI d_.Weight.e1, vI d_.Weight.e2, vI d_.Order]⟩)] [fun wz => V.at1 ⟨b1, 4, none⟩ (vU d_.Origin) wz, fun wz => V.at1 ⟨b1, 6, none⟩ (vI d_.Layer) wz, fun _ => 0 ≤ (0 : Int) ∧ (0 : Int) < 3, fun wz => V.at1 ⟨b1, 7, none⟩ (vI d_.Weight.e0) wz, fun _ => 0 ≤ (1 : Int) ∧ (1 : Int) < 3, fun wz => V.at1 ⟨b1, 8, none⟩ (vI d_.Weight.e1) wz, fun _ => 0 ≤ (2 : Int) ∧ (2 : Int) < 3, fun wz => V.at1 ⟨b1, 9, none⟩ (vI d_.Weight.e2) wz, fun wz => V.at1 ⟨b1, 10, none⟩ (vI d_.Order) wz] H6 (by decide) (by kernel_rfl) ⟨((hS.bk 1 rfl).at1 rfl), ((hS.bk 1 rfl).at1 rfl), (show 0 ≤ (0 : Int) ∧ (0 : Int) < 3 from by decide), ((hS.bk 1 rfl).at1 rfl), (show 0 ≤ (1 : Int) ∧ (1 : Int) < 3 from by decide), ((hS.bk 1 rfl).at1 rfl), (show 0 ≤ (2 : Int) ∧ (2 : Int) < 3 from by decide), ((hS.bk 1 rfl).at1 rfl), ((hS.bk 1 rfl).at1 rfl), trivial⟩ fun _ wd7 H8 hb => ?_
 clear H6
 replace hS := hS.below hb
 clear hb
 have hd := hS.hand [] [0, 1, 2] rfl rfl
 refine m_stp [3, 1, 2, 20] [(1, [], vP b1), (2, [], vP b4), (20, [], .agg ⟨[vI (w64 d_.Origin), vI 0, vI d_.Layer, vI d_.Weight.e0, vI d_.Weight.e1, vI d_.Weight.e2, vI d_.Order]⟩)] H8 rfl rfl rfl rfl (o_alloc [vI 0, vI 0, vI 0, vI 0, vI 0, vI 0, vI 0] (z := .agg ⟨[vI 0, vI 0, vI 0, vI 0, vI 0, vI 0, vI 0]⟩) hd (by kernel_rfl) rfl) (fun _ => rfl) fun _ wd10 v H11 hq => ?_
 clear H8 hd
 obtain ⟨b9, rfl, hq⟩ := hq
 replace hS : SH M X w [eB b9 [vI 0, vI 0, vI 0, vI 0, vI 0, vI 0, vI 0], eB b4 [vI 0, vI 0, vI 0, vI 0, vI 0, vI 0, vI 0], eB b1 [.string ⟨⟨d_.Long.Name⟩⟩, .slice g_d__0.a d_.Long.Value.length g_d__0.c, .string ⟨⟨d_.Long.Whole⟩⟩, .bool d_.Important, vU d_.Origin, .bool d_.Attached, vI d_.Layer, vI d_.Weight.e0, vI d_.Weight.e1, vI d_.Weight.e2, vI d_.Order], eI tyValue d_.Long.Value g_d__0] _ := hS.join [] [0, 1, 2] rfl rfl hq
 clear hq
 have hd := hS.hand [0] [1, 2, 3] rfl rfl
 refine m_stp0 [1, 2, 3] [(1, [], vP b1), (2, [], vP b4), (3, [], vP b9)] H11 rfl rfl rfl (o_store [vI (w64 d_.Origin), vI 0, vI d_.Layer, vI d_.Weight.e0, vI d_.Weight.e1, vI d_.Weight.e2, vI d_.Order] H11 hd rfl rfl (by kernel_rfl) rfl rfl rfl) rfl fun _ wd12 H13 hq => ?_
 clear H11 hd
 obtain ⟨_, hq⟩ := hq
 replace hS : SH M X w [eB b9 [vI (w64 d_.Origin), vI 0, vI d_.Layer, vI d_.Weight.e0, vI d_.Weight.e1, vI d_.Weight.e2, vI d_.Order], eB b4 [vI 0, vI 0, vI 0, vI 0, vI 0, vI 0, vI 0], eB b1 [.string ⟨⟨d_.Long.Name⟩⟩, .slice g_d__0.a d_.Long.Value.length g_d__0.c, .string ⟨⟨d_.Long.Whole⟩⟩, .bool d_.Important, vU d_.Origin, .bool d_.Attached, vI d_.Layer, vI d_.Weight.e0, vI d_.Weight.e1, vI d_.Weight.e2, vI d_.Order], eI tyValue d_.Long.Value g_d__0] _ := hS.join [0] [1, 2, 3] rfl rfl hq
 clear hq
 refine wl_end rfl ?_
 obtain ⟨z14, hz, hm⟩ := letE hm
 refine w_cut (fun a' w' => Fr 36 [(1, [], vP b1), (2, [], vP b4), (3, [], vP b9)] a' ∧ SH M X w [eB b9 [vI (w64 d_.Origin), vI z14, vI d_.Layer, vI d_.Weight.e0, vI d_.Weight.e1, vI d_.Weight.e2, vI d_.Order], eB b4 [vI 0, vI 0, vI 0, vI 0, vI 0, vI 0, vI 0], eB b1 [.string ⟨⟨d_.Long.Name⟩⟩, .slice g_d__0.a d_.Long.Value.length g_d__0.c, .string ⟨⟨d_.Long.Whole⟩⟩, .bool d_.Important, vU d_.Origin, .bool d_.Attached, vI d_.Layer, vI d_.Weight.e0, vI d_.Weight.e1, vI d_.Weight.e2, vI d_.Order], eI tyValue d_.Long.Value g_d__0] w') ?_ ?_
 ·replace hm := hz.symm
  refine s_reg [(.bool d_.Attached)] [1, 2, 3, 22] [(1, [], vP b1), (2, [], vP b4), (3, [], vP b9), (22, [], .bool d_.Attached)] [fun wz => V.at1 ⟨b1, 5, none⟩ (.bool d_.Attached) wz] H13 (by kernel_rfl) ⟨((hS.bk 2 rfl).at1 rfl), trivial⟩ fun _ wd15 H16 hb => ?_
  clear H13
  replace hS := hS.below hb
  clear hb
  refine w_if H16 rfl (fun hc => ?_) (fun hc => ?c21)
  case c21 =>
   replace hm := bF hc hm
   refine w_skip ?_
   subst hm
   exact ⟨FrG.keep (ks := [1, 2, 3]) H16 (by kernel_rfl), hS⟩
  replace hm := bT hc hm
  refine wl_start ?_
  refine wl_batch 0 1 [] [1, 2, 3, 23] [(1, [], vP b1), (2, [], vP b4), (3, [], vP b9), (23, [], vA b9 1)] [fun _ => 0 ≤ (1 : Int) ∧ (1 : Int) < 7] H16 (by decide) (by kernel_rfl) ⟨(show 0 ≤ (1 : Int) ∧ (1 : Int) < 7 from by decide), trivial⟩ fun _ wd17 H18 hb => ?_
  clear H16
  replace hS := hS.below hb
  clear hb
  have hd := hS.hand [0] [1, 2, 3] rfl rfl
  refine m_stp0 [1, 2, 3] [(1, [], vP b1), (2, [], vP b4), (3, [], vP b9)] H18 rfl rfl rfl (o_store [vI (w64 d_.Origin), vI 1, vI d_.Layer, vI d_.Weight.e0, vI d_.Weight.e1, vI d_.Weight.e2, vI d_.Order] H18 hd rfl rfl (by kernel_rfl) rfl rfl rfl) rfl fun _ wd19 H20 hq => ?_
  clear H18 hd
  obtain ⟨_, hq⟩ := hq
  replace hS : SH M X w [eB b9 [vI (w64 d_.Origin), vI 1, vI d_.Layer, vI d_.Weight.e0, vI d_.Weight.e1, vI d_.Weight.e2, vI d_.Order], eB b4 [vI 0, vI 0, vI 0, vI 0, vI 0, vI 0, vI 0], eB b1 [.string ⟨⟨d_.Long.Name⟩⟩, .slice g_d__0.a d_.Long.Value.length g_d__0.c, .string ⟨⟨d_.Long.Whole⟩⟩, .bool d_.Important, vU d_.Origin, .bool d_.Attached, vI d_.Layer, vI d_.Weight.e0, vI d_.Weight.e1, vI d_.Weight.e2, vI d_.Order], eI tyValue d_.Long.Value g_d__0] _ := hS.join [0] [1, 2, 3] rfl rfl hq
  clear hq
  refine wl_end rfl ?_
  subst hm
  exact ⟨FrG.keep (ks := [1, 2, 3]) H20 (by kernel_rfl), hS⟩
 ·rintro _ wd39 ⟨H, hS⟩
  obtain ⟨z22, hz, hm⟩ := letE hm
  refine w_cut (fun a' w' => Fr 36 [(2, [], vP b4), (3, [], vP b9)] a' ∧ SH M X w [eB b9 [vI z22.1, vI z14, vI z22.2, vI d_.Weight.e0, vI d_.Weight.e1, vI d_.Weight.e2, vI d_.Order], eB b4 [vI 0, vI 0, vI 0, vI 0, vI 0, vI 0, vI 0], eB b1 [.string ⟨⟨d_.Long.Name⟩⟩, .slice g_d__0.a d_.Long.Value.length g_d__0.c, .string ⟨⟨d_.Long.Whole⟩⟩, .bool d_.Important, vU d_.Origin, .bool d_.Attached, vI d_.Layer, vI d_.Weight.e0, vI d_.Weight.e1, vI d_.Weight.e2, vI d_.Order], eI tyValue d_.Long.Value g_d__0] w') ?_ ?_
  ·replace hm := hz.symm
   refine s_reg [(.bool d_.Important)] [1, 2, 3, 25] [(1, [], vP b1), (2, [], vP b4), (3, [], vP b9), (25, [], .bool d_.Important)] [fun wz => V.at1 ⟨b1, 3, none⟩ (.bool d_.Important) wz] H (by kernel_rfl) ⟨((hS.bk 2 rfl).at1 rfl), trivial⟩ fun _ wd23 H24 hb => ?_
   clear H
   replace hS := hS.below hb
   clear hb
   refine w_if H24 rfl (fun hc => ?_) (fun hc => ?c33)
   case c33 =>
    replace hm := bF hc hm
    refine w_skip ?_
    subst hm
    exact ⟨FrG.keep (ks := [2, 3]) H24 (by kernel_rfl), hS⟩
   replace hm := bT hc hm
   refine w_seq ?_
   refine wl_start ?_
   refine wl_batch 0 5 [(vU d_.Origin)] [1, 2, 3, 29, 30] [(1, [], vP b1), (2, [], vP b4), (3, [], vP b9), (29, [], vI (w64 (7 - (w64 d_.Origin)))), (30, [], vP b9)] [fun wz => V.at1 ⟨b1, 4, none⟩ (vU d_.Origin) wz, fun _ => 0 ≤ (0 : Int) ∧ (0 : Int) < 7] H24 (by decide) (by kernel_rfl) ⟨((hS.bk 2 rfl).at1 rfl), (show 0 ≤ (0 : Int) ∧ (0 : Int) < 7 from by decide), trivial⟩ fun _ wd25 H26 hb => ?_
   clear H24
   replace hS := hS.below hb
   clear hb
   have hd := hS.hand [0] [1, 2, 3] rfl rfl
   refine m_stp0 [1, 2, 3] [(1, [], vP b1), (2, [], vP b4), (3, [], vP b9)] H26 rfl rfl rfl (o_store [vI (w64 (7 - (w64 d_.Origin))), vI z14, vI d_.Layer, vI d_.Weight.e0, vI d_.Weight.e1, vI d_.Weight.e2, vI d_.Order] H26 hd rfl rfl (by kernel_rfl) rfl rfl rfl) rfl fun _ wd27 H28 hq => ?_
   clear H26 hd
   obtain ⟨_, hq⟩ := hq
   replace hS : SH M X w [eB b9 [vI (w64 (7 - (w64 d_.Origin))), vI z14, vI d_.Layer, vI d_.Weight.e0, vI d_.Weight.e1, vI d_.Weight.e2, vI d_.Order], eB b4 [vI 0, vI 0, vI 0, vI 0, vI 0, vI 0, vI 0], eB b1 [.string ⟨⟨d_.Long.Name⟩⟩, .slice g_d__0.a d_.Long.Value.length g_d__0.c, .string ⟨⟨d_.Long.Whole⟩⟩, .bool d_.Important, vU d_.Origin, .bool d_.Attached, vI d_.Layer, vI d_.Weight.e0, vI d_.Weight.e1, vI d_.Weight.e2, vI d_.Order], eI tyValue d_.Long.Value g_d__0] _ := hS.join [0] [1, 2, 3] rfl rfl hq
   clear hq
   refine wl_end rfl ?_
   refine wl_start ?_
   refine wl_batch 0 4 [(vI d_.Layer)] [2, 3, 33, 34] [(2, [], vP b4), (3, [], vP b9), (33, [], vI (w64 (1000000 - d_.Layer))), (34, [], vA b9 2)] [fun wz => V.at1 ⟨b1, 6, none⟩ (vI d_.Layer) wz, fun _ => 0 ≤ (2 : Int) ∧ (2 : Int) < 7] H28 (by decide) (by kernel_rfl) ⟨((hS.bk 2 rfl).at1 rfl), (show 0 ≤ (2 : Int) ∧ (2 : Int) < 7 from by decide), trivial⟩ fun _ wd29 H30 hb => ?_
   clear H28
   replace hS := hS.below hb
   clear hb
   have hd := hS.hand [0] [1, 2, 3] rfl rfl
   refine m_stp0 [2, 3] [(2, [], vP b4), (3, [], vP b9)] H30 rfl rfl rfl (o_store [vI (w64 (7 - (w64 d_.Origin))), vI z14, vI (w64 (1000000 - d_.Layer)), vI d_.Weight.e0, vI d_.Weight.e1, vI d_.Weight.e2, vI d_.Order] H30 hd rfl rfl (by kernel_rfl) rfl rfl rfl) rfl fun _ wd31 H32 hq => ?_
   clear H30 hd
   obtain ⟨_, hq⟩ := hq
   replace hS : SH M X w [eB b9 [vI (w64 (7 - (w64 d_.Origin))), vI z14, vI (w64 (1000000 - d_.Layer)), vI d_.Weight.e0, vI d_.Weight.e1, vI d_.Weight.e2, vI d_.Order], eB b4 [vI 0, vI 0, vI 0, vI 0, vI 0, vI 0, vI 0], eB b1 [.string ⟨⟨d_.Long.Name⟩⟩, .slice g_d__0.a d_.Long.Value.length g_d__0.c, .string ⟨⟨d_.Long.Whole⟩⟩, .bool d_.Important, vU d_.Origin, .bool d_.Attached, vI d_.Layer, vI d_.Weight.e0, vI d_.Weight.e1, vI d_.Weight.e2, vI d_.Order], eI tyValue d_.Long.Value g_d__0] _ := hS.join [0] [1, 2, 3] rfl rfl hq
   clear hq
   refine wl_end rfl ?_
   subst hm
   exact ⟨FrG.keep (ks := [2, 3]) H32 (by kernel_rfl), hS⟩
  ·rintro _ wd38 ⟨H, hS⟩
   replace hS : SH M X w [eB b9 [vI z22.1, vI z14, vI z22.2, vI d_.Weight.e0, vI d_.Weight.e1, vI d_.Weight.e2, vI d_.Order], eB b4 [vI 0, vI 0, vI 0, vI 0, vI 0, vI 0, vI 0]] _ := hS.sel [0, 1] rfl
   refine w_seq ?_
   refine wl_start ?_
   refine wl_batch 0 1 [(.agg ⟨[vI z22.1, vI z14, vI z22.2, vI d_.Weight.e0, vI d_.Weight.e1, vI d_.Weight.e2, vI d_.Order]⟩)] [2, 35] [(2, [], vP b4), (35, [], .agg ⟨[vI z22.1, vI z14, vI z22.2, vI d_.Weight.e0, vI d_.Weight.e1, vI d_.Weight.e2, vI d_.Order]⟩)] [fun wz => V.atN b9 0 [vI z22.1, vI z14, vI z22.2, vI d_.Weight.e0, vI d_.Weight.e1, vI d_.Weight.e2, vI d_.Order] 0 wz] H (by decide) (by kernel_rfl) ⟨((hS.bk 0 rfl).atD rfl), trivial⟩ fun _ wd34 H35 hb => ?_
   clear H
   replace hS := hS.below hb
   clear hb
   have hd := hS.hand [1] [0] rfl rfl
   refine m_stp0 [2] [(2, [], vP b4)] H35 rfl rfl rfl (o_store [vI z22.1, vI z14, vI z22.2, vI d_.Weight.e0, vI d_.Weight.e1, vI d_.Weight.e2, vI d_.Order] H35 hd rfl rfl (by kernel_rfl) rfl rfl rfl) rfl fun _ wd36 H37 hq => ?_
   clear H35 hd
   obtain ⟨_, hq⟩ := hq
   replace hS : SH M X w [eB b4 [vI z22.1, vI z14, vI z22.2, vI d_.Weight.e0, vI d_.Weight.e1, vI d_.Weight.e2, vI d_.Order], eB b9 [vI z22.1, vI z14, vI z22.2, vI d_.Weight.e0, vI d_.Weight.e1, vI d_.Weight.e2, vI d_.Order]] _ := hS.join [1] [0] rfl rfl hq
   clear hq
   refine wl_end rfl ?_
   replace hS : SH M X w [eB b4 [vI z22.1, vI z14, vI z22.2, vI d_.Weight.e0, vI d_.Weight.e1, vI d_.Weight.e2, vI d_.Order]] _ := hS.sel [0] rfl
   refine w_ret ?_
   subst hm
   exact retR1 H37 rfl (oneRes_agg rfl (hS.bk 0 rfl) Tryz.underlying114 rfl (by kernel_rfl)) ⟨_, rfl, rfl, (hS.sel [] rfl)⟩
theorem r29_Ranked_ok {g_d__0 : Gh} (d_ : TDeclared) (w : World) (hL : S0 F0 [eI tyValue d_.Long.Value g_d__0] w ∧ fpl [eI tyValue d_.Long.Value g_d__0] = []) : RetB Tryz.prog 70 ⟨[.agg ⟨[.string ⟨⟨d_.Long.Name⟩⟩, .slice g_d__0.a d_.Long.Value.length g_d__0.c, .string ⟨⟨d_.Long.Whole⟩⟩, .bool d_.Important, vU d_.Origin, .bool d_.Attached, vI d_.Layer, vI d_.Weight.e0, vI d_.Weight.e1, vI d_.Weight.e2, vI d_.Order]⟩]⟩ (.agg ⟨[vI (r29_Ranked d_).e0, vI (r29_Ranked d_).e1, vI (r29_Ranked d_).e2, vI (r29_Ranked d_).e3, vI (r29_Ranked d_).e4, vI (r29_Ranked d_).e5, vI (r29_Ranked d_).e6]⟩) w := retB_of hL (Tryz.call70 _) (fun w' h => r29_Ranked_w F0   d_ _ rfl w' h)

theorem r29_Less_w {g_a__0 : Gh} {g_b__0 : Gh} (M : Av) (m : Nat) (a_ : TDeclared) (b_ : TDeclared) (r : Bool) (hm : r29_Less m a_ b_ = some r) (w : World) (hS : S0 M [eI tyValue a_.Long.Value g_a__0, eI tyValue b_.Long.Value g_b__0] w) : Calls Tryz.prog 44 ⟨[.agg ⟨[.string ⟨⟨a_.Long.Name⟩⟩, .slice g_a__0.a a_.Long.Value.length g_a__0.c, .string ⟨⟨a_.Long.Whole⟩⟩, .bool a_.Important, vU a_.Origin, .bool a_.Attached, vI a_.Layer, vI a_.Weight.e0, vI a_.Weight.e1, vI a_.Weight.e2, vI a_.Order]⟩, .agg ⟨[.string ⟨⟨b_.Long.Name⟩⟩, .slice g_b__0.a b_.Long.Value.length g_b__0.c, .string ⟨⟨b_.Long.Whole⟩⟩, .bool b_.Important, vU b_.Origin, .bool b_.Attached, vI b_.Layer, vI b_.Weight.e0, vI b_.Weight.e1, vI b_.Weight.e2, vI b_.Order]⟩]⟩ w (fun e w' => ∃ v, e = .returned v ∧ v = .bool r ∧ SH M (fpl [eI tyValue a_.Long.Value g_a__0, eI tyValue b_.Long.Value g_b__0]) w [] w') := by
 rw [r29_Less] at hm
 have hS0 : SH M (fpl [eI tyValue a_.Long.Value g_a__0, eI tyValue b_.Long.Value g_b__0]) w [eI tyValue a_.Long.Value g_a__0, eI tyValue b_.Long.Value g_b__0] w := hS
 generalize hX : fpl [eI tyValue a_.Long.Value g_a__0, eI tyValue b_.Long.Value g_b__0] = X at hS0 ⊢
 clear hS hX
 have hS := hS0
 clear hS0
 refine calls_entryP Tryz.func44 rfl Tryz.ntmps44 rfl fun _ H => ?_
 refine w_seq ?_
 refine wl_start ?_
 have hd := hS.hand [] [0, 1] rfl rfl
 refine m_stp [2, 1] [(1, [], .agg ⟨[.string ⟨⟨b_.Long.Name⟩⟩, .slice g_b__0.a b_.Long.Value.length g_b__0.c, .string ⟨⟨b_.Long.Whole⟩⟩, .bool b_.Important, vU b_.Origin, .bool b_.Attached, vI b_.Layer, vI b_.Weight.e0, vI b_.Weight.e1, vI b_.Weight.e2, vI b_.Order]⟩)] H rfl rfl rfl rfl (o_box [.string ⟨⟨a_.Long.Name⟩⟩, .slice g_a__0.a a_.Long.Value.length g_a__0.c, .string ⟨⟨a_.Long.Whole⟩⟩, .bool a_.Important, vU a_.Origin, .bool a_.Attached, vI a_.Layer, vI a_.Weight.e0, vI a_.Weight.e1, vI a_.Weight.e2, vI a_.Order] H hd rfl rfl) (fun _ => rfl) fun _ wd2 v H3 hq => ?_
 clear H hd
 obtain ⟨b1, rfl, hq⟩ := hq
 replace hS : SH M X w [eB b1 [.string ⟨⟨a_.Long.Name⟩⟩, .slice g_a__0.a a_.Long.Value.length g_a__0.c, .string ⟨⟨a_.Long.Whole⟩⟩, .bool a_.Important, vU a_.Origin, .bool a_.Attached, vI a_.Layer, vI a_.Weight.e0, vI a_.Weight.e1, vI a_.Weight.e2, vI a_.Order], eI tyValue a_.Long.Value g_a__0, eI tyValue b_.Long.Value g_b__0] _ := hS.join [] [0, 1] rfl rfl hq
 clear hq
 have hd := hS.hand [] [0, 1, 2] rfl rfl
 refine m_stp [3, 2] [(2, [], vP b1)] H3 rfl rfl rfl rfl (o_box [.string ⟨⟨b_.Long.Name⟩⟩, .slice g_b__0.a b_.Long.Value.length g_b__0.c, .string ⟨⟨b_.Long.Whole⟩⟩, .bool b_.Important, vU b_.Origin, .bool b_.Attached, vI b_.Layer, vI b_.Weight.e0, vI b_.Weight.e1, vI b_.Weight.e2, vI b_.Order] H3 hd rfl rfl) (fun _ => rfl) fun _ wd5 v H6 hq => ?_
 clear H3 hd
 obtain ⟨b4, rfl, hq⟩ := hq
 replace hS : SH M X w [eB b4 [.string ⟨⟨b_.Long.Name⟩⟩, .slice g_b__0.a b_.Long.Value.length g_b__0.c, .string ⟨⟨b_.Long.Whole⟩⟩, .bool b_.Important, vU b_.Origin, .bool b_.Attached, vI b_.Layer, vI b_.Weight.e0, vI b_.Weight.e1, vI b_.Weight.e2, vI b_.Order], eB b1 [.string ⟨⟨a_.Long.Name⟩⟩, .slice g_a__0.a a_.Long.Value.length g_a__0.c, .string ⟨⟨a_.Long.Whole⟩⟩, .bool a_.Important, vU a_.Origin, .bool a_.Attached, vI a_.Layer, vI a_.Weight.e0, vI a_.Weight.e1, vI a_.Weight.e2, vI a_.Order], eI tyValue a_.Long.Value g_a__0, eI tyValue b_.Long.Value g_b__0] _ := hS.join [] [0, 1, 2] rfl rfl hq
 clear hq
 refine wl_batch 2 3 [] [2, 3] [(2, [], vP b1), (3, [], vP b4)] [] H6 (by decide) (by kernel_rfl) trivial fun _ wd7 H8 hb => ?_
 clear H6
 replace hS := hS.below hb
 clear hb
 refine wl_end rfl ?_
 obtain ⟨y10, hy10, hm⟩ := letE hm
 obtain ⟨y11, hy11, hm⟩ := letE hm
 refine s_drawS (base := [(2, [], vP b1), (3, [], vP b4)]) (L := [eB b4 [.string ⟨⟨b_.Long.Name⟩⟩, .slice g_b__0.a b_.Long.Value.length g_b__0.c, .string ⟨⟨b_.Long.Whole⟩⟩, .bool b_.Important, vU b_.Origin, .bool b_.Attached, vI b_.Layer, vI b_.Weight.e0, vI b_.Weight.e1, vI b_.Weight.e2, vI b_.Order], eB b1 [.string ⟨⟨a_.Long.Name⟩⟩, .slice g_a__0.a a_.Long.Value.length g_a__0.c, .string ⟨⟨a_.Long.Whole⟩⟩, .bool a_.Important, vU a_.Origin, .bool a_.Attached, vI a_.Layer, vI a_.Weight.e0, vI a_.Weight.e1, vI a_.Weight.e2, vI a_.Order], eI tyValue a_.Long.Value g_a__0, eI tyValue b_.Long.Value g_b__0]) 8 4 (fun yg9 => [.agg ⟨[.string ⟨⟨a_.Long.Name⟩⟩, .slice g_a__0.a a_.Long.Value.length g_a__0.c, .string ⟨⟨a_.Long.Whole⟩⟩, .bool a_.Important, vU a_.Origin, .bool a_.Attached, vI a_.Layer, vI a_.Weight.e0, vI a_.Weight.e1, vI a_.Weight.e2, vI a_.Order]⟩, .agg ⟨[vI y10.e0, vI y10.e1, vI y10.e2, vI y10.e3, vI y10.e4, vI y10.e5, vI y10.e6]⟩, .agg ⟨[.string ⟨⟨b_.Long.Name⟩⟩, .slice g_b__0.a b_.Long.Value.length g_b__0.c, .string ⟨⟨b_.Long.Whole⟩⟩, .bool b_.Important, vU b_.Origin, .bool b_.Attached, vI b_.Layer, vI b_.Weight.e0, vI b_.Weight.e1, vI b_.Weight.e2, vI b_.Order]⟩, .agg ⟨[vI y11.e0, vI y11.e1, vI y11.e2, vI y11.e3, vI y11.e4, vI y11.e5, vI y11.e6]⟩, .pointer (some ⟨(ab (yg9 4 0).a), 0, none⟩), .pointer (some ⟨(ab (yg9 5 0).a), 0, none⟩), undef, undef]) (fun yg9 => [[], [], [], [], [eB (ab (yg9 4 0).a) [vI 0, vI 0, vI 0, vI 0, vI 0, vI 0, vI 0]], [eB (ab (yg9 5 0).a) [vI 0, vI 0, vI 0, vI 0, vI 0, vI 0, vI 0]], [eB (ab (yg9 4 0).a) [vI y10.e0, vI y10.e1, vI y10.e2, vI y10.e3, vI y10.e4, vI y10.e5, vI y10.e6]], [eB (ab (yg9 5 0).a) [vI y11.e0, vI y11.e1, vI y11.e2, vI y11.e3, vI y11.e4, vI y11.e5, vI y11.e6]]]) [[9, 10], [10], [8, 11], [11], [], [], [4], [5]] [[], [], [], [], [], [], [4], [5]] [[0], [0, 1], [2], [2, 3], [4], [5], [0, 1, 4, 6], [2, 3, 5, 7]] [] (FrG.keep (ks := [2, 3]) H8 (by kernel_rfl)) (fun _ _ h => by cases h) (by kernel_rfl) hS (by kernel_rfl) rfl rfl (by kernel_rfl) (by kernel_rfl) (by kernel_rfl) (gd_none (by kernel_rfl) _ _) ?hloc_yg9 ?hstep_yg9 fun _ wd14 yg9 H15 hv hS => ?hK_yg9
 case hloc_yg9 => exact ⟨(fun _ _ _ _ => ⟨rfl, rfl⟩), (fun _ _ _ _ => ⟨rfl, rfl⟩), (fun _ _ _ _ => ⟨rfl, rfl⟩), (fun _ _ _ _ => ⟨rfl, rfl⟩), (fun _ i g hi => lcG [4] (fun yg9 => (.pointer (some ⟨(ab (yg9 4 0).a), 0, none⟩), [eB (ab (yg9 4 0).a) [vI 0, vI 0, vI 0, vI 0, vI 0, vI 0, vI 0]])) hi rfl), (fun _ i g hi => lcG [5] (fun yg9 => (.pointer (some ⟨(ab (yg9 5 0).a), 0, none⟩), [eB (ab (yg9 5 0).a) [vI 0, vI 0, vI 0, vI 0, vI 0, vI 0, vI 0]])) hi rfl), (fun _ i g hi => lcG [4] (fun yg9 => (undef, [eB (ab (yg9 4 0).a) [vI y10.e0, vI y10.e1, vI y10.e2, vI y10.e3, vI y10.e4, vI y10.e5, vI y10.e6]])) hi rfl), (fun _ i g hi => lcG [5] (fun yg9 => (undef, [eB (ab (yg9 5 0).a) [vI y11.e0, vI y11.e1, vI y11.e2, vI y11.e3, vI y11.e4, vI y11.e5, vI y11.e6]])) hi rfl), trivial⟩
 case hstep_yg9 =>
  refine ⟨?_, ?_, ?_, ?_, ?_, ?_, ?_, ?_, trivial⟩
  ·intro o ho a w yg9 M Hb hv hO hS
   obtain rfl := Option.some.inj ho
   exact Stp.mono (o_evs [(.agg ⟨[.string ⟨⟨a_.Long.Name⟩⟩, .slice g_a__0.a a_.Long.Value.length g_a__0.c, .string ⟨⟨a_.Long.Whole⟩⟩, .bool a_.Important, vU a_.Origin, .bool a_.Attached, vI a_.Layer, vI a_.Weight.e0, vI a_.Weight.e1, vI a_.Weight.e2, vI a_.Order]⟩)] (.agg ⟨[.string ⟨⟨a_.Long.Name⟩⟩, .slice g_a__0.a a_.Long.Value.length g_a__0.c, .string ⟨⟨a_.Long.Whole⟩⟩, .bool a_.Important, vU a_.Origin, .bool a_.Attached, vI a_.Layer, vI a_.Weight.e0, vI a_.Weight.e1, vI a_.Weight.e2, vI a_.Order]⟩) (some (fun wz => V.atN b1 0 [.string ⟨⟨a_.Long.Name⟩⟩, .slice g_a__0.a a_.Long.Value.length g_a__0.c, .string ⟨⟨a_.Long.Whole⟩⟩, .bool a_.Important, vU a_.Origin, .bool a_.Attached, vI a_.Layer, vI a_.Weight.e0, vI a_.Weight.e1, vI a_.Weight.e2, vI a_.Order] 0 wz)) [] Hb rfl (by kernel_rfl) (fun q e => by cases e; exact ((hS.bk 0 rfl).atD rfl))) fun _ _ hq => ⟨gL [], fun _ _ => hq.1, (hS.below hq.2.below).sel [0, 1] rfl⟩
  ·intro o ho a w yg9 M Hb hv hO hS
   obtain rfl := Option.some.inj ho
   exact Stp.mono (o_evs [(.agg ⟨[vI y10.e0, vI y10.e1, vI y10.e2, vI y10.e3, vI y10.e4, vI y10.e5, vI y10.e6]⟩)] (.agg ⟨[vI y10.e0, vI y10.e1, vI y10.e2, vI y10.e3, vI y10.e4, vI y10.e5, vI y10.e6]⟩) (some (fun wz => RetB Tryz.prog 70 ⟨[.agg ⟨[.string ⟨⟨a_.Long.Name⟩⟩, .slice g_a__0.a a_.Long.Value.length g_a__0.c, .string ⟨⟨a_.Long.Whole⟩⟩, .bool a_.Important, vU a_.Origin, .bool a_.Attached, vI a_.Layer, vI a_.Weight.e0, vI a_.Weight.e1, vI a_.Weight.e2, vI a_.Order]⟩]⟩ (.agg ⟨[vI y10.e0, vI y10.e1, vI y10.e2, vI y10.e3, vI y10.e4, vI y10.e5, vI y10.e6]⟩) wz)) [] ((Hb).add (hv 0 (by decide) (by decide) 8 rfl)) rfl (by subst hy10; kernel_rfl) (fun q e => by cases e; exact ((by rw [hy10]; exact r29_Ranked_ok (g_d__0 := g_a__0) _ _ (s0im s0nil (hS.im 0 rfl)))))) fun _ _ hq => ⟨gL [], fun _ _ => hq.1, (hS.below hq.2.below).sel [0] rfl⟩
  ·intro o ho a w yg9 M Hb hv hO hS
   obtain rfl := Option.some.inj ho
   exact Stp.mono (o_evs [(.agg ⟨[.string ⟨⟨b_.Long.Name⟩⟩, .slice g_b__0.a b_.Long.Value.length g_b__0.c, .string ⟨⟨b_.Long.Whole⟩⟩, .bool b_.Important, vU b_.Origin, .bool b_.Attached, vI b_.Layer, vI b_.Weight.e0, vI b_.Weight.e1, vI b_.Weight.e2, vI b_.Order]⟩)] (.agg ⟨[.string ⟨⟨b_.Long.Name⟩⟩, .slice g_b__0.a b_.Long.Value.length g_b__0.c, .string ⟨⟨b_.Long.Whole⟩⟩, .bool b_.Important, vU b_.Origin, .bool b_.Attached, vI b_.Layer, vI b_.Weight.e0, vI b_.Weight.e1, vI b_.Weight.e2, vI b_.Order]⟩) (some (fun wz => V.atN b4 0 [.string ⟨⟨b_.Long.Name⟩⟩, .slice g_b__0.a b_.Long.Value.length g_b__0.c, .string ⟨⟨b_.Long.Whole⟩⟩, .bool b_.Important, vU b_.Origin, .bool b_.Attached, vI b_.Layer, vI b_.Weight.e0, vI b_.Weight.e1, vI b_.Weight.e2, vI b_.Order] 0 wz)) [] Hb rfl (by kernel_rfl) (fun q e => by cases e; exact ((hS.bk 0 rfl).atD rfl))) fun _ _ hq => ⟨gL [], fun _ _ => hq.1, (hS.below hq.2.below).sel [0, 1] rfl⟩
  ·intro o ho a w yg9 M Hb hv hO hS
   obtain rfl := Option.some.inj ho
   exact Stp.mono (o_evs [(.agg ⟨[vI y11.e0, vI y11.e1, vI y11.e2, vI y11.e3, vI y11.e4, vI y11.e5, vI y11.e6]⟩)] (.agg ⟨[vI y11.e0, vI y11.e1, vI y11.e2, vI y11.e3, vI y11.e4, vI y11.e5, vI y11.e6]⟩) (some (fun wz => RetB Tryz.prog 70 ⟨[.agg ⟨[.string ⟨⟨b_.Long.Name⟩⟩, .slice g_b__0.a b_.Long.Value.length g_b__0.c, .string ⟨⟨b_.Long.Whole⟩⟩, .bool b_.Important, vU b_.Origin, .bool b_.Attached, vI b_.Layer, vI b_.Weight.e0, vI b_.Weight.e1, vI b_.Weight.e2, vI b_.Order]⟩]⟩ (.agg ⟨[vI y11.e0, vI y11.e1, vI y11.e2, vI y11.e3, vI y11.e4, vI y11.e5, vI y11.e6]⟩) wz)) [] ((Hb).add (hv 2 (by decide) (by decide) 10 rfl)) rfl (by subst hy11; kernel_rfl) (fun q e => by cases e; exact ((by rw [hy11]; exact r29_Ranked_ok (g_d__0 := g_b__0) _ _ (s0im s0nil (hS.im 0 rfl)))))) fun _ _ hq => ⟨gL [], fun _ _ => hq.1, (hS.below hq.2.below).sel [0] rfl⟩
  ·intro o ho a w yg9 M Hb hv hO hS0
   obtain rfl := Option.some.inj ho
   have H : Fr 30 ([] ++ [(2, [], vP b1), (3, [], vP b4)]) _ := Hb
   obtain ⟨X, hX⟩ : ∃ X, X = fpl [] := ⟨_, rfl⟩
   have hS : SH M X w [] w := by rw [hX]; exact hS0
   have hd := hS.hand [] [] rfl rfl
   refine Stp.mono (o_alloc [vI 0, vI 0, vI 0, vI 0, vI 0, vI 0, vI 0] (z := .agg ⟨[vI 0, vI 0, vI 0, vI 0, vI 0, vI 0, vI 0]⟩) hd (by kernel_rfl) rfl) ?_
   rintro v w2 hq
   obtain ⟨b12, rfl, hq⟩ := hq
   replace hS : SH M X w [eB b12 [vI 0, vI 0, vI 0, vI 0, vI 0, vI 0, vI 0]] _ := hS.join [] [] rfl rfl hq
   clear hq
   rw [hX] at hS
   exact ⟨gL [Gh.mk (some ⟨b12, 0, none⟩) 0 fun _ _ => .nil], fun _ _ => rfl, hS.sel [0] rfl⟩
  ·intro o ho a w yg9 M Hb hv hO hS0
   obtain rfl := Option.some.inj ho
   have H : Fr 30 ([] ++ [(2, [], vP b1), (3, [], vP b4)]) _ := Hb
   obtain ⟨X, hX⟩ : ∃ X, X = fpl [] := ⟨_, rfl⟩
   have hS : SH M X w [] w := by rw [hX]; exact hS0
   have hd := hS.hand [] [] rfl rfl
   refine Stp.mono (o_alloc [vI 0, vI 0, vI 0, vI 0, vI 0, vI 0, vI 0] (z := .agg ⟨[vI 0, vI 0, vI 0, vI 0, vI 0, vI 0, vI 0]⟩) hd (by kernel_rfl) rfl) ?_
   rintro v w2 hq
   obtain ⟨b13, rfl, hq⟩ := hq
   replace hS : SH M X w [eB b13 [vI 0, vI 0, vI 0, vI 0, vI 0, vI 0, vI 0]] _ := hS.join [] [] rfl rfl hq
   clear hq
   rw [hX] at hS
   exact ⟨gL [Gh.mk (some ⟨b13, 0, none⟩) 0 fun _ _ => .nil], fun _ _ => rfl, hS.sel [0] rfl⟩
  ·intro o ho a w yg9 M Hb hv hO hS0
   obtain rfl := Option.some.inj ho
   have H : Fr 30 ([(9, [], .agg ⟨[vI y10.e0, vI y10.e1, vI y10.e2, vI y10.e3, vI y10.e4, vI y10.e5, vI y10.e6]⟩), (5, [], .pointer (some ⟨(ab (yg9 4 0).a), 0, none⟩))] ++ [(2, [], vP b1), (3, [], vP b4)]) _ := ((Hb).add (hv 4 (by decide) (by decide) 5 rfl)).add (hv 1 (by decide) (by decide) 9 rfl)
   obtain ⟨X, hX⟩ : ∃ X, X = fpl [eB (ab (yg9 4 0).a) [vI 0, vI 0, vI 0, vI 0, vI 0, vI 0, vI 0]] := ⟨_, rfl⟩
   have hS : SH M X w [eB (ab (yg9 4 0).a) [vI 0, vI 0, vI 0, vI 0, vI 0, vI 0, vI 0]] w := by rw [hX]; exact hS0
   have hd := hS.hand [0] [] rfl rfl
   refine Stp.mono (o_store [vI y10.e0, vI y10.e1, vI y10.e2, vI y10.e3, vI y10.e4, vI y10.e5, vI y10.e6] H hd rfl rfl (by kernel_rfl) rfl rfl rfl) ?_
   rintro v w2 hq
   replace hS : SH M X w [eB (ab (yg9 4 0).a) [vI y10.e0, vI y10.e1, vI y10.e2, vI y10.e3, vI y10.e4, vI y10.e5, vI y10.e6]] _ := hS.join [0] [] rfl rfl hq
   clear hq
   rw [hX] at hS
   exact ⟨gL [], (fun _ h => by cases h), hS.sel [0] rfl⟩
  ·intro o ho a w yg9 M Hb hv hO hS0
   obtain rfl := Option.some.inj ho
   have H : Fr 30 ([(11, [], .agg ⟨[vI y11.e0, vI y11.e1, vI y11.e2, vI y11.e3, vI y11.e4, vI y11.e5, vI y11.e6]⟩), (6, [], .pointer (some ⟨(ab (yg9 5 0).a), 0, none⟩))] ++ [(2, [], vP b1), (3, [], vP b4)]) _ := ((Hb).add (hv 5 (by decide) (by decide) 6 rfl)).add (hv 3 (by decide) (by decide) 11 rfl)
   obtain ⟨X, hX⟩ : ∃ X, X = fpl [eB (ab (yg9 5 0).a) [vI 0, vI 0, vI 0, vI 0, vI 0, vI 0, vI 0]] := ⟨_, rfl⟩
   have hS : SH M X w [eB (ab (yg9 5 0).a) [vI 0, vI 0, vI 0, vI 0, vI 0, vI 0, vI 0]] w := by rw [hX]; exact hS0
   have hd := hS.hand [0] [] rfl rfl
   refine Stp.mono (o_store [vI y11.e0, vI y11.e1, vI y11.e2, vI y11.e3, vI y11.e4, vI y11.e5, vI y11.e6] H hd rfl rfl (by kernel_rfl) rfl rfl rfl) ?_
   rintro v w2 hq
   replace hS : SH M X w [eB (ab (yg9 5 0).a) [vI y11.e0, vI y11.e1, vI y11.e2, vI y11.e3, vI y11.e4, vI y11.e5, vI y11.e6]] _ := hS.join [0] [] rfl rfl hq
   clear hq
   rw [hX] at hS
   exact ⟨gL [], (fun _ h => by cases h), hS.sel [0] rfl⟩
 have H16 : Fr 30 [(6, [], .pointer (some ⟨(ab (yg9 5 0).a), 0, none⟩)), (5, [], .pointer (some ⟨(ab (yg9 4 0).a), 0, none⟩))] _ := (FrG.add (FrG.add (FrG.keep (ks := []) H15 (by kernel_rfl)) (hv 4 5 rfl)) (hv 5 6 rfl))
 replace hS : SH M X w [eB (ab (yg9 4 0).a) [vI y10.e0, vI y10.e1, vI y10.e2, vI y10.e3, vI y10.e4, vI y10.e5, vI y10.e6], eB (ab (yg9 5 0).a) [vI y11.e0, vI y11.e1, vI y11.e2, vI y11.e3, vI y11.e4, vI y11.e5, vI y11.e6], eB b4 [.string ⟨⟨b_.Long.Name⟩⟩, .slice g_b__0.a b_.Long.Value.length g_b__0.c, .string ⟨⟨b_.Long.Whole⟩⟩, .bool b_.Important, vU b_.Origin, .bool b_.Attached, vI b_.Layer, vI b_.Weight.e0, vI b_.Weight.e1, vI b_.Weight.e2, vI b_.Order], eB b1 [.string ⟨⟨a_.Long.Name⟩⟩, .slice g_a__0.a a_.Long.Value.length g_a__0.c, .string ⟨⟨a_.Long.Whole⟩⟩, .bool a_.Important, vU a_.Origin, .bool a_.Attached, vI a_.Layer, vI a_.Weight.e0, vI a_.Weight.e1, vI a_.Weight.e2, vI a_.Order], eI tyValue a_.Long.Value g_a__0, eI tyValue b_.Long.Value g_b__0] _ := hS
 clear hv H15
 generalize ab (yg9 5 0).a = b17 at H16 hS
 generalize ab (yg9 4 0).a = b18 at H16 hS
 replace hS : SH M X w [eB b18 [vI y10.e0, vI y10.e1, vI y10.e2, vI y10.e3, vI y10.e4, vI y10.e5, vI y10.e6], eB b17 [vI y11.e0, vI y11.e1, vI y11.e2, vI y11.e3, vI y11.e4, vI y11.e5, vI y11.e6]] _ := hS.sel [0, 1] rfl
 replace hS : SH M X w [Ent.row .i64 b18 [y10.e0, y10.e1, y10.e2, y10.e3, y10.e4, y10.e5, y10.e6] (7 : Int), eB b17 [vI y11.e0, vI y11.e1, vI y11.e2, vI y11.e3, vI y11.e4, vI y11.e5, vI y11.e6]] _ := SH.toRow (q := [y10.e0, y10.e1, y10.e2, y10.e3, y10.e4, y10.e5, y10.e6]) rfl (hS.sel [0, 1] rfl)
 replace hS : SH M X w [Ent.row .i64 b17 [y11.e0, y11.e1, y11.e2, y11.e3, y11.e4, y11.e5, y11.e6] (7 : Int), Ent.row .i64 b18 [y10.e0, y10.e1, y10.e2, y10.e3, y10.e4, y10.e5, y10.e6] (7 : Int)] _ := SH.toRow (q := [y11.e0, y11.e1, y11.e2, y11.e3, y11.e4, y11.e5, y11.e6]) rfl (hS.sel [1, 0] rfl)
 obtain ⟨z19, hz, hm_z19⟩ := bindE hm
 refine w_cut (fun a' w' => ∃ s_z19 : Unit, z19 = Sum.inr s_z19 ∧ Fr 30 [] a' ∧ SH M X w [Ent.row .i64 b17 [y11.e0, y11.e1, y11.e2, y11.e3, y11.e4, y11.e5, y11.e6] (7 : Int), Ent.row .i64 b18 [y10.e0, y10.e1, y10.e2, y10.e3, y10.e4, y10.e5, y10.e6] (7 : Int)] w') ?_ ?_
 ·replace hm := hz
  refine s_reg [] [5, 6, 7] [(5, [], vP b18), (6, [], vP b17), (7, [], vI 0)] [] H16 (by kernel_rfl) trivial fun _ wd20 H21 hb => ?_
  clear H16
  replace hS := hS.below hb
  clear hb
  refine w_block ?_
  refine w_loop (fun kk a' w' => ∃ (v22 : Int), r29_Less_L1 m y10 y11 kk v22 = some _ ∧ Fr 30 [(5, [], vP b18), (6, [], vP b17), (7, [], vI v22)] a' ∧ SH M X w [Ent.row .i64 b17 [y11.e0, y11.e1, y11.e2, y11.e3, y11.e4, y11.e5, y11.e6] (7 : Int), Ent.row .i64 b18 [y10.e0, y10.e1, y10.e2, y10.e3, y10.e4, y10.e5, y10.e6] (7 : Int)] w') ⟨_, 0, hm, FrG.keep (ks := [5, 6, 7]) H21 (by kernel_rfl), hS⟩ ?_
  clear hm H21 hS
  rintro kk _ wd38 ⟨v22, hm, H, hS⟩
  cases kk with
  | zero => exact noneE hm
  | succ kk =>
   rw [r29_Less_L1] at hm
   refine w_seq ?_
   refine s_reg [] [5, 6, 7, 13] [(5, [], vP b18), (6, [], vP b17), (7, [], vI v22), (13, [], .bool (decide (v22 < 7)))] [] H (by kernel_rfl) trivial fun _ wd23 H24 hb => ?_
   clear H
   replace hS := hS.below hb
   clear hb
   refine w_if H24 rfl (fun hc => ?_) (fun hc => ?c37)
   case c37 =>
    replace hm := bF hc hm
    refine w_exit rfl ?_
    obtain rfl := someE hm
    exact ⟨_, rfl, FrG.keep (ks := []) H24 (by kernel_rfl), hS⟩
   replace hm := bT hc hm
   refine w_skip ?_
   refine w_seq ?_
   refine w_block ?_
   obtain ⟨ho25, hm⟩ := chkE hm
   obtain ⟨x26, hx26, hm⟩ := letE hm
   obtain ⟨x27, hx27, hm⟩ := letE hm
   refine s_draw [(vI (gi [y10.e0, y10.e1, y10.e2, y10.e3, y10.e4, y10.e5, y10.e6] v22)), (vI (gi [y11.e0, y11.e1, y11.e2, y11.e3, y11.e4, y11.e5, y11.e6] v22))] [5, 6, 7, 22] [(5, [], vP b18), (6, [], vP b17), (7, [], vI v22), (22, [], .bool (x26 != x27))] [fun _ => 0 ≤ v22 ∧ v22 < (7 : Int), fun wz => V.at1 ⟨b18, 0 + (v22).toNat * 1, none⟩ (vI (gi [y10.e0, y10.e1, y10.e2, y10.e3, y10.e4, y10.e5, y10.e6] v22)) wz, fun _ => 0 ≤ v22 ∧ v22 < (7 : Int), fun wz => V.at1 ⟨b17, 0 + (v22).toNat * 1, none⟩ (vI (gi [y11.e0, y11.e1, y11.e2, y11.e3, y11.e4, y11.e5, y11.e6] v22)) wz] H24 (by kernel_rfl) (by kernel_rfl) (by subst hx26 hx27; kernel_rfl) ⟨ho25, (Rw.ixn (hS.rw 1 rfl) ho25), ho25, (Rw.ixn (hS.rw 0 rfl) ho25), trivial⟩ fun _ wd28 H29 hb => ?_
   clear H24
   replace hS := hS.below hb
   clear hb
   refine w_if H29 rfl (fun hc => ?_) (fun hc => ?c36)
   case c36 =>
    replace hm := bF hc hm
    refine w_skip ?_
    refine w_reg [] [5, 6, 7] [(5, [], vP b18), (6, [], vP b17), (7, [], vI (w64 (v22 + 1)))] [] H29 (by kernel_rfl) trivial fun _ wd34 H35 hb => ?_
    clear H29
    replace hS := hS.below hb
    clear hb
    exact ⟨_, Nat.lt_succ_self _, w64 (v22 + 1), hm, FrG.keep (ks := [5, 6, 7]) H35 (by kernel_rfl), hS⟩
   replace hm := bT hc hm
   obtain ⟨x30, hx30, hm⟩ := letE hm
   obtain ⟨x31, hx31, hm⟩ := letE hm
   refine s_draw [(vI (gi [y10.e0, y10.e1, y10.e2, y10.e3, y10.e4, y10.e5, y10.e6] v22)), (vI (gi [y11.e0, y11.e1, y11.e2, y11.e3, y11.e4, y11.e5, y11.e6] v22))] [4] [(4, [], .bool (decide (x30 < x31)))] [fun _ => 0 ≤ v22 ∧ v22 < (7 : Int), fun wz => V.at1 ⟨b18, 0 + (v22).toNat * 1, none⟩ (vI (gi [y10.e0, y10.e1, y10.e2, y10.e3, y10.e4, y10.e5, y10.e6] v22)) wz, fun _ => 0 ≤ v22 ∧ v22 < (7 : Int), fun wz => V.at1 ⟨b17, 0 + (v22).toNat * 1, none⟩ (vI (gi [y11.e0, y11.e1, y11.e2, y11.e3, y11.e4, y11.e5, y11.e6] v22)) wz] H29 (by kernel_rfl) (by kernel_rfl) (by subst hx30 hx31; kernel_rfl) ⟨ho25, (Rw.ixn (hS.rw 1 rfl) ho25), ho25, (Rw.ixn (hS.rw 0 rfl) ho25), trivial⟩ fun _ wd32 H33 hb => ?_
   clear H29
   replace hS := hS.below hb
   clear hb
   refine w_ret ?_
   obtain rfl := someE hm
   have hm := hm_z19
   obtain rfl := someE hm
   exact retR1 H33 rfl rfl ⟨_, rfl, rfl, (hS.sel [] rfl)⟩
 ·rintro _ wd41 ⟨s_z19, hz, H, hS⟩
  subst hz
  replace hm := sumR hm_z19
  replace hS : SH M X w [] _ := hS.sel [] rfl
  refine s_reg [] [4] [(4, [], vF)] [] H (by kernel_rfl) trivial fun _ wd39 H40 hb => ?_
  clear H
  replace hS := hS.below hb
  clear hb
  refine w_ret ?_
  obtain rfl := someE hm
  exact retR1 H40 rfl rfl ⟨_, rfl, rfl, (hS.sel [] rfl)⟩
theorem r29_Less_ok {g_a__0 : Gh} {g_b__0 : Gh} (m : Nat) (a_ : TDeclared) (b_ : TDeclared) (r : Bool) (hm : r29_Less m a_ b_ = some r) (w : World) (hL : S0 F0 [eI tyValue a_.Long.Value g_a__0, eI tyValue b_.Long.Value g_b__0] w ∧ fpl [eI tyValue a_.Long.Value g_a__0, eI tyValue b_.Long.Value g_b__0] = []) : RetB Tryz.prog 44 ⟨[.agg ⟨[.string ⟨⟨a_.Long.Name⟩⟩, .slice g_a__0.a a_.Long.Value.length g_a__0.c, .string ⟨⟨a_.Long.Whole⟩⟩, .bool a_.Important, vU a_.Origin, .bool a_.Attached, vI a_.Layer, vI a_.Weight.e0, vI a_.Weight.e1, vI a_.Weight.e2, vI a_.Order]⟩, .agg ⟨[.string ⟨⟨b_.Long.Name⟩⟩, .slice g_b__0.a b_.Long.Value.length g_b__0.c, .string ⟨⟨b_.Long.Whole⟩⟩, .bool b_.Important, vU b_.Origin, .bool b_.Attached, vI b_.Layer, vI b_.Weight.e0, vI b_.Weight.e1, vI b_.Weight.e2, vI b_.Order]⟩]⟩ (.bool r) w := retB_of hL (Tryz.call44 _) (fun w' h => r29_Less_w F0 m   a_ b_ r hm w' h)

theorem r29_InOrder_w {g_l_ : Gh} (M : Av) (m : Nat) (l_ : List TDeclared) (r : Bool) (hm : r29_InOrder m l_ = some r) (w : World) (hS : S0 M [eI tyDeclared l_ g_l_] w) : Calls Tryz.prog 24 ⟨[vL g_l_ l_]⟩ w (fun e w' => ∃ v, e = .returned v ∧ v = .bool r ∧ SH M (fpl [eI tyDeclared l_ g_l_]) w [] w') := by
 rw [r29_InOrder] at hm
 have hS0 : SH M (fpl [eI tyDeclared l_ g_l_]) w [eI tyDeclared l_ g_l_] w := hS
 generalize hX : fpl [eI tyDeclared l_ g_l_] = X at hS0 ⊢
 clear hS hX
 have hS := hS0
 clear hS0
 refine calls_entryP Tryz.func24 rfl Tryz.ntmps24 rfl fun _ H => ?_
 refine s_reg [] [0] [(0, [], vL g_l_ l_)] [] H (by kernel_rfl) trivial fun _ wd1 H2 hb => ?_
 clear H
 replace hS := hS.below hb
 clear hb
 obtain ⟨z3, hz, hm_z3⟩ := bindE hm
 refine w_cut (fun a' w' => ∃ s_z3 : Unit, z3 = Sum.inr s_z3 ∧ Fr 20 [] a' ∧ SH M X w [eI tyDeclared l_ g_l_] w') ?_ ?_
 ·replace hm := hz
  refine s_reg [] [0, 3] [(0, [], vL g_l_ l_), (3, [], vI 1)] [] H2 (by kernel_rfl) trivial fun _ wd4 H5 hb => ?_
  clear H2
  replace hS := hS.below hb
  clear hb
  refine w_block ?_
  refine w_loop (fun kk a' w' => ∃ (v6 : Int), r29_InOrder_L1 m l_ kk v6 = some _ ∧ Fr 20 [(0, [], vL g_l_ l_), (3, [], vI v6)] a' ∧ SH M X w [eI tyDeclared l_ g_l_] w') ⟨_, 1, hm, FrG.keep (ks := [0, 3]) H5 (by kernel_rfl), hS⟩ ?_
  clear hm H5 hS
  rintro kk _ wd20 ⟨v6, hm, H, hS⟩
  cases kk with
  | zero => exact noneE hm
  | succ kk =>
   rw [r29_InOrder_L1] at hm
   refine w_seq ?_
   refine s_reg [] [0, 3, 7] [(0, [], vL g_l_ l_), (3, [], vI v6), (7, [], .bool (decide (v6 < (ln l_))))] [] H (by kernel_rfl) trivial fun _ wd7 H8 hb => ?_
   clear H
   replace hS := hS.below hb
   clear hb
   refine w_if H8 rfl (fun hc => ?_) (fun hc => ?c19)
   case c19 =>
    replace hm := bF hc hm
    refine w_exit rfl ?_
    obtain rfl := someE hm
    exact ⟨_, rfl, FrG.keep (ks := []) H8 (by kernel_rfl), hS⟩
   replace hm := bT hc hm
   refine w_skip ?_
   refine w_seq ?_
   refine w_block ?_
   obtain ⟨ho9, hm⟩ := chkE hm
   obtain ⟨ho10, hm⟩ := chkE hm
   obtain ⟨y11, hy11, hm⟩ := bindE hm
   refine s_draw [(.agg ⟨[.string ⟨⟨(gi l_ v6).Long.Name⟩⟩, .slice (g_l_.s (v6).toNat 0).a (((gi l_ v6).Long.Value).length) (g_l_.s (v6).toNat 0).c, .string ⟨⟨(gi l_ v6).Long.Whole⟩⟩, .bool ((gi l_ v6).Important), vU ((gi l_ v6).Origin), .bool ((gi l_ v6).Attached), vI ((gi l_ v6).Layer), vI ((gi l_ v6).Weight.e0), vI ((gi l_ v6).Weight.e1), vI ((gi l_ v6).Weight.e2), vI ((gi l_ v6).Order)]⟩), (.agg ⟨[.string ⟨⟨(gi l_ (w64 (v6 - 1))).Long.Name⟩⟩, .slice (g_l_.s ((w64 (v6 - 1))).toNat 0).a (((gi l_ (w64 (v6 - 1))).Long.Value).length) (g_l_.s ((w64 (v6 - 1))).toNat 0).c, .string ⟨⟨(gi l_ (w64 (v6 - 1))).Long.Whole⟩⟩, .bool ((gi l_ (w64 (v6 - 1))).Important), vU ((gi l_ (w64 (v6 - 1))).Origin), .bool ((gi l_ (w64 (v6 - 1))).Attached), vI ((gi l_ (w64 (v6 - 1))).Layer), vI ((gi l_ (w64 (v6 - 1))).Weight.e0), vI ((gi l_ (w64 (v6 - 1))).Weight.e1), vI ((gi l_ (w64 (v6 - 1))).Weight.e2), vI ((gi l_ (w64 (v6 - 1))).Order)]⟩), (.bool y11)] [0, 3, 19] [(0, [], vL g_l_ l_), (3, [], vI v6), (19, [], .bool y11)] [fun _ => oka g_l_.a ∧ 0 ≤ v6 ∧ v6 < ln l_, fun wz => V.atN (ab g_l_.a) (ao g_l_.a + (v6).toNat * 11) [.string ⟨⟨(gi l_ v6).Long.Name⟩⟩, .slice (g_l_.s (v6).toNat 0).a (((gi l_ v6).Long.Value).length) (g_l_.s (v6).toNat 0).c, .string ⟨⟨(gi l_ v6).Long.Whole⟩⟩, .bool ((gi l_ v6).Important), vU ((gi l_ v6).Origin), .bool ((gi l_ v6).Attached), vI ((gi l_ v6).Layer), vI ((gi l_ v6).Weight.e0), vI ((gi l_ v6).Weight.e1), vI ((gi l_ v6).Weight.e2), vI ((gi l_ v6).Order)] 0 wz, fun _ => oka g_l_.a ∧ 0 ≤ (w64 (v6 - 1)) ∧ (w64 (v6 - 1)) < ln l_, fun wz => V.atN (ab g_l_.a) (ao g_l_.a + ((w64 (v6 - 1))).toNat * 11) [.string ⟨⟨(gi l_ (w64 (v6 - 1))).Long.Name⟩⟩, .slice (g_l_.s ((w64 (v6 - 1))).toNat 0).a (((gi l_ (w64 (v6 - 1))).Long.Value).length) (g_l_.s ((w64 (v6 - 1))).toNat 0).c, .string ⟨⟨(gi l_ (w64 (v6 - 1))).Long.Whole⟩⟩, .bool ((gi l_ (w64 (v6 - 1))).Important), vU ((gi l_ (w64 (v6 - 1))).Origin), .bool ((gi l_ (w64 (v6 - 1))).Attached), vI ((gi l_ (w64 (v6 - 1))).Layer), vI ((gi l_ (w64 (v6 - 1))).Weight.e0), vI ((gi l_ (w64 (v6 - 1))).Weight.e1), vI ((gi l_ (w64 (v6 - 1))).Weight.e2), vI ((gi l_ (w64 (v6 - 1))).Order)] 0 wz, fun wz => RetB Tryz.prog 44 ⟨[.agg ⟨[.string ⟨⟨(gi l_ v6).Long.Name⟩⟩, .slice (g_l_.s (v6).toNat 0).a (((gi l_ v6).Long.Value).length) (g_l_.s (v6).toNat 0).c, .string ⟨⟨(gi l_ v6).Long.Whole⟩⟩, .bool ((gi l_ v6).Important), vU ((gi l_ v6).Origin), .bool ((gi l_ v6).Attached), vI ((gi l_ v6).Layer), vI ((gi l_ v6).Weight.e0), vI ((gi l_ v6).Weight.e1), vI ((gi l_ v6).Weight.e2), vI ((gi l_ v6).Order)]⟩, .agg ⟨[.string ⟨⟨(gi l_ (w64 (v6 - 1))).Long.Name⟩⟩, .slice (g_l_.s ((w64 (v6 - 1))).toNat 0).a (((gi l_ (w64 (v6 - 1))).Long.Value).length) (g_l_.s ((w64 (v6 - 1))).toNat 0).c, .string ⟨⟨(gi l_ (w64 (v6 - 1))).Long.Whole⟩⟩, .bool ((gi l_ (w64 (v6 - 1))).Important), vU ((gi l_ (w64 (v6 - 1))).Origin), .bool ((gi l_ (w64 (v6 - 1))).Attached), vI ((gi l_ (w64 (v6 - 1))).Layer), vI ((gi l_ (w64 (v6 - 1))).Weight.e0), vI ((gi l_ (w64 (v6 - 1))).Weight.e1), vI ((gi l_ (w64 (v6 - 1))).Weight.e2), vI ((gi l_ (w64 (v6 - 1))).Order)]⟩]⟩ (.bool y11) wz] H8 (by kernel_rfl) (by kernel_rfl) (by kernel_rfl) ⟨((hS.im 0 rfl).oki ho9), ((hS.im 0 rfl).atA ho9 0 rfl), ((hS.im 0 rfl).oki ho10), ((hS.im 0 rfl).atA ho10 0 rfl), (r29_Less_ok (g_a__0 := (g_l_.s (v6).toNat 0)) (g_b__0 := (g_l_.s ((w64 (v6 - 1))).toNat 0)) 64 _ _ _ hy11 _ (s0im (s0im s0nil (tyDeclared_i0 ((hS.im 0 rfl).el ho10))) (tyDeclared_i0 ((hS.im 0 rfl).el ho9)))), trivial⟩ fun _ wd12 H13 hb => ?_
   clear H8
   replace hS := hS.below hb
   clear hb
   refine w_if H13 rfl (fun hc => ?_) (fun hc => ?c18)
   case c18 =>
    replace hm := bF hc hm
    refine w_skip ?_
    refine w_reg [] [0, 3] [(0, [], vL g_l_ l_), (3, [], vI (w64 (v6 + 1)))] [] H13 (by kernel_rfl) trivial fun _ wd16 H17 hb => ?_
    clear H13
    replace hS := hS.below hb
    clear hb
    exact ⟨_, Nat.lt_succ_self _, w64 (v6 + 1), hm, FrG.keep (ks := [0, 3]) H17 (by kernel_rfl), hS⟩
   replace hm := bT hc hm
   refine s_reg [] [2] [(2, [], vF)] [] H13 (by kernel_rfl) trivial fun _ wd14 H15 hb => ?_
   clear H13
   replace hS := hS.below hb
   clear hb
   refine w_ret ?_
   obtain rfl := someE hm
   have hm := hm_z3
   obtain rfl := someE hm
   exact retR1 H15 rfl rfl ⟨_, rfl, rfl, (hS.sel [] rfl)⟩
 ·rintro _ wd23 ⟨s_z3, hz, H, hS⟩
  subst hz
  replace hm := sumR hm_z3
  replace hS : SH M X w [] _ := hS.sel [] rfl
  refine s_reg [] [2] [(2, [], vT)] [] H (by kernel_rfl) trivial fun _ wd21 H22 hb => ?_
  clear H
  replace hS := hS.below hb
  clear hb
  refine w_ret ?_
  obtain rfl := someE hm
  exact retR1 H22 rfl rfl ⟨_, rfl, rfl, (hS.sel [] rfl)⟩
theorem r29_InOrder_ok {g_l_ : Gh} (m : Nat) (l_ : List TDeclared) (r : Bool) (hm : r29_InOrder m l_ = some r) (w : World) (hL : S0 F0 [eI tyDeclared l_ g_l_] w ∧ fpl [eI tyDeclared l_ g_l_] = []) : RetB Tryz.prog 24 ⟨[vL g_l_ l_]⟩ (.bool r) w := retB_of hL (Tryz.call24 _) (fun w' h => r29_InOrder_w F0 m   l_ r hm w' h)

theorem r31_Asked_w {g_l_ : Gh} (M : Av) (m : Nat) (l_ : List TDeclared) (r : Int) (hm : r31_Asked m l_ = some r) (w : World) (hS : S0 M [eI tyDeclared l_ g_l_] w) : Calls Tryz.prog 8 ⟨[vL g_l_ l_]⟩ w (fun e w' => ∃ v, e = .returned v ∧ v = vI r ∧ SH M (fpl [eI tyDeclared l_ g_l_]) w [] w') := by
 rw [r31_Asked] at hm
 have hS0 : SH M (fpl [eI tyDeclared l_ g_l_]) w [eI tyDeclared l_ g_l_] w := hS
 generalize hX : fpl [eI tyDeclared l_ g_l_] = X at hS0 ⊢
 clear hS hX
 have hS := hS0
 clear hS0
 refine calls_entryP Tryz.func8 rfl Tryz.ntmps8 rfl fun _ H => ?_
 refine s_reg [] [0] [(0, [], vL g_l_ l_)] [] H (by kernel_rfl) trivial fun _ wd1 H2 hb => ?_
 clear H
 replace hS := hS.below hb
 clear hb
 refine w_seq ?_
 obtain ⟨y3, hy3, hm⟩ := bindE hm
 refine s_reg [(vI y3)] [0, 3] [(0, [], vL g_l_ l_), (3, [], vI y3)] [fun wz => RetB Tryz.prog 23 ⟨[vL g_l_ l_]⟩ (vI y3) wz] H2 (by kernel_rfl) ⟨(r29_All_ok (g_l_ := g_l_) m _ _ hy3 _ (s0im s0nil (hS.im 0 rfl))), trivial⟩ fun _ wd4 H5 hb => ?_
 clear H2
 replace hS := hS.below hb
 clear hb
 refine s_reg [] [0, 3, 7] [(0, [], vL g_l_ l_), (3, [], vI y3), (7, [], .bool (y3 != 0))] [] H5 (by kernel_rfl) trivial fun _ wd6 H7 hb => ?_
 clear H5
 replace hS := hS.below hb
 clear hb
 refine w_if H7 rfl (fun hc => ?c18) (fun hc => ?_)
 case c18 =>
  replace hm := bT hc hm
  refine s_reg [] [2] [(2, [], vI y3)] [] H7 (by kernel_rfl) trivial fun _ wd8 H9 hb => ?_
  clear H7
  replace hS := hS.below hb
  clear hb
  replace hS : SH M X w [] _ := hS.sel [] rfl
  refine w_ret ?_
  obtain rfl := someE hm
  exact retR1 H9 rfl rfl ⟨_, rfl, rfl, (hS.sel [] rfl)⟩
 replace hm := bF hc hm
 refine w_skip ?_
 refine w_seq ?_
 obtain ⟨y10, hy10, hm⟩ := bindE hm
 refine s_reg [(.bool y10)] [11] [(11, [], .bool (!y10))] [fun wz => RetB Tryz.prog 24 ⟨[vL g_l_ l_]⟩ (.bool y10) wz] H7 (by kernel_rfl) ⟨(r29_InOrder_ok (g_l_ := g_l_) m _ _ hy10 _ (s0im s0nil (hS.im 0 rfl))), trivial⟩ fun _ wd11 H12 hb => ?_
 clear H7
 replace hS := hS.below hb
 clear hb
 replace hS : SH M X w [] _ := hS.sel [] rfl
 refine w_if H12 rfl (fun hc => ?c17) (fun hc => ?_)
 case c17 =>
  replace hm := bT hc hm
  refine s_reg [] [2] [(2, [], vI 2)] [] H12 (by kernel_rfl) trivial fun _ wd13 H14 hb => ?_
  clear H12
  replace hS := hS.below hb
  clear hb
  refine w_ret ?_
  obtain rfl := someE hm
  exact retR1 H14 rfl rfl ⟨_, rfl, rfl, (hS.sel [] rfl)⟩
 replace hm := bF hc hm
 refine w_skip ?_
 refine s_reg [] [2] [(2, [], vI 0)] [] H12 (by kernel_rfl) trivial fun _ wd15 H16 hb => ?_
 clear H12
 replace hS := hS.below hb
 clear hb
 refine w_ret ?_
 obtain rfl := someE hm
 exact retR1 H16 rfl rfl ⟨_, rfl, rfl, (hS.sel [] rfl)⟩
theorem r31_Asked_ok {g_l_ : Gh} (m : Nat) (l_ : List TDeclared) (r : Int) (hm : r31_Asked m l_ = some r) (w : World) (hL : S0 F0 [eI tyDeclared l_ g_l_] w ∧ fpl [eI tyDeclared l_ g_l_] = []) : RetB Tryz.prog 8 ⟨[vL g_l_ l_]⟩ (vI r) w := retB_of hL (Tryz.call8 _) (fun w' h => r31_Asked_w F0 m   l_ r hm w' h)

def r04_Same_S (rec_ : (List TValue) → (List TValue) → Option (Bool)) : Prop := ∀ (g_a_ : Gh) (g_b_ : Gh) (M : Av) (a_ : List TValue) (b_ : List TValue) (r : Bool), rec_ a_ b_ = some r → ∀ w, S0 M [eI tyValue a_ g_a_, eI tyValue b_ g_b_] w → Calls Tryz.prog 49 ⟨[vL g_a_ a_, vL g_b_ b_]⟩ w (fun e w' => ∃ v, e = .returned v ∧ v = .bool r ∧ SH M (fpl [eI tyValue a_ g_a_, eI tyValue b_ g_b_]) w [] w')
theorem r04_Same_w (m : Nat) : ∀ (k : Nat), r04_Same_S (r04_Same_r m  k) := by
 intro k
 induction k with
 | zero => intro g_a_ g_b_ M a_ b_ r hm; exact noneE hm
 | succ k ih =>
  intro g_a_ g_b_ M a_ b_ r hm w hS
  rw [r04_Same_r] at hm
  have hS0 : SH M (fpl [eI tyValue a_ g_a_, eI tyValue b_ g_b_]) w [eI tyValue a_ g_a_, eI tyValue b_ g_b_] w := hS
  generalize hX : fpl [eI tyValue a_ g_a_, eI tyValue b_ g_b_] = X at hS0 ⊢
  clear hS hX
  have hS := hS0
  clear hS0
  refine calls_entryP Tryz.func49 rfl Tryz.ntmps49 rfl fun _ H => ?_
  refine s_reg [] [0, 1] [(0, [], vL g_a_ a_), (1, [], vL g_b_ b_)] [] H (by kernel_rfl) trivial fun _ wd1 H2 hb => ?_
  clear H
  replace hS := hS.below hb
  clear hb
  refine w_seq ?_
  refine s_reg [] [0, 1, 10] [(0, [], vL g_a_ a_), (1, [], vL g_b_ b_), (10, [], .bool ((ln a_) != (ln b_)))] [] H2 (by kernel_rfl) trivial fun _ wd3 H4 hb => ?_
  clear H2
  replace hS := hS.below hb
  clear hb
  refine w_if H4 rfl (fun hc => ?c29) (fun hc => ?_)
  case c29 =>
   replace hm := bT hc hm
   refine s_reg [] [4] [(4, [], vF)] [] H4 (by kernel_rfl) trivial fun _ wd5 H6 hb => ?_
   clear H4
   replace hS := hS.below hb
   clear hb
   replace hS : SH M X w [] _ := hS.sel [] rfl
   refine w_ret ?_
   obtain rfl := someE hm
   exact retR1 H6 rfl rfl ⟨_, rfl, rfl, (hS.sel [] rfl)⟩
  replace hm := bF hc hm
  refine w_skip ?_
  obtain ⟨z7, hz, hm_z7⟩ := bindE hm
  refine w_cut (fun a' w' => ∃ s_z7 : Unit, z7 = Sum.inr s_z7 ∧ Fr 42 [] a' ∧ SH M X w [eI tyValue a_ g_a_, eI tyValue b_ g_b_] w') ?_ ?_
  ·replace hm := hz
   refine s_reg [] [0, 1, 5] [(0, [], vL g_a_ a_), (1, [], vL g_b_ b_), (5, [], vI 0)] [] H4 (by kernel_rfl) trivial fun _ wd8 H9 hb => ?_
   clear H4
   replace hS := hS.below hb
   clear hb
   refine w_block ?_
   refine w_loop (fun kk a' w' => ∃ (v10 : Int), r04_Same_L1 m a_ b_ (r04_Same_r m k) kk v10 = some _ ∧ Fr 42 [(0, [], vL g_a_ a_), (1, [], vL g_b_ b_), (5, [], vI v10)] a' ∧ SH M X w [eI tyValue a_ g_a_, eI tyValue b_ g_b_] w') ⟨_, 0, hm, FrG.keep (ks := [0, 1, 5]) H9 (by kernel_rfl), hS⟩ ?_
   clear hm H9 hS
   rintro kk _ wd25 ⟨v10, hm, H, hS⟩
   cases kk with
   | zero => exact noneE hm
   | succ kk =>
    rw [r04_Same_L1] at hm
    refine w_seq ?_
    refine s_reg [] [0, 1, 5, 14] [(0, [], vL g_a_ a_), (1, [], vL g_b_ b_), (5, [], vI v10), (14, [], .bool (decide (v10 < (ln a_))))] [] H (by kernel_rfl) trivial fun _ wd11 H12 hb => ?_
    clear H
    replace hS := hS.below hb
    clear hb
    refine w_if H12 rfl (fun hc => ?_) (fun hc => ?c24)
    case c24 =>
     replace hm := bF hc hm
     refine w_exit rfl ?_
     obtain rfl := someE hm
     exact ⟨_, rfl, FrG.keep (ks := []) H12 (by kernel_rfl), hS⟩
    replace hm := bT hc hm
    refine w_skip ?_
    refine w_seq ?_
    refine w_block ?_
    obtain ⟨ho13, hm⟩ := chkE hm
    obtain ⟨ho14, hm⟩ := chkE hm
    obtain ⟨x15, hx15, hm⟩ := letE hm
    obtain ⟨y16, hy16, hm⟩ := bindE hm
    refine s_draw [(.agg ⟨[vU ((gi a_ v10).Token.Kind), .string ⟨⟨(gi a_ v10).Token.Text⟩⟩, vI ((gi a_ v10).Token.Num), .string ⟨⟨(gi a_ v10).Token.Unit⟩⟩, .bool ((gi a_ v10).Token.Flag)]⟩), (.agg ⟨[vU ((gi b_ v10).Token.Kind), .string ⟨⟨(gi b_ v10).Token.Text⟩⟩, vI ((gi b_ v10).Token.Num), .string ⟨⟨(gi b_ v10).Token.Unit⟩⟩, .bool ((gi b_ v10).Token.Flag)]⟩), (.slice (g_a_.s (v10).toNat 0).a (((gi a_ v10).List_).length) (g_a_.s (v10).toNat 0).c), (.slice (g_b_.s (v10).toNat 0).a (((gi b_ v10).List_).length) (g_b_.s (v10).toNat 0).c), (.bool y16)] [0, 1, 5, 41] [(0, [], vL g_a_ a_), (1, [], vL g_b_ b_), (5, [], vI v10), (41, [], .bool (cond x15 true (!y16)))] [fun _ => oka g_a_.a ∧ 0 ≤ v10 ∧ v10 < ln a_, fun wz => V.atN (ab g_a_.a) (ao g_a_.a + (v10).toNat * 6) [vU ((gi a_ v10).Token.Kind), .string ⟨⟨(gi a_ v10).Token.Text⟩⟩, vI ((gi a_ v10).Token.Num), .string ⟨⟨(gi a_ v10).Token.Unit⟩⟩, .bool ((gi a_ v10).Token.Flag)] 0 wz, fun _ => oka g_b_.a ∧ 0 ≤ v10 ∧ v10 < ln b_, fun wz => V.atN (ab g_b_.a) (ao g_b_.a + (v10).toNat * 6) [vU ((gi b_ v10).Token.Kind), .string ⟨⟨(gi b_ v10).Token.Text⟩⟩, vI ((gi b_ v10).Token.Num), .string ⟨⟨(gi b_ v10).Token.Unit⟩⟩, .bool ((gi b_ v10).Token.Flag)] 0 wz, fun _ => (x15 = false ∧ True → oka g_a_.a ∧ 0 ≤ v10 ∧ v10 < ln a_), fun wz => (x15 = false ∧ True → V.at1 ⟨ab g_a_.a, ao g_a_.a + (v10).toNat * 6 + 5, none⟩ (.slice (g_a_.s (v10).toNat 0).a (((gi a_ v10).List_).length) (g_a_.s (v10).toNat 0).c) wz), fun _ => (x15 = false ∧ True → oka g_b_.a ∧ 0 ≤ v10 ∧ v10 < ln b_), fun wz => (x15 = false ∧ True → V.at1 ⟨ab g_b_.a, ao g_b_.a + (v10).toNat * 6 + 5, none⟩ (.slice (g_b_.s (v10).toNat 0).a (((gi b_ v10).List_).length) (g_b_.s (v10).toNat 0).c) wz), fun wz => (x15 = false ∧ True → RetB Tryz.prog 49 ⟨[.slice (g_a_.s (v10).toNat 0).a (((gi a_ v10).List_).length) (g_a_.s (v10).toNat 0).c, .slice (g_b_.s (v10).toNat 0).a (((gi b_ v10).List_).length) (g_b_.s (v10).toNat 0).c]⟩ (.bool y16) wz)] H12 (by kernel_rfl) (by kernel_rfl) (by subst hx15; kernel_rfl) ⟨((hS.im 0 rfl).oki ho13), ((hS.im 0 rfl).atA ho13 0 rfl), ((hS.im 1 rfl).oki ho14), ((hS.im 1 rfl).atA ho14 0 rfl), fun hg => (hS.im 0 rfl).oki ho13, fun hg => (hS.im 0 rfl).at1 ho13 5 rfl, fun hg => (hS.im 1 rfl).oki ho14, fun hg => (hS.im 1 rfl).at1 ho14 5 rfl, fun hg => retB_of (s0im (s0im s0nil (tyValue_i0 ((hS.im 1 rfl).el ho14))) (tyValue_i0 ((hS.im 0 rfl).el ho13))) (Tryz.call49 _) (fun w' h' => ih ((g_a_.s (v10).toNat 0)) ((g_b_.s (v10).toNat 0)) F0 _ _ _ (bF (hg.1) hy16) w' h'), trivial⟩ fun _ wd17 H18 hb => ?_
    clear H12
    replace hS := hS.below hb
    clear hb
    refine w_if H18 rfl (fun hc => ?_) (fun hc => ?c23)
    case c23 =>
     replace hm := bF hc hm
     refine w_skip ?_
     refine w_reg [] [0, 1, 5] [(0, [], vL g_a_ a_), (1, [], vL g_b_ b_), (5, [], vI (w64 (v10 + 1)))] [] H18 (by kernel_rfl) trivial fun _ wd21 H22 hb => ?_
     clear H18
     replace hS := hS.below hb
     clear hb
     exact ⟨_, Nat.lt_succ_self _, w64 (v10 + 1), hm, FrG.keep (ks := [0, 1, 5]) H22 (by kernel_rfl), hS⟩
    replace hm := bT hc hm
    refine s_reg [] [4] [(4, [], vF)] [] H18 (by kernel_rfl) trivial fun _ wd19 H20 hb => ?_
    clear H18
    replace hS := hS.below hb
    clear hb
    refine w_ret ?_
    obtain rfl := someE hm
    have hm := hm_z7
    obtain rfl := someE hm
    exact retR1 H20 rfl rfl ⟨_, rfl, rfl, (hS.sel [] rfl)⟩
  ·rintro _ wd28 ⟨s_z7, hz, H, hS⟩
   subst hz
   replace hm := sumR hm_z7
   replace hS : SH M X w [] _ := hS.sel [] rfl
   refine s_reg [] [4] [(4, [], vT)] [] H (by kernel_rfl) trivial fun _ wd26 H27 hb => ?_
   clear H
   replace hS := hS.below hb
   clear hb
   refine w_ret ?_
   obtain rfl := someE hm
   exact retR1 H27 rfl rfl ⟨_, rfl, rfl, (hS.sel [] rfl)⟩
theorem r04_Same_ok {g_a_ : Gh} {g_b_ : Gh} (m : Nat) (a_ : List TValue) (b_ : List TValue) (r : Bool) (hm : r04_Same m a_ b_ = some r) (w : World) (hL : S0 F0 [eI tyValue a_ g_a_, eI tyValue b_ g_b_] w ∧ fpl [eI tyValue a_ g_a_, eI tyValue b_ g_b_] = []) : RetB Tryz.prog 49 ⟨[vL g_a_ a_, vL g_b_ b_]⟩ (.bool r) w := retB_of hL (Tryz.call49 _) (fun w' h => r04_Same_w m   m g_a_ g_b_ F0 a_ b_ r hm w' h)

theorem r27_SameLongs_w {g_a_ : Gh} {g_b_ : Gh} (M : Av) (m : Nat) (a_ : List TLong) (b_ : List TLong) (r : Bool) (hm : r27_SameLongs m a_ b_ = some r) (w : World) (hS : S0 M [eI tyLong a_ g_a_, eI tyLong b_ g_b_] w) : Calls Tryz.prog 27 ⟨[vL g_a_ a_, vL g_b_ b_]⟩ w (fun e w' => ∃ v, e = .returned v ∧ v = .bool r ∧ SH M (fpl [eI tyLong a_ g_a_, eI tyLong b_ g_b_]) w [] w') := by
 rw [r27_SameLongs] at hm
 have hS0 : SH M (fpl [eI tyLong a_ g_a_, eI tyLong b_ g_b_]) w [eI tyLong a_ g_a_, eI tyLong b_ g_b_] w := hS
 generalize hX : fpl [eI tyLong a_ g_a_, eI tyLong b_ g_b_] = X at hS0 ⊢
 clear hS hX
 have hS := hS0
 clear hS0
 refine calls_entryP Tryz.func27 rfl Tryz.ntmps27 rfl fun _ H => ?_
 refine s_reg [] [0, 1] [(0, [], vL g_a_ a_), (1, [], vL g_b_ b_)] [] H (by kernel_rfl) trivial fun _ wd1 H2 hb => ?_
 clear H
 replace hS := hS.below hb
 clear hb
 refine w_seq ?_
 refine s_reg [] [0, 1, 10] [(0, [], vL g_a_ a_), (1, [], vL g_b_ b_), (10, [], .bool ((ln a_) != (ln b_)))] [] H2 (by kernel_rfl) trivial fun _ wd3 H4 hb => ?_
 clear H2
 replace hS := hS.below hb
 clear hb
 refine w_if H4 rfl (fun hc => ?c30) (fun hc => ?_)
 case c30 =>
  replace hm := bT hc hm
  refine s_reg [] [4] [(4, [], vF)] [] H4 (by kernel_rfl) trivial fun _ wd5 H6 hb => ?_
  clear H4
  replace hS := hS.below hb
  clear hb
  replace hS : SH M X w [] _ := hS.sel [] rfl
  refine w_ret ?_
  obtain rfl := someE hm
  exact retR1 H6 rfl rfl ⟨_, rfl, rfl, (hS.sel [] rfl)⟩
 replace hm := bF hc hm
 refine w_skip ?_
 obtain ⟨z7, hz, hm_z7⟩ := bindE hm
 refine w_cut (fun a' w' => ∃ s_z7 : Unit, z7 = Sum.inr s_z7 ∧ Fr 55 [] a' ∧ SH M X w [eI tyLong a_ g_a_, eI tyLong b_ g_b_] w') ?_ ?_
 ·replace hm := hz
  refine s_reg [] [0, 1, 5] [(0, [], vL g_a_ a_), (1, [], vL g_b_ b_), (5, [], vI 0)] [] H4 (by kernel_rfl) trivial fun _ wd8 H9 hb => ?_
  clear H4
  replace hS := hS.below hb
  clear hb
  refine w_block ?_
  refine w_loop (fun kk a' w' => ∃ (v10 : Int), r27_SameLongs_L1 m a_ b_ kk v10 = some _ ∧ Fr 55 [(0, [], vL g_a_ a_), (1, [], vL g_b_ b_), (5, [], vI v10)] a' ∧ SH M X w [eI tyLong a_ g_a_, eI tyLong b_ g_b_] w') ⟨_, 0, hm, FrG.keep (ks := [0, 1, 5]) H9 (by kernel_rfl), hS⟩ ?_
  clear hm H9 hS
  rintro kk _ wd26 ⟨v10, hm, H, hS⟩
  cases kk with
  | zero => exact noneE hm
  | succ kk =>
   rw [r27_SameLongs_L1] at hm
   refine w_seq ?_
   refine s_reg [] [0, 1, 5, 14] [(0, [], vL g_a_ a_), (1, [], vL g_b_ b_), (5, [], vI v10), (14, [], .bool (decide (v10 < (ln a_))))] [] H (by kernel_rfl) trivial fun _ wd11 H12 hb => ?_
   clear H
   replace hS := hS.below hb
   clear hb
   refine w_if H12 rfl (fun hc => ?_) (fun hc => ?c25)
   case c25 =>
    replace hm := bF hc hm
    refine w_exit rfl ?_
    obtain rfl := someE hm
    exact ⟨_, rfl, FrG.keep (ks := []) H12 (by kernel_rfl), hS⟩
   replace hm := bT hc hm
   refine w_skip ?_
   refine w_seq ?_
   refine w_block ?_
   obtain ⟨ho13, hm⟩ := chkE hm
   obtain ⟨ho14, hm⟩ := chkE hm
   obtain ⟨x15, hx15, hm⟩ := letE hm
   obtain ⟨x16, hx16, hm⟩ := letE hm
   obtain ⟨y17, hy17, hm⟩ := bindE hm
   refine s_draw [(.string ⟨⟨(gi a_ v10).Name⟩⟩), (.string ⟨⟨(gi b_ v10).Name⟩⟩), (.string ⟨⟨(gi a_ v10).Whole⟩⟩), (.string ⟨⟨(gi b_ v10).Whole⟩⟩), (.slice (g_a_.s (v10).toNat 0).a (((gi a_ v10).Value).length) (g_a_.s (v10).toNat 0).c), (.slice (g_b_.s (v10).toNat 0).a (((gi b_ v10).Value).length) (g_b_.s (v10).toNat 0).c), (.bool y17)] [0, 1, 5, 54] [(0, [], vL g_a_ a_), (1, [], vL g_b_ b_), (5, [], vI v10), (54, [], .bool (cond x16 true (!y17)))] [fun _ => oka g_a_.a ∧ 0 ≤ v10 ∧ v10 < ln a_, fun wz => V.at1 ⟨ab g_a_.a, ao g_a_.a + (v10).toNat * 3, none⟩ (.string ⟨⟨(gi a_ v10).Name⟩⟩) wz, fun _ => oka g_b_.a ∧ 0 ≤ v10 ∧ v10 < ln b_, fun wz => V.at1 ⟨ab g_b_.a, ao g_b_.a + (v10).toNat * 3, none⟩ (.string ⟨⟨(gi b_ v10).Name⟩⟩) wz, fun _ => (x15 = false ∧ True → oka g_a_.a ∧ 0 ≤ v10 ∧ v10 < ln a_), fun wz => (x15 = false ∧ True → V.at1 ⟨ab g_a_.a, ao g_a_.a + (v10).toNat * 3 + 2, none⟩ (.string ⟨⟨(gi a_ v10).Whole⟩⟩) wz), fun _ => (x15 = false ∧ True → oka g_b_.a ∧ 0 ≤ v10 ∧ v10 < ln b_), fun wz => (x15 = false ∧ True → V.at1 ⟨ab g_b_.a, ao g_b_.a + (v10).toNat * 3 + 2, none⟩ (.string ⟨⟨(gi b_ v10).Whole⟩⟩) wz), fun _ => (x16 = false ∧ True → oka g_a_.a ∧ 0 ≤ v10 ∧ v10 < ln a_), fun wz => (x16 = false ∧ True → V.at1 ⟨ab g_a_.a, ao g_a_.a + (v10).toNat * 3 + 1, none⟩ (.slice (g_a_.s (v10).toNat 0).a (((gi a_ v10).Value).length) (g_a_.s (v10).toNat 0).c) wz), fun _ => (x16 = false ∧ True → oka g_b_.a ∧ 0 ≤ v10 ∧ v10 < ln b_), fun wz => (x16 = false ∧ True → V.at1 ⟨ab g_b_.a, ao g_b_.a + (v10).toNat * 3 + 1, none⟩ (.slice (g_b_.s (v10).toNat 0).a (((gi b_ v10).Value).length) (g_b_.s (v10).toNat 0).c) wz), fun wz => (x16 = false ∧ True → RetB Tryz.prog 49 ⟨[.slice (g_a_.s (v10).toNat 0).a (((gi a_ v10).Value).length) (g_a_.s (v10).toNat 0).c, .slice (g_b_.s (v10).toNat 0).a (((gi b_ v10).Value).length) (g_b_.s (v10).toNat 0).c]⟩ (.bool y17) wz)] H12 (by kernel_rfl) (by kernel_rfl) (by subst hx15 hx16; kernel_rfl) ⟨((hS.im 0 rfl).oki ho13), ((hS.im 0 rfl).at1 ho13 0 rfl), ((hS.im 1 rfl).oki ho14), ((hS.im 1 rfl).at1 ho14 0 rfl), fun hg => (hS.im 0 rfl).oki ho13, fun hg => (hS.im 0 rfl).at1 ho13 2 rfl, fun hg => (hS.im 1 rfl).oki ho14, fun hg => (hS.im 1 rfl).at1 ho14 2 rfl, fun hg => (hS.im 0 rfl).oki ho13, fun hg => (hS.im 0 rfl).at1 ho13 1 rfl, fun hg => (hS.im 1 rfl).oki ho14, fun hg => (hS.im 1 rfl).at1 ho14 1 rfl, fun hg => r04_Same_ok (g_a_ := (g_a_.s (v10).toNat 0)) (g_b_ := (g_b_.s (v10).toNat 0)) m _ _ _ (bF (hg.1) hy17) _ (s0im (s0im s0nil (tyLong_i0 ((hS.im 1 rfl).el ho14))) (tyLong_i0 ((hS.im 0 rfl).el ho13))), trivial⟩ fun _ wd18 H19 hb => ?_
   clear H12
   replace hS := hS.below hb
   clear hb
   refine w_if H19 rfl (fun hc => ?_) (fun hc => ?c24)
   case c24 =>
    replace hm := bF hc hm
    refine w_skip ?_
    refine w_reg [] [0, 1, 5] [(0, [], vL g_a_ a_), (1, [], vL g_b_ b_), (5, [], vI (w64 (v10 + 1)))] [] H19 (by kernel_rfl) trivial fun _ wd22 H23 hb => ?_
    clear H19
    replace hS := hS.below hb
    clear hb
    exact ⟨_, Nat.lt_succ_self _, w64 (v10 + 1), hm, FrG.keep (ks := [0, 1, 5]) H23 (by kernel_rfl), hS⟩
   replace hm := bT hc hm
   refine s_reg [] [4] [(4, [], vF)] [] H19 (by kernel_rfl) trivial fun _ wd20 H21 hb => ?_
   clear H19
   replace hS := hS.below hb
   clear hb
   refine w_ret ?_
   obtain rfl := someE hm
   have hm := hm_z7
   obtain rfl := someE hm
   exact retR1 H21 rfl rfl ⟨_, rfl, rfl, (hS.sel [] rfl)⟩
 ·rintro _ wd29 ⟨s_z7, hz, H, hS⟩
  subst hz
  replace hm := sumR hm_z7
  replace hS : SH M X w [] _ := hS.sel [] rfl
  refine s_reg [] [4] [(4, [], vT)] [] H (by kernel_rfl) trivial fun _ wd27 H28 hb => ?_
  clear H
  replace hS := hS.below hb
  clear hb
  refine w_ret ?_
  obtain rfl := someE hm
  exact retR1 H28 rfl rfl ⟨_, rfl, rfl, (hS.sel [] rfl)⟩
theorem r27_SameLongs_ok {g_a_ : Gh} {g_b_ : Gh} (m : Nat) (a_ : List TLong) (b_ : List TLong) (r : Bool) (hm : r27_SameLongs m a_ b_ = some r) (w : World) (hL : S0 F0 [eI tyLong a_ g_a_, eI tyLong b_ g_b_] w ∧ fpl [eI tyLong a_ g_a_, eI tyLong b_ g_b_] = []) : RetB Tryz.prog 27 ⟨[vL g_a_ a_, vL g_b_ b_]⟩ (.bool r) w := retB_of hL (Tryz.call27 _) (fun w' h => r27_SameLongs_w F0 m   a_ b_ r hm w' h)

theorem r29_SameOne_w {g_a__0 : Gh} {g_b__0 : Gh} (M : Av) (m : Nat) (a_ : TDeclared) (b_ : TDeclared) (r : Bool) (hm : r29_SameOne m a_ b_ = some r) (w : World) (hS : S0 M [eI tyValue a_.Long.Value g_a__0, eI tyValue b_.Long.Value g_b__0] w) : Calls Tryz.prog 10 ⟨[.agg ⟨[.string ⟨⟨a_.Long.Name⟩⟩, .slice g_a__0.a a_.Long.Value.length g_a__0.c, .string ⟨⟨a_.Long.Whole⟩⟩, .bool a_.Important, vU a_.Origin, .bool a_.Attached, vI a_.Layer, vI a_.Weight.e0, vI a_.Weight.e1, vI a_.Weight.e2, vI a_.Order]⟩, .agg ⟨[.string ⟨⟨b_.Long.Name⟩⟩, .slice g_b__0.a b_.Long.Value.length g_b__0.c, .string ⟨⟨b_.Long.Whole⟩⟩, .bool b_.Important, vU b_.Origin, .bool b_.Attached, vI b_.Layer, vI b_.Weight.e0, vI b_.Weight.e1, vI b_.Weight.e2, vI b_.Order]⟩]⟩ w (fun e w' => ∃ v, e = .returned v ∧ v = .bool r ∧ SH M (fpl [eI tyValue a_.Long.Value g_a__0, eI tyValue b_.Long.Value g_b__0]) w [] w') := by
 rw [r29_SameOne] at hm
 have hS0 : SH M (fpl [eI tyValue a_.Long.Value g_a__0, eI tyValue b_.Long.Value g_b__0]) w [eI tyValue a_.Long.Value g_a__0, eI tyValue b_.Long.Value g_b__0] w := hS
 generalize hX : fpl [eI tyValue a_.Long.Value g_a__0, eI tyValue b_.Long.Value g_b__0] = X at hS0 ⊢
 clear hS hX
 have hS := hS0
 clear hS0
 refine calls_entryP Tryz.func10 rfl Tryz.ntmps10 rfl fun _ H => ?_
 refine w_seq ?_
 refine wl_start ?_
 have hd := hS.hand [] [0, 1] rfl rfl
 refine m_stp [2, 1] [(1, [], .agg ⟨[.string ⟨⟨b_.Long.Name⟩⟩, .slice g_b__0.a b_.Long.Value.length g_b__0.c, .string ⟨⟨b_.Long.Whole⟩⟩, .bool b_.Important, vU b_.Origin, .bool b_.Attached, vI b_.Layer, vI b_.Weight.e0, vI b_.Weight.e1, vI b_.Weight.e2, vI b_.Order]⟩)] H rfl rfl rfl rfl (o_box [.string ⟨⟨a_.Long.Name⟩⟩, .slice g_a__0.a a_.Long.Value.length g_a__0.c, .string ⟨⟨a_.Long.Whole⟩⟩, .bool a_.Important, vU a_.Origin, .bool a_.Attached, vI a_.Layer, vI a_.Weight.e0, vI a_.Weight.e1, vI a_.Weight.e2, vI a_.Order] H hd rfl rfl) (fun _ => rfl) fun _ wd2 v H3 hq => ?_
 clear H hd
 obtain ⟨b1, rfl, hq⟩ := hq
 replace hS : SH M X w [eB b1 [.string ⟨⟨a_.Long.Name⟩⟩, .slice g_a__0.a a_.Long.Value.length g_a__0.c, .string ⟨⟨a_.Long.Whole⟩⟩, .bool a_.Important, vU a_.Origin, .bool a_.Attached, vI a_.Layer, vI a_.Weight.e0, vI a_.Weight.e1, vI a_.Weight.e2, vI a_.Order], eI tyValue a_.Long.Value g_a__0, eI tyValue b_.Long.Value g_b__0] _ := hS.join [] [0, 1] rfl rfl hq
 clear hq
 have hd := hS.hand [] [0, 1, 2] rfl rfl
 refine m_stp [3, 2] [(2, [], vP b1)] H3 rfl rfl rfl rfl (o_box [.string ⟨⟨b_.Long.Name⟩⟩, .slice g_b__0.a b_.Long.Value.length g_b__0.c, .string ⟨⟨b_.Long.Whole⟩⟩, .bool b_.Important, vU b_.Origin, .bool b_.Attached, vI b_.Layer, vI b_.Weight.e0, vI b_.Weight.e1, vI b_.Weight.e2, vI b_.Order] H3 hd rfl rfl) (fun _ => rfl) fun _ wd5 v H6 hq => ?_
 clear H3 hd
 obtain ⟨b4, rfl, hq⟩ := hq
 replace hS : SH M X w [eB b4 [.string ⟨⟨b_.Long.Name⟩⟩, .slice g_b__0.a b_.Long.Value.length g_b__0.c, .string ⟨⟨b_.Long.Whole⟩⟩, .bool b_.Important, vU b_.Origin, .bool b_.Attached, vI b_.Layer, vI b_.Weight.e0, vI b_.Weight.e1, vI b_.Weight.e2, vI b_.Order], eB b1 [.string ⟨⟨a_.Long.Name⟩⟩, .slice g_a__0.a a_.Long.Value.length g_a__0.c, .string ⟨⟨a_.Long.Whole⟩⟩, .bool a_.Important, vU a_.Origin, .bool a_.Attached, vI a_.Layer, vI a_.Weight.e0, vI a_.Weight.e1, vI a_.Weight.e2, vI a_.Order], eI tyValue a_.Long.Value g_a__0, eI tyValue b_.Long.Value g_b__0] _ := hS.join [] [0, 1, 2] rfl rfl hq
 clear hq
 refine wl_batch 2 3 [] [2, 3] [(2, [], vP b1), (3, [], vP b4)] [] H6 (by decide) (by kernel_rfl) trivial fun _ wd7 H8 hb => ?_
 clear H6
 replace hS := hS.below hb
 clear hb
 refine wl_end rfl ?_
 refine w_seq ?_
 refine wl_start ?_
 refine wl_batch 0 2 [(.agg ⟨[.string ⟨⟨a_.Long.Name⟩⟩, .slice g_a__0.a a_.Long.Value.length g_a__0.c, .string ⟨⟨a_.Long.Whole⟩⟩]⟩)] [2, 3, 6] [(2, [], vP b1), (3, [], vP b4), (6, [], .agg ⟨[.string ⟨⟨a_.Long.Name⟩⟩, .slice g_a__0.a a_.Long.Value.length g_a__0.c, .string ⟨⟨a_.Long.Whole⟩⟩]⟩)] [fun wz => V.atN b1 0 [.string ⟨⟨a_.Long.Name⟩⟩, .slice g_a__0.a a_.Long.Value.length g_a__0.c, .string ⟨⟨a_.Long.Whole⟩⟩] 0 wz] H8 (by decide) (by kernel_rfl) ⟨((hS.bk 1 rfl).atD rfl), trivial⟩ fun _ wd9 H10 hb => ?_
 clear H8
 replace hS := hS.below hb
 clear hb
 have hd := hS.hand [2] [0, 1, 2, 3] rfl rfl
 refine m_stp [7, 2, 3] [(2, [], vP b1), (3, [], vP b4)] H10 rfl rfl rfl rfl (o_lit (T := tyLong) (E := 31) (zv := .agg ⟨[vN, vO, vN]⟩) [.string ⟨⟨a_.Long.Name⟩⟩, .slice g_a__0.a a_.Long.Value.length g_a__0.c, .string ⟨⟨a_.Long.Whole⟩⟩] ([a_.Long] : List TLong) [gL [g_a__0]] _ H10 hd rfl (by kernel_rfl) (by kernel_rfl) (by kernel_rfl) (by kernel_rfl) (by kernel_rfl) (by kernel_rfl) (by kernel_rfl) rfl (InnL.cons (tyLong_mk (hd.im 0 rfl)) InnL.nil)) (fun _ => rfl) fun _ wd13 v H14 hq => ?_
 clear H10 hd
 obtain ⟨g11, rfl, hq⟩ := hq
 replace hS : SH M X w [eO 31 tyLong ([a_.Long] : List TLong) g11, eB b4 [.string ⟨⟨b_.Long.Name⟩⟩, .slice g_b__0.a b_.Long.Value.length g_b__0.c, .string ⟨⟨b_.Long.Whole⟩⟩, .bool b_.Important, vU b_.Origin, .bool b_.Attached, vI b_.Layer, vI b_.Weight.e0, vI b_.Weight.e1, vI b_.Weight.e2, vI b_.Order], eB b1 [.string ⟨⟨a_.Long.Name⟩⟩, .slice g_a__0.a a_.Long.Value.length g_a__0.c, .string ⟨⟨a_.Long.Whole⟩⟩, .bool a_.Important, vU a_.Origin, .bool a_.Attached, vI a_.Layer, vI a_.Weight.e0, vI a_.Weight.e1, vI a_.Weight.e2, vI a_.Order], eI tyValue a_.Long.Value g_a__0, eI tyValue b_.Long.Value g_b__0] _ := hS.join [2] [0, 1, 2, 3] rfl rfl hq
 clear hq
 refine wl_batch 3 5 [(.agg ⟨[.string ⟨⟨b_.Long.Name⟩⟩, .slice g_b__0.a b_.Long.Value.length g_b__0.c, .string ⟨⟨b_.Long.Whole⟩⟩]⟩)] [2, 3, 7, 9] [(2, [], vP b1), (3, [], vP b4), (7, [], .slice g11.a 1 g11.c), (9, [], .agg ⟨[.string ⟨⟨b_.Long.Name⟩⟩, .slice g_b__0.a b_.Long.Value.length g_b__0.c, .string ⟨⟨b_.Long.Whole⟩⟩]⟩)] [fun wz => V.atN b4 0 [.string ⟨⟨b_.Long.Name⟩⟩, .slice g_b__0.a b_.Long.Value.length g_b__0.c, .string ⟨⟨b_.Long.Whole⟩⟩] 0 wz] H14 (by decide) (by kernel_rfl) ⟨((hS.bk 1 rfl).atD rfl), trivial⟩ fun _ wd15 H16 hb => ?_
 clear H14
 replace hS := hS.below hb
 clear hb
 have hd := hS.hand [4] [0, 1, 2, 3, 4] rfl rfl
 refine m_stp [10, 2, 3, 7] [(2, [], vP b1), (3, [], vP b4), (7, [], .slice g11.a 1 g11.c)] H16 rfl rfl rfl rfl (o_lit (T := tyLong) (E := 31) (zv := .agg ⟨[vN, vO, vN]⟩) [.string ⟨⟨b_.Long.Name⟩⟩, .slice g_b__0.a b_.Long.Value.length g_b__0.c, .string ⟨⟨b_.Long.Whole⟩⟩] ([b_.Long] : List TLong) [gL [g_b__0]] _ H16 hd rfl (by kernel_rfl) (by kernel_rfl) (by kernel_rfl) (by kernel_rfl) (by kernel_rfl) (by kernel_rfl) (by kernel_rfl) rfl (InnL.cons (tyLong_mk (hd.im 0 rfl)) InnL.nil)) (fun _ => rfl) fun _ wd19 v H20 hq => ?_
 clear H16 hd
 obtain ⟨g17, rfl, hq⟩ := hq
 replace hS : SH M X w [eO 31 tyLong ([b_.Long] : List TLong) g17, eO 31 tyLong ([a_.Long] : List TLong) g11, eB b4 [.string ⟨⟨b_.Long.Name⟩⟩, .slice g_b__0.a b_.Long.Value.length g_b__0.c, .string ⟨⟨b_.Long.Whole⟩⟩, .bool b_.Important, vU b_.Origin, .bool b_.Attached, vI b_.Layer, vI b_.Weight.e0, vI b_.Weight.e1, vI b_.Weight.e2, vI b_.Order], eB b1 [.string ⟨⟨a_.Long.Name⟩⟩, .slice g_a__0.a a_.Long.Value.length g_a__0.c, .string ⟨⟨a_.Long.Whole⟩⟩, .bool a_.Important, vU a_.Origin, .bool a_.Attached, vI a_.Layer, vI a_.Weight.e0, vI a_.Weight.e1, vI a_.Weight.e2, vI a_.Order], eI tyValue a_.Long.Value g_a__0, eI tyValue b_.Long.Value g_b__0] _ := hS.join [4] [0, 1, 2, 3, 4] rfl rfl hq
 clear hq
 obtain ⟨y21, hy21, hm⟩ := bindE hm
 obtain ⟨x22, hx22, hm⟩ := letE hm
 obtain ⟨x23, hx23, hm⟩ := letE hm
 obtain ⟨x24, hx24, hm⟩ := letE hm
 refine wl_batch 6 50 [(.bool y21), (.bool a_.Important), (.bool b_.Important), (vU a_.Origin), (vU b_.Origin), (.bool a_.Attached), (.bool b_.Attached), (vI a_.Layer), (vI b_.Layer), (.agg ⟨[vI a_.Weight.e0, vI a_.Weight.e1, vI a_.Weight.e2]⟩), (.agg ⟨[vI b_.Weight.e0, vI b_.Weight.e1, vI b_.Weight.e2]⟩), (vI a_.Order), (vI b_.Order)] [4] [(4, [], .bool (cond x24 (a_.Order == b_.Order) false))] [fun wz => RetB Tryz.prog 27 ⟨[.slice g11.a 1 g11.c, .slice g17.a 1 g17.c]⟩ (.bool y21) wz, fun wz => (y21 = true ∧ True → V.at1 ⟨b1, 3, none⟩ (.bool a_.Important) wz), fun wz => (y21 = true ∧ True → V.at1 ⟨b4, 3, none⟩ (.bool b_.Important) wz), fun wz => (x22 = true ∧ True → V.at1 ⟨b1, 4, none⟩ (vU a_.Origin) wz), fun wz => (x22 = true ∧ True → V.at1 ⟨b4, 4, none⟩ (vU b_.Origin) wz), fun wz => ((cond x22 (a_.Origin == b_.Origin) false) = true ∧ True → V.at1 ⟨b1, 5, none⟩ (.bool a_.Attached) wz), fun wz => ((cond x22 (a_.Origin == b_.Origin) false) = true ∧ True → V.at1 ⟨b4, 5, none⟩ (.bool b_.Attached) wz), fun wz => (x23 = true ∧ True → V.at1 ⟨b1, 6, none⟩ (vI a_.Layer) wz), fun wz => (x23 = true ∧ True → V.at1 ⟨b4, 6, none⟩ (vI b_.Layer) wz), fun wz => ((cond x23 (a_.Layer == b_.Layer) false) = true ∧ True → V.atN b1 7 [vI a_.Weight.e0, vI a_.Weight.e1, vI a_.Weight.e2] 0 wz), fun wz => ((cond x23 (a_.Layer == b_.Layer) false) = true ∧ True → V.atN b4 7 [vI b_.Weight.e0, vI b_.Weight.e1, vI b_.Weight.e2] 0 wz), fun wz => (x24 = true ∧ True → V.at1 ⟨b1, 10, none⟩ (vI a_.Order) wz), fun wz => (x24 = true ∧ True → V.at1 ⟨b4, 10, none⟩ (vI b_.Order) wz)] H20 (by decide) (by subst hx22 hx23 hx24; kernel_rfl) ⟨(r27_SameLongs_ok (g_a_ := g11) (g_b_ := g17) m _ _ _ hy21 _ (s0im (s0im s0nil (hS.osl 0 rfl)) (hS.osl 1 rfl))), fun hg => (hS.bk 3 rfl).at1 rfl, fun hg => (hS.bk 2 rfl).at1 rfl, fun hg => (hS.bk 3 rfl).at1 rfl, fun hg => (hS.bk 2 rfl).at1 rfl, fun hg => (hS.bk 3 rfl).at1 rfl, fun hg => (hS.bk 2 rfl).at1 rfl, fun hg => (hS.bk 3 rfl).at1 rfl, fun hg => (hS.bk 2 rfl).at1 rfl, fun hg => (hS.bk 3 rfl).atD rfl, fun hg => (hS.bk 2 rfl).atD rfl, fun hg => (hS.bk 3 rfl).at1 rfl, fun hg => (hS.bk 2 rfl).at1 rfl, trivial⟩ fun _ wd25 H26 hb => ?_
 clear H20
 replace hS := hS.below hb
 clear hb
 refine wl_end rfl ?_
 replace hS : SH M X w [] _ := hS.sel [] rfl
 refine w_ret ?_
 obtain rfl := someE hm
 exact retR1 H26 rfl rfl ⟨_, rfl, rfl, (hS.sel [] rfl)⟩
theorem r29_SameOne_ok {g_a__0 : Gh} {g_b__0 : Gh} (m : Nat) (a_ : TDeclared) (b_ : TDeclared) (r : Bool) (hm : r29_SameOne m a_ b_ = some r) (w : World) (hL : S0 F0 [eI tyValue a_.Long.Value g_a__0, eI tyValue b_.Long.Value g_b__0] w ∧ fpl [eI tyValue a_.Long.Value g_a__0, eI tyValue b_.Long.Value g_b__0] = []) : RetB Tryz.prog 10 ⟨[.agg ⟨[.string ⟨⟨a_.Long.Name⟩⟩, .slice g_a__0.a a_.Long.Value.length g_a__0.c, .string ⟨⟨a_.Long.Whole⟩⟩, .bool a_.Important, vU a_.Origin, .bool a_.Attached, vI a_.Layer, vI a_.Weight.e0, vI a_.Weight.e1, vI a_.Weight.e2, vI a_.Order]⟩, .agg ⟨[.string ⟨⟨b_.Long.Name⟩⟩, .slice g_b__0.a b_.Long.Value.length g_b__0.c, .string ⟨⟨b_.Long.Whole⟩⟩, .bool b_.Important, vU b_.Origin, .bool b_.Attached, vI b_.Layer, vI b_.Weight.e0, vI b_.Weight.e1, vI b_.Weight.e2, vI b_.Order]⟩]⟩ (.bool r) w := retB_of hL (Tryz.call10 _) (fun w' h => r29_SameOne_w F0 m   a_ b_ r hm w' h)

theorem law31_WideApart_w {g_l_ : Gh} (M : Av) (m : Nat) (l_ : List TDeclared) (name_ : Str) (r : Bool) (hm : law31_WideApart m l_ name_ = some r) (w : World) (hS : S0 M [eI tyDeclared l_ g_l_, gE0] w) : Calls Tryz.prog 3 ⟨[vL g_l_ l_, vS name_]⟩ w (fun e w' => ∃ v, e = .returned v ∧ v = .bool r ∧ SH M (fpl [eI tyDeclared l_ g_l_, gE0]) w [] w') := by
 rw [law31_WideApart] at hm
 have hS0 : SH M (fpl [eI tyDeclared l_ g_l_, gE0]) w [eI tyDeclared l_ g_l_, gE0] w := hS
 generalize hX : fpl [eI tyDeclared l_ g_l_, gE0] = X at hS0 ⊢
 clear hS hX
 have hS := hS0
 clear hS0
 refine calls_entryP Tryz.func3 rfl Tryz.ntmps3 rfl fun _ H => ?_
 refine s_reg [] [0, 1] [(0, [], vL g_l_ l_), (1, [], vS name_)] [] H (by kernel_rfl) trivial fun _ wd1 H2 hb => ?_
 clear H
 replace hS := hS.below hb
 clear hb
 obtain ⟨y3, hy3, hm⟩ := bindE hm
 refine s_reg [(.bool y3)] [0, 1, 5] [(0, [], vL g_l_ l_), (1, [], vS name_), (5, [], .bool y3)] [fun wz => RetB Tryz.prog 6 ⟨[]⟩ (.bool y3) wz] H2 (by kernel_rfl) ⟨(law31_alive_ok 300 _ hy3 _ (s0im s0nil (hS.im 1 rfl))), trivial⟩ fun _ wd4 H5 hb => ?_
 clear H2
 replace hS := hS.below hb
 clear hb
 refine w_seq ?_
 obtain ⟨y6, hy6, hm⟩ := bindE hm
 obtain ⟨y7, hy7, hm⟩ := bindE hm
 obtain ⟨x8, hx8, hm⟩ := letE hm
 refine s_reg [(.bool y6), (vI y7)] [0, 1, 5, 30] [(0, [], vL g_l_ l_), (1, [], vS name_), (5, [], .bool y3), (30, [], .bool (cond x8 true (!y3)))] [fun wz => RetB Tryz.prog 7 ⟨[vL g_l_ l_]⟩ (.bool y6) wz, fun wz => (y6 = false ∧ True → RetB Tryz.prog 8 ⟨[vL g_l_ l_]⟩ (vI y7) wz)] H5 (by subst hx8; kernel_rfl) ⟨(r29_Great_ok (g_l_ := g_l_) m _ _ hy6 _ (s0im s0nil (hS.im 0 rfl))), fun hg => r31_Asked_ok (g_l_ := g_l_) m _ _ (bF (hg.1) hy7) _ (s0im s0nil (hS.im 0 rfl)), trivial⟩ fun _ wd9 H10 hb => ?_
 clear H5
 replace hS := hS.below hb
 clear hb
 refine w_if H10 rfl (fun hc => ?c85) (fun hc => ?_)
 case c85 =>
  replace hm := bT hc hm
  refine s_reg [] [4] [(4, [], .bool y3)] [] H10 (by kernel_rfl) trivial fun _ wd11 H12 hb => ?_
  clear H10
  replace hS := hS.below hb
  clear hb
  replace hS : SH M X w [gE0] _ := hS.sel [1] rfl
  refine w_ret ?_
  obtain rfl := someE hm
  exact retR1 H12 rfl rfl ⟨_, rfl, rfl, (hS.sel [] rfl)⟩
 replace hm := bF hc hm
 refine w_skip ?_
 obtain ⟨y13, hy13, hm⟩ := bindE hm
 refine s_reg [(.tuple ⟨[vI y13.1, .string ⟨⟨y13.2.1⟩⟩, vI y13.2.2]⟩)] [0, 1, 5, 6, 7, 8] [(0, [], vL g_l_ l_), (1, [], vS name_), (5, [], .bool y3), (6, [], vI y13.1), (7, [], .string ⟨⟨y13.2.1⟩⟩), (8, [], vI y13.2.2)] [fun wz => RetB Tryz.prog 9 ⟨[vL g_l_ l_, vS name_]⟩ (.tuple ⟨[vI y13.1, .string ⟨⟨y13.2.1⟩⟩, vI y13.2.2]⟩) wz] H10 (by kernel_rfl) ⟨(wide_Decide_ok (g_l_ := g_l_) m _ _ _ hy13 _ (s0im (s0im s0nil (hS.im 1 rfl)) (hS.im 0 rfl))), trivial⟩ fun _ wd14 H15 hb => ?_
 clear H10
 replace hS := hS.below hb
 clear hb
 refine w_seq ?_
 refine s_reg [] [0, 1, 5, 6, 7, 40] [(0, [], vL g_l_ l_), (1, [], vS name_), (5, [], .bool y3), (6, [], vI y13.1), (7, [], .string ⟨⟨y13.2.1⟩⟩), (40, [], .bool (y13.2.2 != 0))] [] H15 (by kernel_rfl) trivial fun _ wd16 H17 hb => ?_
 clear H15
 replace hS := hS.below hb
 clear hb
 refine w_if H17 rfl (fun hc => ?c84) (fun hc => ?_)
 case c84 =>
  replace hm := bT hc hm
  refine s_reg [] [4] [(4, [], .bool y3)] [] H17 (by kernel_rfl) trivial fun _ wd18 H19 hb => ?_
  clear H17
  replace hS := hS.below hb
  clear hb
  replace hS : SH M X w [gE0] _ := hS.sel [1] rfl
  refine w_ret ?_
  obtain rfl := someE hm
  exact retR1 H19 rfl rfl ⟨_, rfl, rfl, (hS.sel [] rfl)⟩
 replace hm := bF hc hm
 refine w_skip ?_
 refine s_reg [] [0, 1, 5, 6, 7, 9] [(0, [], vL g_l_ l_), (1, [], vS name_), (5, [], .bool y3), (6, [], vI y13.1), (7, [], .string ⟨⟨y13.2.1⟩⟩), (9, [], vO)] [] H17 (by kernel_rfl) trivial fun _ wd20 H21 hb => ?_
 clear H17
 replace hS := hS.below hb
 clear hb
 obtain ⟨z22, hz, hm⟩ := bindE hm
 refine w_cut (fun a' w' => ∃ (g56 : Gh), Fr 133 [(0, [], vL g_l_ l_), (1, [], vS name_), (5, [], .bool y3), (6, [], vI y13.1), (7, [], .string ⟨⟨y13.2.1⟩⟩), (9, [], vL g56 z22)] a' ∧ SH M X w [eO 35 tyDeclared z22 g56, eI tyDeclared l_ g_l_, gE0] w') ?_ ?_
 ·replace hm := hz
  refine s_reg [] [0, 1, 5, 6, 7, 9, 10] [(0, [], vL g_l_ l_), (1, [], vS name_), (5, [], .bool y3), (6, [], vI y13.1), (7, [], .string ⟨⟨y13.2.1⟩⟩), (9, [], vO), (10, [], vI 0)] [] H21 (by kernel_rfl) trivial fun _ wd23 H24 hb => ?_
  clear H21
  replace hS := hS.below hb
  clear hb
  refine w_block ?_
  replace hS : SH M X w [eO 35 tyDeclared ([] : List TDeclared) (.nil), eI tyDeclared l_ g_l_, gE0] _ := hS.addNil 35 tyDeclared
  refine w_loop (fun kk a' w' => ∃ (v26 : List TDeclared) (v28 : Int) (g27 : Gh), law31_WideApart_L1 m l_ name_ kk v26 v28 = some _ ∧ Fr 133 [(0, [], vL g_l_ l_), (1, [], vS name_), (5, [], .bool y3), (6, [], vI y13.1), (7, [], .string ⟨⟨y13.2.1⟩⟩), (9, [], vL g27 v26), (10, [], vI v28)] a' ∧ SH M X w [eO 35 tyDeclared v26 g27, eI tyDeclared l_ g_l_, gE0] w') ⟨_, ([] : List TDeclared), 0, Gh.nil, hm, FrG.keep (ks := [0, 1, 5, 6, 7, 9, 10]) H24 (by kernel_rfl), hS⟩ ?_
  clear hm H24 hS
  rintro kk _ wd55 ⟨v26, v28, g27, hm, H, hS⟩
  cases kk with
  | zero => exact noneE hm
  | succ kk =>
   rw [law31_WideApart_L1] at hm
   refine w_seq ?_
   refine s_reg [] [0, 1, 5, 6, 7, 9, 10, 45] [(0, [], vL g_l_ l_), (1, [], vS name_), (5, [], .bool y3), (6, [], vI y13.1), (7, [], .string ⟨⟨y13.2.1⟩⟩), (9, [], vL g27 v26), (10, [], vI v28), (45, [], .bool (decide (v28 < (ln l_))))] [] H (by kernel_rfl) trivial fun _ wd29 H30 hb => ?_
   clear H
   replace hS := hS.below hb
   clear hb
   refine w_if H30 rfl (fun hc => ?_) (fun hc => ?c54)
   case c54 =>
    replace hm := bF hc hm
    refine w_exit rfl ?_
    obtain rfl := someE hm
    exact ⟨g27, FrG.keep (ks := [0, 1, 5, 6, 7, 9]) H30 (by kernel_rfl), hS⟩
   replace hm := bT hc hm
   refine w_skip ?_
   obtain ⟨z31, hz, hm⟩ := bindE hm
   refine w_cut (fun a' w' => ∃ (g50 : Gh), Fr 133 [(0, [], vL g_l_ l_), (1, [], vS name_), (5, [], .bool y3), (6, [], vI y13.1), (7, [], .string ⟨⟨y13.2.1⟩⟩), (10, [], vI v28), (9, [], vL g50 z31)] a' ∧ SH M X w [eO 35 tyDeclared z31 g50, eI tyDeclared l_ g_l_, gE0] w') ?_ ?_
   ·replace hm := hz
    refine w_block ?_
    obtain ⟨ho32, hm⟩ := chkE hm
    refine s_reg [(.string ⟨⟨(gi l_ v28).Long.Name⟩⟩)] [0, 1, 5, 6, 7, 9, 10, 55] [(0, [], vL g_l_ l_), (1, [], vS name_), (5, [], .bool y3), (6, [], vI y13.1), (7, [], .string ⟨⟨y13.2.1⟩⟩), (9, [], vL g27 v26), (10, [], vI v28), (55, [], .bool (((gi l_ v28).Long.Name) == name_))] [fun _ => oka g_l_.a ∧ 0 ≤ v28 ∧ v28 < ln l_, fun wz => V.at1 ⟨ab g_l_.a, ao g_l_.a + (v28).toNat * 11, none⟩ (.string ⟨⟨(gi l_ v28).Long.Name⟩⟩) wz] H30 (by kernel_rfl) ⟨((hS.im 1 rfl).oki ho32), ((hS.im 1 rfl).at1 ho32 0 rfl), trivial⟩ fun _ wd33 H34 hb => ?_
    clear H30
    replace hS := hS.below hb
    clear hb
    refine w_if H34 rfl (fun hc => ?_) (fun hc => ?c49)
    case c49 =>
     replace hm := bF hc hm
     refine w_skip ?_
     obtain rfl := someE hm
     exact ⟨g27, FrG.keep (ks := [0, 1, 5, 6, 7, 10, 9]) H34 (by kernel_rfl), hS⟩
    replace hm := bT hc hm
    refine wl_start ?_
    refine wl_batch 0 5 [(.agg ⟨[.string ⟨⟨(gi l_ v28).Long.Name⟩⟩, .slice (g_l_.s (v28).toNat 0).a (((gi l_ v28).Long.Value).length) (g_l_.s (v28).toNat 0).c, .string ⟨⟨(gi l_ v28).Long.Whole⟩⟩, .bool ((gi l_ v28).Important), vU ((gi l_ v28).Origin), .bool ((gi l_ v28).Attached), vI ((gi l_ v28).Layer), vI ((gi l_ v28).Weight.e0), vI ((gi l_ v28).Weight.e1), vI ((gi l_ v28).Weight.e2), vI ((gi l_ v28).Order)]⟩)] [0, 1, 5, 6, 7, 10, 56, 60] [(0, [], vL g_l_ l_), (1, [], vS name_), (5, [], .bool y3), (6, [], vI y13.1), (7, [], .string ⟨⟨y13.2.1⟩⟩), (10, [], vI v28), (56, [], vL g27 v26), (60, [], .agg ⟨[.string ⟨⟨(gi l_ v28).Long.Name⟩⟩, .slice (g_l_.s (v28).toNat 0).a (((gi l_ v28).Long.Value).length) (g_l_.s (v28).toNat 0).c, .string ⟨⟨(gi l_ v28).Long.Whole⟩⟩, .bool ((gi l_ v28).Important), vU ((gi l_ v28).Origin), .bool ((gi l_ v28).Attached), vI ((gi l_ v28).Layer), vI ((gi l_ v28).Weight.e0), vI ((gi l_ v28).Weight.e1), vI ((gi l_ v28).Weight.e2), vI ((gi l_ v28).Order)]⟩)] [fun _ => oka g_l_.a ∧ 0 ≤ v28 ∧ v28 < ln l_, fun wz => V.atN (ab g_l_.a) (ao g_l_.a + (v28).toNat * 11) [.string ⟨⟨(gi l_ v28).Long.Name⟩⟩, .slice (g_l_.s (v28).toNat 0).a (((gi l_ v28).Long.Value).length) (g_l_.s (v28).toNat 0).c, .string ⟨⟨(gi l_ v28).Long.Whole⟩⟩, .bool ((gi l_ v28).Important), vU ((gi l_ v28).Origin), .bool ((gi l_ v28).Attached), vI ((gi l_ v28).Layer), vI ((gi l_ v28).Weight.e0), vI ((gi l_ v28).Weight.e1), vI ((gi l_ v28).Weight.e2), vI ((gi l_ v28).Order)] 0 wz] H34 (by decide) (by kernel_rfl) ⟨((hS.im 1 rfl).oki ho32), ((hS.im 1 rfl).atA ho32 0 rfl), trivial⟩ fun _ wd35 H36 hb => ?_
    clear H34
    replace hS := hS.below hb
    clear hb
    replace hS : SH M X w [eI tyValue ((gi l_ v28).Long.Value) (g_l_.s (v28).toNat 0), eO 35 tyDeclared v26 g27, eI tyDeclared l_ g_l_, gE0] _ := hS.addIm (tyDeclared_i0 ((hS.im 1 rfl).el ho32))
    have hd := hS.hand [0] [0, 1, 2, 3] rfl rfl
    refine m_stp [61, 0, 1, 5, 6, 7, 10, 56] [(0, [], vL g_l_ l_), (1, [], vS name_), (5, [], .bool y3), (6, [], vI y13.1), (7, [], .string ⟨⟨y13.2.1⟩⟩), (10, [], vI v28), (56, [], vL g27 v26)] H36 rfl rfl rfl rfl (o_lit (T := tyDeclared) (E := 35) (zv := .agg ⟨[vN, vO, vN, vF, vU 0, vF, vI 0, vI 0, vI 0, vI 0, vI 0]⟩) [.string ⟨⟨(gi l_ v28).Long.Name⟩⟩, .slice (g_l_.s (v28).toNat 0).a (((gi l_ v28).Long.Value).length) (g_l_.s (v28).toNat 0).c, .string ⟨⟨(gi l_ v28).Long.Whole⟩⟩, .bool ((gi l_ v28).Important), vU ((gi l_ v28).Origin), .bool ((gi l_ v28).Attached), vI ((gi l_ v28).Layer), vI ((gi l_ v28).Weight.e0), vI ((gi l_ v28).Weight.e1), vI ((gi l_ v28).Weight.e2), vI ((gi l_ v28).Order)] ([(gi l_ v28)] : List TDeclared) [gL [(g_l_.s (v28).toNat 0)]] _ H36 hd rfl (by kernel_rfl) (by kernel_rfl) (by kernel_rfl) (by kernel_rfl) (by kernel_rfl) (by kernel_rfl) (by kernel_rfl) rfl (InnL.cons (tyDeclared_mk (hd.im 0 rfl)) InnL.nil)) (fun _ => rfl) fun _ wd40 v H41 hq => ?_
    clear H36 hd
    obtain ⟨g37, rfl, hq⟩ := hq
    replace hS : SH M X w [eO 35 tyDeclared ([(gi l_ v28)] : List TDeclared) g37, eI tyValue ((gi l_ v28).Long.Value) (g_l_.s (v28).toNat 0), eO 35 tyDeclared v26 g27, eI tyDeclared l_ g_l_, gE0] _ := hS.join [0] [0, 1, 2, 3] rfl rfl hq
    clear hq
    obtain ⟨ho42, hm⟩ := chkE hm
    obtain ⟨q43, hq43, hm⟩ := letE hm
    have hd := hS.hand [2, 0] [1, 3, 4] rfl rfl
    refine m_stp [62, 0, 1, 5, 6, 7, 10] [(0, [], vL g_l_ l_), (1, [], vS name_), (5, [], .bool y3), (6, [], vI y13.1), (7, [], .string ⟨⟨y13.2.1⟩⟩), (10, [], vI v28)] H41 rfl rfl rfl rfl (o_app2 (T := tyDeclared) (zv := .agg ⟨[vN, vO, vN, vF, vU 0, vF, vI 0, vI 0, vI 0, vI 0, vI 0]⟩) (g1 := g27) (g2 := g37) (l1 := v26) (l2 := ([(gi l_ v28)] : List TDeclared)) q43 hq43.symm H41 hd rfl rfl rfl rfl rfl rfl rfl (by kernel_rfl) (by kernel_rfl) rfl rfl ho42) (fun _ => rfl) fun _ wd44 v H45 hq => ?_
    clear H41 hd
    obtain ⟨g46, rfl, hq⟩ := hq
    replace hS : SH M X w [eO 35 tyDeclared q43 g46, eO 35 tyDeclared ([(gi l_ v28)] : List TDeclared) g37, eI tyValue ((gi l_ v28).Long.Value) (g_l_.s (v28).toNat 0), eI tyDeclared l_ g_l_, gE0] _ := hS.join [2, 0] [1, 3, 4] rfl rfl hq
    clear hq
    refine wl_batch 7 8 [] [0, 1, 5, 6, 7, 9, 10] [(0, [], vL g_l_ l_), (1, [], vS name_), (5, [], .bool y3), (6, [], vI y13.1), (7, [], .string ⟨⟨y13.2.1⟩⟩), (9, [], vL g46 q43), (10, [], vI v28)] [] H45 (by decide) (by kernel_rfl) trivial fun _ wd47 H48 hb => ?_
    clear H45
    replace hS := hS.below hb
    clear hb
    refine wl_end rfl ?_
    replace hS : SH M X w [eO 35 tyDeclared q43 g46, eI tyDeclared l_ g_l_, gE0] _ := hS.sel [0, 3, 4] rfl
    obtain rfl := someE hm
    exact ⟨g46, FrG.keep (ks := [0, 1, 5, 6, 7, 10, 9]) H48 (by kernel_rfl), hS⟩
   ·rintro _ wd53 ⟨g50, H, hS⟩
    refine w_reg [] [0, 1, 5, 6, 7, 9, 10] [(0, [], vL g_l_ l_), (1, [], vS name_), (5, [], .bool y3), (6, [], vI y13.1), (7, [], .string ⟨⟨y13.2.1⟩⟩), (9, [], vL g50 z31), (10, [], vI (w64 (v28 + 1)))] [] H (by kernel_rfl) trivial fun _ wd51 H52 hb => ?_
    clear H
    replace hS := hS.below hb
    clear hb
    exact ⟨_, Nat.lt_succ_self _, z31, w64 (v28 + 1), g50, hm, FrG.keep (ks := [0, 1, 5, 6, 7, 9, 10]) H52 (by kernel_rfl), hS⟩
 ·rintro _ wd83 ⟨g56, H, hS⟩
  obtain ⟨y58, hy58, hm⟩ := bindE hm
  refine s_reg [(.tuple ⟨[vI y58.1, .string ⟨⟨y58.2.1⟩⟩, vI y58.2.2]⟩)] [0, 1, 5, 6, 7, 9, 11, 12, 13] [(0, [], vL g_l_ l_), (1, [], vS name_), (5, [], .bool y3), (6, [], vI y13.1), (7, [], .string ⟨⟨y13.2.1⟩⟩), (9, [], vL g56 z22), (11, [], vI y58.1), (12, [], .string ⟨⟨y58.2.1⟩⟩), (13, [], vI y58.2.2)] [fun wz => RetB Tryz.prog 9 ⟨[vL g56 z22, vS name_]⟩ (.tuple ⟨[vI y58.1, .string ⟨⟨y58.2.1⟩⟩, vI y58.2.2]⟩) wz] H (by kernel_rfl) ⟨(wide_Decide_ok (g_l_ := g56) m _ _ _ hy58 _ (s0im (s0im s0nil (hS.im 2 rfl)) (hS.osl 0 rfl))), trivial⟩ fun _ wd59 H60 hb => ?_
  clear H
  replace hS := hS.below hb
  clear hb
  refine w_seq ?_
  obtain ⟨x61, hx61, hm⟩ := letE hm
  obtain ⟨x62, hx62, hm⟩ := letE hm
  refine s_reg [] [0, 1, 5, 6, 7, 9, 11, 83] [(0, [], vL g_l_ l_), (1, [], vS name_), (5, [], .bool y3), (6, [], vI y13.1), (7, [], .string ⟨⟨y13.2.1⟩⟩), (9, [], vL g56 z22), (11, [], vI y58.1), (83, [], .bool x62)] [] H60 (by subst hx61 hx62; kernel_rfl) trivial fun _ wd63 H64 hb => ?_
  clear H60
  replace hS := hS.below hb
  clear hb
  refine w_if H64 rfl (fun hc => ?c82) (fun hc => ?_)
  case c82 =>
   replace hm := bT hc hm
   refine s_reg [] [4] [(4, [], vF)] [] H64 (by kernel_rfl) trivial fun _ wd65 H66 hb => ?_
   clear H64
   replace hS := hS.below hb
   clear hb
   replace hS : SH M X w [gE0] _ := hS.sel [2] rfl
   refine w_ret ?_
   obtain rfl := someE hm
   exact retR1 H66 rfl rfl ⟨_, rfl, rfl, (hS.sel [] rfl)⟩
  replace hm := bF hc hm
  refine w_skip ?_
  refine w_seq ?_
  refine s_reg [] [0, 1, 5, 6, 7, 9, 11, 85] [(0, [], vL g_l_ l_), (1, [], vS name_), (5, [], .bool y3), (6, [], vI y13.1), (7, [], .string ⟨⟨y13.2.1⟩⟩), (9, [], vL g56 z22), (11, [], vI y58.1), (85, [], .bool (decide (y13.1 < 0)))] [] H64 (by kernel_rfl) trivial fun _ wd67 H68 hb => ?_
  clear H64
  replace hS := hS.below hb
  clear hb
  refine w_if H68 rfl (fun hc => ?c81) (fun hc => ?_)
  case c81 =>
   replace hm := bT hc hm
   obtain ⟨x69, hx69, hm⟩ := letE hm
   refine s_reg [] [4] [(4, [], .bool x69)] [] H68 (by subst hx69; kernel_rfl) trivial fun _ wd70 H71 hb => ?_
   clear H68
   replace hS := hS.below hb
   clear hb
   replace hS : SH M X w [gE0] _ := hS.sel [2] rfl
   refine w_ret ?_
   obtain rfl := someE hm
   exact retR1 H71 rfl rfl ⟨_, rfl, rfl, (hS.sel [] rfl)⟩
  replace hm := bF hc hm
  refine w_skip ?_
  obtain ⟨x72, hx72, hm⟩ := letE hm
  obtain ⟨x73, hx73, hm⟩ := letE hm
  obtain ⟨ho74, hm⟩ := chkE hm
  obtain ⟨x75, hx75, hm⟩ := letE hm
  obtain ⟨ho76, hm⟩ := chkE hm
  obtain ⟨ho77, hm⟩ := chkE hm
  obtain ⟨y78, hy78, hm⟩ := bindE hm
  refine s_draw [(.string ⟨⟨(gi l_ y13.1).Long.Name⟩⟩), (.agg ⟨[.string ⟨⟨(gi l_ y13.1).Long.Name⟩⟩, .slice (g_l_.s (y13.1).toNat 0).a (((gi l_ y13.1).Long.Value).length) (g_l_.s (y13.1).toNat 0).c, .string ⟨⟨(gi l_ y13.1).Long.Whole⟩⟩, .bool ((gi l_ y13.1).Important), vU ((gi l_ y13.1).Origin), .bool ((gi l_ y13.1).Attached), vI ((gi l_ y13.1).Layer), vI ((gi l_ y13.1).Weight.e0), vI ((gi l_ y13.1).Weight.e1), vI ((gi l_ y13.1).Weight.e2), vI ((gi l_ y13.1).Order)]⟩), (.agg ⟨[.string ⟨⟨(gi z22 y58.1).Long.Name⟩⟩, .slice (g56.s (y58.1).toNat 0).a (((gi z22 y58.1).Long.Value).length) (g56.s (y58.1).toNat 0).c, .string ⟨⟨(gi z22 y58.1).Long.Whole⟩⟩, .bool ((gi z22 y58.1).Important), vU ((gi z22 y58.1).Origin), .bool ((gi z22 y58.1).Attached), vI ((gi z22 y58.1).Layer), vI ((gi z22 y58.1).Weight.e0), vI ((gi z22 y58.1).Weight.e1), vI ((gi z22 y58.1).Weight.e2), vI ((gi z22 y58.1).Order)]⟩), (.bool y78)] [4] [(4, [], .bool (cond x75 y78 false))] [fun _ => (x73 = true ∧ True → oka g_l_.a ∧ 0 ≤ y13.1 ∧ y13.1 < ln l_), fun wz => (x73 = true ∧ True → V.at1 ⟨ab g_l_.a, ao g_l_.a + (y13.1).toNat * 11, none⟩ (.string ⟨⟨(gi l_ y13.1).Long.Name⟩⟩) wz), fun _ => (x75 = true ∧ True → oka g_l_.a ∧ 0 ≤ y13.1 ∧ y13.1 < ln l_), fun wz => (x75 = true ∧ True → V.atN (ab g_l_.a) (ao g_l_.a + (y13.1).toNat * 11) [.string ⟨⟨(gi l_ y13.1).Long.Name⟩⟩, .slice (g_l_.s (y13.1).toNat 0).a (((gi l_ y13.1).Long.Value).length) (g_l_.s (y13.1).toNat 0).c, .string ⟨⟨(gi l_ y13.1).Long.Whole⟩⟩, .bool ((gi l_ y13.1).Important), vU ((gi l_ y13.1).Origin), .bool ((gi l_ y13.1).Attached), vI ((gi l_ y13.1).Layer), vI ((gi l_ y13.1).Weight.e0), vI ((gi l_ y13.1).Weight.e1), vI ((gi l_ y13.1).Weight.e2), vI ((gi l_ y13.1).Order)] 0 wz), fun _ => (x75 = true ∧ True → oka g56.a ∧ 0 ≤ y58.1 ∧ y58.1 < ln z22), fun wz => (x75 = true ∧ True → V.atN (ab g56.a) (ao g56.a + (y58.1).toNat * 11) [.string ⟨⟨(gi z22 y58.1).Long.Name⟩⟩, .slice (g56.s (y58.1).toNat 0).a (((gi z22 y58.1).Long.Value).length) (g56.s (y58.1).toNat 0).c, .string ⟨⟨(gi z22 y58.1).Long.Whole⟩⟩, .bool ((gi z22 y58.1).Important), vU ((gi z22 y58.1).Origin), .bool ((gi z22 y58.1).Attached), vI ((gi z22 y58.1).Layer), vI ((gi z22 y58.1).Weight.e0), vI ((gi z22 y58.1).Weight.e1), vI ((gi z22 y58.1).Weight.e2), vI ((gi z22 y58.1).Order)] 0 wz), fun wz => (x75 = true ∧ True → RetB Tryz.prog 10 ⟨[.agg ⟨[.string ⟨⟨(gi l_ y13.1).Long.Name⟩⟩, .slice (g_l_.s (y13.1).toNat 0).a (((gi l_ y13.1).Long.Value).length) (g_l_.s (y13.1).toNat 0).c, .string ⟨⟨(gi l_ y13.1).Long.Whole⟩⟩, .bool ((gi l_ y13.1).Important), vU ((gi l_ y13.1).Origin), .bool ((gi l_ y13.1).Attached), vI ((gi l_ y13.1).Layer), vI ((gi l_ y13.1).Weight.e0), vI ((gi l_ y13.1).Weight.e1), vI ((gi l_ y13.1).Weight.e2), vI ((gi l_ y13.1).Order)]⟩, .agg ⟨[.string ⟨⟨(gi z22 y58.1).Long.Name⟩⟩, .slice (g56.s (y58.1).toNat 0).a (((gi z22 y58.1).Long.Value).length) (g56.s (y58.1).toNat 0).c, .string ⟨⟨(gi z22 y58.1).Long.Whole⟩⟩, .bool ((gi z22 y58.1).Important), vU ((gi z22 y58.1).Origin), .bool ((gi z22 y58.1).Attached), vI ((gi z22 y58.1).Layer), vI ((gi z22 y58.1).Weight.e0), vI ((gi z22 y58.1).Weight.e1), vI ((gi z22 y58.1).Weight.e2), vI ((gi z22 y58.1).Order)]⟩]⟩ (.bool y78) wz)] H68 (by kernel_rfl) (by kernel_rfl) (by subst hx72 hx73 hx75; kernel_rfl) ⟨fun hg => (hS.im 1 rfl).oki (ho74 hg.1), fun hg => (hS.im 1 rfl).at1 (ho74 hg.1) 0 rfl, fun hg => (hS.im 1 rfl).oki (ho76 hg.1), fun hg => (hS.im 1 rfl).atA (ho76 hg.1) 0 rfl, fun hg => (hS.osl 0 rfl).oki (ho77 hg.1), fun hg => (hS.osl 0 rfl).atA (ho77 hg.1) 0 rfl, fun hg => r29_SameOne_ok (g_a__0 := (g_l_.s (y13.1).toNat 0)) (g_b__0 := (g56.s (y58.1).toNat 0)) m _ _ _ (bT (hg.1) hy78) _ (s0im (s0im s0nil (tyDeclared_i0 ((hS.osl 0 rfl).el (ho77 hg.1)))) (tyDeclared_i0 ((hS.im 1 rfl).el (ho76 hg.1)))), trivial⟩ fun _ wd79 H80 hb => ?_
  clear H68
  replace hS := hS.below hb
  clear hb
  replace hS : SH M X w [gE0] _ := hS.sel [2] rfl
  refine w_ret ?_
  obtain rfl := someE hm
  exact retR1 H80 rfl rfl ⟨_, rfl, rfl, (hS.sel [] rfl)⟩
theorem law31_WideApart_ok {g_l_ : Gh} (m : Nat) (l_ : List TDeclared) (name_ : Str) (r : Bool) (hm : law31_WideApart m l_ name_ = some r) (w : World) (hL : S0 F0 [eI tyDeclared l_ g_l_, gE0] w ∧ fpl [eI tyDeclared l_ g_l_, gE0] = []) : RetB Tryz.prog 3 ⟨[vL g_l_ l_, vS name_]⟩ (.bool r) w := retB_of hL (Tryz.call3 _) (fun w' h => law31_WideApart_w F0 m   l_ name_ r hm w' h)

end Go.Proofs.YtehlikdeobajcaaGreatDoor
