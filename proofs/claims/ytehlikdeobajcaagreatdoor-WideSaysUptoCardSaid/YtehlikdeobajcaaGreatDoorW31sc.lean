/-
  What the Go functions compute, as Lean functions, and that a call returns just that. Printed by a program.
-/
import Derived.Test.YtehlikdeobajcaaGreatDoorRows
import Derived.Test.YtehlikdeobajcaaGreatDoorRF
import Derived.Test.YtehlikdeobajcaaGreatDoorM
import Derived.Test.YtehlikdeobajcaaGreatDoorW31sb
set_option linter.unusedVariables false
set_option maxRecDepth 20000
set_option maxHeartbeats 4000000
namespace Go.Proofs.YtehlikdeobajcaaGreatDoor
open Go.V Go.RowKit

theorem Inn_TValue_nc {M : Av} {w : World} {x : TValue} {g : Nat → Gh} (h : Inn_TValue M w x g) : Inn_TValue (fun b => M b ∨ Ncell w b) w x g := by
  induction h with
  | mk x g h0 _h1 ih1 => exact .mk x g (SlC.nc (z := 6) (enc := enc_TValue) (by decide) (fun _ _ => rfl) h0) ih1
theorem nc_tyValue : TyNc tyValue := ⟨by decide, fun _ _ _ _ h => Inn_TValue_nc h⟩
theorem nc_tyDeclared : TyNc tyDeclared := ⟨by decide, fun _ _ _ _ h => tyDeclared_mk (SlG.nc nc_tyValue (tyDeclared_i0 h))⟩
def wide_decide_S (rec_ : (List TDeclared) → Int → Str → Option (Int × Str)) : Prop := ∀ (g_l_ : Gh) (M : Av) (l_ : List TDeclared) (below : Int) (name_ : Str) (r : Int × Str), rec_ l_ below name_ = some r → ∀ w, S0 M [eI tyDeclared l_ g_l_, gE0] w → Calls Tryz.prog 26 ⟨[vL g_l_ l_, vU below, vS name_]⟩ w (fun e w' => ∃ v, e = .returned v ∧ v = vW [vI r.1, vS r.2] ∧ SH M (fpl [eI tyDeclared l_ g_l_, gE0]) w [] w')
theorem wide_mean_2_w {g_l_ : Gh} (M : Av) (m : Nat) (rec_wide_decide : (List TDeclared) → Int → Str → Option (Int × Str)) (hrec_wide_decide : wide_decide_S rec_wide_decide) (l_ : List TDeclared) (at_ : Int) (word : Str) (r : Int × Str) (hm : wide_mean_2 m rec_wide_decide l_ at_ word = some r) (w : World) (hS : S0 M [eI tyDeclared l_ g_l_, gE0] w) : Calls Tryz.prog 31 ⟨[vL g_l_ l_, vI at_, vS word]⟩ w (fun e w' => ∃ v, e = .returned v ∧ v = vW [vI r.1, vS r.2] ∧ SH M (fpl [eI tyDeclared l_ g_l_, gE0]) w [] w') := by
 rw [wide_mean_2] at hm
 have hS0 : SH M (fpl [eI tyDeclared l_ g_l_, gE0]) w [eI tyDeclared l_ g_l_, gE0] w := hS
 generalize hX : fpl [eI tyDeclared l_ g_l_, gE0] = X at hS0 ⊢
 clear hS hX
 have hS := hS0
 clear hS0
 refine calls_entryP Tryz.func31 rfl Tryz.ntmps31 rfl fun _ H => ?_
 refine s_reg [] [0, 1, 2] [(0, [], vL g_l_ l_), (1, [], vI at_), (2, [], vS word)] [] H (by kernel_rfl) trivial fun _ _ H2 hb => ?_
 replace hS := hS.below hb
 clear H hb
 obtain ⟨ho3, hm⟩ := chkE hm
 refine s_reg [(vS (gi l_ at_).Long.Name)] [0, 1, 2, 8] [(0, [], vL g_l_ l_), (1, [], vI at_), (2, [], vS word), (8, [], vS (gi l_ at_).Long.Name)] [fun _ => oka g_l_.a ∧ 0 ≤ at_ ∧ at_ < ln l_, fun wz => V.at1 ⟨ab g_l_.a, ao g_l_.a + (at_).toNat * 11, none⟩ (vS (gi l_ at_).Long.Name) wz] H2 (by kernel_rfl) ⟨((hS.im 0 rfl).oki ho3), ((hS.im 0 rfl).at1 ho3 0 rfl), trivial⟩ fun _ _ H5 hb => ?_
 replace hS := hS.below hb
 clear H2 hb
 refine w_seq ?_
 refine s_reg [] [0, 1, 2, 8, 15] [(0, [], vL g_l_ l_), (1, [], vI at_), (2, [], vS word), (8, [], vS (gi l_ at_).Long.Name), (15, [], vS word)] [] H5 (by kernel_rfl) trivial fun _ _ H7 hb => ?_
 replace hS := hS.below hb
 clear H5 hb
 refine w_block ?_
 refine s_reg [] [0, 1, 2, 8, 15, 16] [(0, [], vL g_l_ l_), (1, [], vI at_), (2, [], vS word), (8, [], vS (gi l_ at_).Long.Name), (15, [], vS word), (16, [], vB (word == [114, 101, 118, 101, 114, 116]))] [] H7 (by kernel_rfl) trivial fun _ _ H9 hb => ?_
 replace hS := hS.below hb
 clear H7 hb
 refine w_if H9 rfl (fun hc => ?c21) (fun hc => ?_)
 case c21 =>
  replace hm := bT hc hm
  obtain ⟨y10, hy10, hm⟩ := bindE hm
  refine s_reg [(vU ((gi l_ at_).Origin)), (vW [vI y10.1, vS y10.2])] [6, 7] [(6, [], vI y10.1), (7, [], vS y10.2)] [fun _ => oka g_l_.a ∧ 0 ≤ at_ ∧ at_ < ln l_, fun wz => V.at1 ⟨ab g_l_.a, ao g_l_.a + (at_).toNat * 11 + 4, none⟩ (vU ((gi l_ at_).Origin)) wz, rB 26 [vL g_l_ l_, vU ((gi l_ at_).Origin), vS (gi l_ at_).Long.Name] (vW [vI y10.1, vS y10.2])] H9 (by kernel_rfl) ⟨((hS.im 0 rfl).oki ho3), ((hS.im 0 rfl).at1 ho3 4 rfl), (retB_of (s0im (s0im s0nil (hS.im 1 rfl)) (hS.im 0 rfl)) (Tryz.call26 _) (fun w' h' => hrec_wide_decide (g_l_) F0 _ _ _ _ hy10 w' h')), trivial⟩ fun _ _ H12 hb => ?_
  replace hS := hS.below hb
  clear H9 hb
  replace hS : SH M X w [gE0] _ := hS.sel [1] rfl
  refine w_ret ?_
  obtain rfl := someE hm
  exact retR2 H12 rfl rfl rfl ⟨_, rfl, rfl, (hS.sel [] rfl)⟩
 replace hm := bF hc hm
 refine s_reg [] [2, 8, 28] [(2, [], vS word), (8, [], vS (gi l_ at_).Long.Name), (28, [], vB (word == [117, 110, 115, 101, 116]))] [] H9 (by kernel_rfl) trivial fun _ _ H14 hb => ?_
 replace hS := hS.below hb
 clear H9 hb
 replace hS : SH M X w [gE0] _ := hS.sel [1] rfl
 refine w_if H14 rfl (fun hc => ?_) (fun hc => ?c20)
 case c20 =>
  replace hm := bF hc hm
  refine w_skip ?_
  refine s_reg [] [6, 7] [(6, [], vI (-1)), (7, [], vS word)] [] H14 (by kernel_rfl) trivial fun _ _ H19 hb => ?_
  replace hS := hS.below hb
  clear H14 hb
  refine w_ret ?_
  obtain rfl := someE hm
  exact retR2 H19 rfl rfl rfl ⟨_, rfl, rfl, (hS.sel [] rfl)⟩
 replace hm := bT hc hm
 obtain ⟨y15, hy15, hm⟩ := bindE hm
 refine s_reg [(vS y15)] [6, 7] [(6, [], vI (-1)), (7, [], vS y15)] [rB 48 [vS (gi l_ at_).Long.Name] (vS y15)] H14 (by kernel_rfl) ⟨(wide_unset_ok m _ _ hy15 _ (s0im s0nil (hS.im 0 rfl))), trivial⟩ fun _ _ H17 hb => ?_
 replace hS := hS.below hb
 clear H14 hb
 refine w_ret ?_
 obtain rfl := someE hm
 exact retR2 H17 rfl rfl rfl ⟨_, rfl, rfl, (hS.sel [] rfl)⟩
theorem wide_mean_2_ok {g_l_ : Gh} (m : Nat) (rec_wide_decide : (List TDeclared) → Int → Str → Option (Int × Str)) (hrec_wide_decide : wide_decide_S rec_wide_decide) (l_ : List TDeclared) (at_ : Int) (word : Str) (r : Int × Str) (hm : wide_mean_2 m rec_wide_decide l_ at_ word = some r) (w : World) (hL : S0 F0 [eI tyDeclared l_ g_l_, gE0] w ∧ fpl [eI tyDeclared l_ g_l_, gE0] = []) : RetB Tryz.prog 31 ⟨[vL g_l_ l_, vI at_, vS word]⟩ (vW [vI r.1, vS r.2]) w := retB_of hL (Tryz.call31 _) (fun w' h => wide_mean_2_w F0 m rec_wide_decide hrec_wide_decide l_ at_ word r hm w' h)
theorem wide_decide_w (m : Nat) : ∀ (k : Nat), wide_decide_S (wide_decide_r m  k) := by
 intro k
 induction k with
 | zero => intro g_l_ M l_ below name_ r hm; exact noneE hm
 | succ k ih =>
  intro g_l_ M l_ below name_ r hm w hS
  rw [wide_decide_r] at hm
  have hS0 : SH M (fpl [eI tyDeclared l_ g_l_, gE0]) w [eI tyDeclared l_ g_l_, gE0] w := hS
  generalize hX : fpl [eI tyDeclared l_ g_l_, gE0] = X at hS0 ⊢
  clear hS hX
  have hS := hS0
  clear hS0
  refine calls_entryM Tryz.func26 rfl Tryz.ntmps26 rfl fun _ H => ?_
  refine w_seq ?_
  refine wl_start ?_
  have hd := hS.hand [] [0, 1] rfl rfl
  refine m_stp [3, 1, 2] [(1, [], vU below), (2, [], vS name_)] H rfl rfl rfl rfl (o_box [vL g_l_ l_] H hd rfl rfl) (fun _ => rfl) fun _ _ v H3 hq => ?_
  clear H hd
  obtain ⟨b1, rfl, hq⟩ := hq
  replace hS : SH M X w [eB b1 [vL g_l_ l_], eI tyDeclared l_ g_l_, gE0] _ := hS.join [] [0, 1] rfl rfl hq
  clear hq
  have hd := hS.hand [] [0, 1, 2] rfl rfl
  refine m_stp [4, 2, 3] [(2, [], vS name_), (3, [], vP b1)] H3 rfl rfl rfl rfl (o_box [vU below] H3 hd rfl rfl) (fun _ => rfl) fun _ _ v H6 hq => ?_
  clear H3 hd
  obtain ⟨b4, rfl, hq⟩ := hq
  replace hS : SH M X w [eB b4 [vU below], eB b1 [vL g_l_ l_], eI tyDeclared l_ g_l_, gE0] _ := hS.join [] [0, 1, 2] rfl rfl hq
  clear hq
  have hd := hS.hand [] [0, 1, 2, 3] rfl rfl
  refine m_stp [5, 3, 4] [(3, [], vP b1), (4, [], vP b4)] H6 rfl rfl rfl rfl (o_box [vS name_] H6 hd rfl rfl) (fun _ => rfl) fun _ _ v H9 hq => ?_
  clear H6 hd
  obtain ⟨b7, rfl, hq⟩ := hq
  replace hS : SH M X w [eB b7 [vS name_], eB b4 [vU below], eB b1 [vL g_l_ l_], eI tyDeclared l_ g_l_, gE0] _ := hS.join [] [0, 1, 2, 3] rfl rfl hq
  clear hq
  have hd := hS.hand [] [0, 1, 2, 3, 4] rfl rfl
  refine m_stp [6, 3, 4, 5] [(3, [], vP b1), (4, [], vP b4), (5, [], vP b7)] H9 rfl rfl rfl rfl (o_alloc [vI 0] (z := vI 0) hd (by kernel_rfl) rfl) (fun _ => rfl) fun _ _ v H12 hq => ?_
  clear H9 hd
  obtain ⟨b10, rfl, hq⟩ := hq
  replace hS : SH M X w [eB b10 [vI 0], eB b7 [vS name_], eB b4 [vU below], eB b1 [vL g_l_ l_], eI tyDeclared l_ g_l_, gE0] _ := hS.join [] [0, 1, 2, 3, 4] rfl rfl hq
  clear hq
  have hd := hS.hand [] [0, 1, 2, 3, 4, 5] rfl rfl
  refine m_stp [7, 3, 4, 5, 6] [(3, [], vP b1), (4, [], vP b4), (5, [], vP b7), (6, [], vP b10)] H12 rfl rfl rfl rfl (o_alloc [vN] (z := vN) hd (by kernel_rfl) rfl) (fun _ => rfl) fun _ _ v H15 hq => ?_
  clear H12 hd
  obtain ⟨b13, rfl, hq⟩ := hq
  replace hS : SH M X w [eB b13 [vN], eB b10 [vI 0], eB b7 [vS name_], eB b4 [vU below], eB b1 [vL g_l_ l_], eI tyDeclared l_ g_l_, gE0] _ := hS.join [] [0, 1, 2, 3, 4, 5] rfl rfl hq
  clear hq
  refine wl_end rfl ?_
  refine w_seq ?_
  refine w_seq ?_
  refine wl_start ?_
  refine wl_batch 0 1 [(vL g_l_ l_)] [3, 4, 5, 6, 7, 11] [(3, [], vP b1), (4, [], vP b4), (5, [], vP b7), (6, [], vP b10), (7, [], vP b13), (11, [], vL g_l_ l_)] [rA b1 0 (vL g_l_ l_)] H15 (by decide) (by kernel_rfl) ⟨((hS.bk 4 rfl).at1 rfl), trivial⟩ fun _ _ H17 hb => ?_
  replace hS := hS.below hb
  clear H15 hb
  obtain ⟨y18, hy18, hm⟩ := letE hm
  have hd := hS.hand [5] [0, 1, 2, 3, 4, 5, 6] rfl rfl
  refine m_stp [12, 3, 4, 5, 6, 7] [(3, [], vP b1), (4, [], vP b4), (5, [], vP b7), (6, [], vP b10), (7, [], vP b13)] H17 rfl rfl rfl rfl (o_callx H17 rfl rfl (slices_Backward_api_Declared_api_Declared_ok (g_s := g_l_) _ _ hy18.symm _ _ hd)) (fun _ => rfl) fun _ _ v H23 hq => ?_
  clear H17 hd
  obtain ⟨b19, g20, rfl, hq⟩ := hq
  replace hS : SH M X w [eB b19 [vL g20 y18], eI tyDeclared y18 g20, eB b13 [vN], eB b10 [vI 0], eB b7 [vS name_], eB b4 [vU below], eB b1 [vL g_l_ l_], eI tyDeclared l_ g_l_, gE0] _ := hS.join [5] [0, 1, 2, 3, 4, 5, 6] rfl rfl hq
  clear hq
  refine wl_end rfl ?_
  refine w_block ?_
  replace hS : SH M X w [Ent.ro b19 [vL g20 y18], eI tyDeclared y18 g20, eB b13 [vN], eB b10 [vI 0], eB b7 [vS name_], eB b4 [vU below], eB b1 [vL g_l_ l_], eI tyDeclared l_ g_l_, gE0] _ := SH.ro1 (hS.sel [0, 1, 2, 3, 4, 5, 6, 7, 8] rfl)
  obtain ⟨ho25, hm⟩ := chkE hm
  refine w_range (fr := [(3, [], vP b1), (4, [], vP b4), (5, [], vP b7), (6, [], vP b10), (7, [], vP b13), (12, [], .func (.func 73) ⟨[]⟩ ⟨[vP b19]⟩)]) (fun kR _ => ∃ kk, wide_decide_L1 m l_ below name_ y18 (wide_decide_r m k) kk (((y18).length : Int) - 1 - (kR : Int)) = some r) (fun (_ : Unit) => [Ent.ro b19 [vL g20 y18], eI tyDeclared y18 g20, eB b13 [vN], eB b10 [vI 0], eB b7 [vS name_], eB b4 [vU below], eB b1 [vL g_l_ l_], eI tyDeclared l_ g_l_, gE0]) (fun (yR : Int × Str) => yR = r) (fun yR => [eB b10 [vI yR.1], eB b13 [vS yR.2]]) (fun kR => [(13, [], vI (((y18).length : Int) - 1 - (kR : Int))), (14, [], vG [vS ((gi y18 (((y18).length : Int) - 1 - (kR : Int))).Long.Name), .slice (g20.s ((((y18).length : Int) - 1 - (kR : Int))).toNat 0).a (((gi y18 (((y18).length : Int) - 1 - (kR : Int))).Long.Value).length) (g20.s ((((y18).length : Int) - 1 - (kR : Int))).toNat 0).c, vS ((gi y18 (((y18).length : Int) - 1 - (kR : Int))).Long.Whole), vB ((gi y18 (((y18).length : Int) - 1 - (kR : Int))).Important), vU ((gi y18 (((y18).length : Int) - 1 - (kR : Int))).Origin), vB ((gi y18 (((y18).length : Int) - 1 - (kR : Int))).Attached), vI ((gi y18 (((y18).length : Int) - 1 - (kR : Int))).Layer), vI ((gi y18 (((y18).length : Int) - 1 - (kR : Int))).Weight.e0), vI ((gi y18 (((y18).length : Int) - 1 - (kR : Int))).Weight.e1), vI ((gi y18 (((y18).length : Int) - 1 - (kR : Int))).Weight.e2), vI ((gi y18 (((y18).length : Int) - 1 - (kR : Int))).Order)]), (3, [], vP b1), (4, [], vP b4), (5, [], vP b7), (6, [], vP b10), (7, [], vP b13), (12, [], .func (.func 73) ⟨[]⟩ ⟨[vP b19]⟩)]) (fun kR _ (dR : Nat) => [(3, [], vP b1), (4, [], vP b4), (5, [], vP b7), (6, [], vP b10), (7, [], vP b13), (8, [], vI (((y18).length : Int) - 1 - (kR : Int))), (9, [], vP dR)]) (fun kR _ dR => [eB dR [vS ((gi y18 (((y18).length : Int) - 1 - (kR : Int))).Long.Name), .slice (g20.s ((((y18).length : Int) - 1 - (kR : Int))).toNat 0).a (((gi y18 (((y18).length : Int) - 1 - (kR : Int))).Long.Value).length) (g20.s ((((y18).length : Int) - 1 - (kR : Int))).toNat 0).c, vS ((gi y18 (((y18).length : Int) - 1 - (kR : Int))).Long.Whole), vB ((gi y18 (((y18).length : Int) - 1 - (kR : Int))).Important), vU ((gi y18 (((y18).length : Int) - 1 - (kR : Int))).Origin), vB ((gi y18 (((y18).length : Int) - 1 - (kR : Int))).Attached), vI ((gi y18 (((y18).length : Int) - 1 - (kR : Int))).Layer), vI ((gi y18 (((y18).length : Int) - 1 - (kR : Int))).Weight.e0), vI ((gi y18 (((y18).length : Int) - 1 - (kR : Int))).Weight.e1), vI ((gi y18 (((y18).length : Int) - 1 - (kR : Int))).Weight.e2), vI ((gi y18 (((y18).length : Int) - 1 - (kR : Int))).Order)], Ent.ro b19 [vL g20 y18], eI tyDeclared y18 g20, eB b13 [vN], eB b10 [vI 0], eB b7 [vS name_], eB b4 [vU below], eB b1 [vL g_l_ l_], eI tyDeclared l_ g_l_, gE0]) 73 [vP b19] (fun kR => [vI (((y18).length : Int) - 1 - (kR : Int)), vG [vS ((gi y18 (((y18).length : Int) - 1 - (kR : Int))).Long.Name), .slice (g20.s ((((y18).length : Int) - 1 - (kR : Int))).toNat 0).a (((gi y18 (((y18).length : Int) - 1 - (kR : Int))).Long.Value).length) (g20.s ((((y18).length : Int) - 1 - (kR : Int))).toNat 0).c, vS ((gi y18 (((y18).length : Int) - 1 - (kR : Int))).Long.Whole), vB ((gi y18 (((y18).length : Int) - 1 - (kR : Int))).Important), vU ((gi y18 (((y18).length : Int) - 1 - (kR : Int))).Origin), vB ((gi y18 (((y18).length : Int) - 1 - (kR : Int))).Attached), vI ((gi y18 (((y18).length : Int) - 1 - (kR : Int))).Layer), vI ((gi y18 (((y18).length : Int) - 1 - (kR : Int))).Weight.e0), vI ((gi y18 (((y18).length : Int) - 1 - (kR : Int))).Weight.e1), vI ((gi y18 (((y18).length : Int) - 1 - (kR : Int))).Weight.e2), vI ((gi y18 (((y18).length : Int) - 1 - (kR : Int))).Order)]]) (y18).length (fun W => Blk W b19 [.slice g20.a (y18).length g20.c] ∧ SlG tyDeclared F0 W y18 g20) (FrG.keep (ks := [3, 4, 5, 6, 7, 12]) H23 (by kernel_rfl)) (by kernel_rfl) (fun args => Tryz.call73 args) () ⟨m, ?h0_1⟩ hS (fun _ => ⟨nc_ro _ _, ⟨nc_im nc_tyDeclared _ _, ⟨nc_blk _ _, ⟨nc_blk _ _, ⟨nc_blk _ _, ⟨nc_blk _ _, ⟨nc_blk _ _, ⟨nc_im nc_tyDeclared _ _, ⟨nc_im (nc_I _) _ _, trivial⟩⟩⟩⟩⟩⟩⟩⟩⟩) (fun _ _ _ => ⟨nc_blk _ _, ⟨nc_ro _ _, ⟨nc_im nc_tyDeclared _ _, ⟨nc_blk _ _, ⟨nc_blk _ _, ⟨nc_blk _ _, ⟨nc_blk _ _, ⟨nc_blk _ _, ⟨nc_im nc_tyDeclared _ _, ⟨nc_im (nc_I _) _ _, trivial⟩⟩⟩⟩⟩⟩⟩⟩⟩⟩) (fun _ => ⟨nc_blk _ _, ⟨nc_blk _ _, trivial⟩⟩) (seq73 y18 g20 b19 _ ho25) (fun _ => rfl) (fun _ _ hS => ⟨hS.ro 0 rfl, (hS.im 1 rfl).f0⟩) (fun _ _ _ hd ht => fr_two (l := [(3, [], vP b1), (4, [], vP b4), (5, [], vP b7), (6, [], vP b10), (7, [], vP b13), (12, [], .func (.func 73) ⟨[]⟩ ⟨[vP b19]⟩)]) (FrG.keep (ks := [3, 4, 5, 6, 7, 12]) H23 (by kernel_rfl)) (by kernel_rfl) (by kernel_rfl) (by kernel_rfl) (by kernel_rfl) hd (ht.trans (zip_two _))) ?ha_1 ?hb_1 ?hn_1 ?hr_1
  case h0_1 => rw [show ((y18).length : Int) - 1 - ((0 : Nat) : Int) = ((y18).length : Int) - 1 from by omega]; exact hm
  case ha_1 =>
   intro lR kR _ wR aR hk _ H hS
   obtain ⟨v24, hvi⟩ : ∃ v, v = ((y18).length : Int) - 1 - (kR : Int) := ⟨_, rfl⟩
   have hix : 0 ≤ v24 ∧ v24 < ln y18 := by unfold ln; omega
   replace H : Fr 45 [(13, [], vI v24), (14, [], vG [vS (gi y18 v24).Long.Name, .slice (g20.s (v24).toNat 0).a (((gi y18 v24).Long.Value).length) (g20.s (v24).toNat 0).c, vS (gi y18 v24).Long.Whole, vB ((gi y18 v24).Important), vU ((gi y18 v24).Origin), vB ((gi y18 v24).Attached), vI ((gi y18 v24).Layer), vI ((gi y18 v24).Weight.e0), vI ((gi y18 v24).Weight.e1), vI ((gi y18 v24).Weight.e2), vI ((gi y18 v24).Order)]), (3, [], vP b1), (4, [], vP b4), (5, [], vP b7), (6, [], vP b10), (7, [], vP b13), (12, [], .func (.func 73) ⟨[]⟩ ⟨[vP b19]⟩)] aR := by subst hvi; exact H
   replace hS : SH M (fpl [Ent.ro b19 [vL g20 y18], eI tyDeclared y18 g20, eB b13 [vN], eB b10 [vI 0], eB b7 [vS name_], eB b4 [vU below], eB b1 [vL g_l_ l_], eI tyDeclared l_ g_l_, gE0]) wR [Ent.ro b19 [vL g20 y18], eI tyDeclared y18 g20, eB b13 [vN], eB b10 [vI 0], eB b7 [vS name_], eB b4 [vU below], eB b1 [vL g_l_ l_], eI tyDeclared l_ g_l_, gE0] wR := hS
   show Code.wpIn _ _ _ _ (Qs (fun a1 W1 => ∃ dR : Nat, Fr 45 [(3, [], vP b1), (4, [], vP b4), (5, [], vP b7), (6, [], vP b10), (7, [], vP b13), (8, [], vI (((y18).length : Int) - 1 - (kR : Int))), (9, [], vP dR)] a1 ∧ SH M (fpl [Ent.ro b19 [vL g20 y18], eI tyDeclared y18 g20, eB b13 [vN], eB b10 [vI 0], eB b7 [vS name_], eB b4 [vU below], eB b1 [vL g_l_ l_], eI tyDeclared l_ g_l_, gE0]) wR [eB dR [vS ((gi y18 (((y18).length : Int) - 1 - (kR : Int))).Long.Name), .slice (g20.s ((((y18).length : Int) - 1 - (kR : Int))).toNat 0).a (((gi y18 (((y18).length : Int) - 1 - (kR : Int))).Long.Value).length) (g20.s ((((y18).length : Int) - 1 - (kR : Int))).toNat 0).c, vS ((gi y18 (((y18).length : Int) - 1 - (kR : Int))).Long.Whole), vB ((gi y18 (((y18).length : Int) - 1 - (kR : Int))).Important), vU ((gi y18 (((y18).length : Int) - 1 - (kR : Int))).Origin), vB ((gi y18 (((y18).length : Int) - 1 - (kR : Int))).Attached), vI ((gi y18 (((y18).length : Int) - 1 - (kR : Int))).Layer), vI ((gi y18 (((y18).length : Int) - 1 - (kR : Int))).Weight.e0), vI ((gi y18 (((y18).length : Int) - 1 - (kR : Int))).Weight.e1), vI ((gi y18 (((y18).length : Int) - 1 - (kR : Int))).Weight.e2), vI ((gi y18 (((y18).length : Int) - 1 - (kR : Int))).Order)], Ent.ro b19 [vL g20 y18], eI tyDeclared y18 g20, eB b13 [vN], eB b10 [vI 0], eB b7 [vS name_], eB b4 [vU below], eB b1 [vL g_l_ l_], eI tyDeclared l_ g_l_, gE0] W1) [] _) _ _
   rw [← hvi]
   refine sr_reg [] [3, 4, 5, 6, 7, 8, 14] [(3, [], vP b1), (4, [], vP b4), (5, [], vP b7), (6, [], vP b10), (7, [], vP b13), (8, [], vI v24), (14, [], vG [vS (gi y18 v24).Long.Name, .slice (g20.s (v24).toNat 0).a (((gi y18 v24).Long.Value).length) (g20.s (v24).toNat 0).c, vS (gi y18 v24).Long.Whole, vB ((gi y18 v24).Important), vU ((gi y18 v24).Origin), vB ((gi y18 v24).Attached), vI ((gi y18 v24).Layer), vI ((gi y18 v24).Weight.e0), vI ((gi y18 v24).Weight.e1), vI ((gi y18 v24).Weight.e2), vI ((gi y18 v24).Order)])] [] H (by kernel_rfl) (by kernel_rfl) trivial fun _ _ H27 hb => ?_
   replace hS := hS.below hb
   clear H hb
   refine rl_start (by kernel_rfl) ?_
   have hd := hS.hand [] [0, 1, 2, 3, 4, 5, 6, 7, 8] rfl rfl
   refine m_stp [9, 3, 4, 5, 6, 7, 8, 14] [(3, [], vP b1), (4, [], vP b4), (5, [], vP b7), (6, [], vP b10), (7, [], vP b13), (8, [], vI v24), (14, [], vG [vS (gi y18 v24).Long.Name, .slice (g20.s (v24).toNat 0).a (((gi y18 v24).Long.Value).length) (g20.s (v24).toNat 0).c, vS (gi y18 v24).Long.Whole, vB ((gi y18 v24).Important), vU ((gi y18 v24).Origin), vB ((gi y18 v24).Attached), vI ((gi y18 v24).Layer), vI ((gi y18 v24).Weight.e0), vI ((gi y18 v24).Weight.e1), vI ((gi y18 v24).Weight.e2), vI ((gi y18 v24).Order)])] H27 rfl rfl rfl rfl (o_alloc [vN, vO, vN, vF, vU 0, vF, vI 0, vI 0, vI 0, vI 0, vI 0] (z := vG [vN, vO, vN, vF, vU 0, vF, vI 0, vI 0, vI 0, vI 0, vI 0]) hd (by kernel_rfl) rfl) (fun _ => rfl) fun _ _ v H30 hq => ?_
   clear H27 hd
   obtain ⟨b28, rfl, hq⟩ := hq
   replace hS : SH M (fpl [Ent.ro b19 [vL g20 y18], eI tyDeclared y18 g20, eB b13 [vN], eB b10 [vI 0], eB b7 [vS name_], eB b4 [vU below], eB b1 [vL g_l_ l_], eI tyDeclared l_ g_l_, gE0]) wR [eB b28 [vN, vO, vN, vF, vU 0, vF, vI 0, vI 0, vI 0, vI 0, vI 0], Ent.ro b19 [vL g20 y18], eI tyDeclared y18 g20, eB b13 [vN], eB b10 [vI 0], eB b7 [vS name_], eB b4 [vU below], eB b1 [vL g_l_ l_], eI tyDeclared l_ g_l_, gE0] _ := hS.join [] [0, 1, 2, 3, 4, 5, 6, 7, 8] rfl rfl hq
   clear hq
   have hd := hS.hand [0] [1, 2, 3, 4, 5, 6, 7, 8, 9] rfl rfl
   refine m_stp0 [3, 4, 5, 6, 7, 8, 9] [(3, [], vP b1), (4, [], vP b4), (5, [], vP b7), (6, [], vP b10), (7, [], vP b13), (8, [], vI v24), (9, [], vP b28)] H30 rfl rfl rfl (o_store [vS (gi y18 v24).Long.Name, .slice (g20.s (v24).toNat 0).a (((gi y18 v24).Long.Value).length) (g20.s (v24).toNat 0).c, vS (gi y18 v24).Long.Whole, vB ((gi y18 v24).Important), vU ((gi y18 v24).Origin), vB ((gi y18 v24).Attached), vI ((gi y18 v24).Layer), vI ((gi y18 v24).Weight.e0), vI ((gi y18 v24).Weight.e1), vI ((gi y18 v24).Weight.e2), vI ((gi y18 v24).Order)] H30 hd rfl rfl (by kernel_rfl) rfl rfl rfl) rfl fun _ _ H32 hq => ?_
   clear H30 hd
   obtain ⟨_, hq⟩ := hq
   replace hS : SH M (fpl [Ent.ro b19 [vL g20 y18], eI tyDeclared y18 g20, eB b13 [vN], eB b10 [vI 0], eB b7 [vS name_], eB b4 [vU below], eB b1 [vL g_l_ l_], eI tyDeclared l_ g_l_, gE0]) wR [eB b28 [vS (gi y18 v24).Long.Name, .slice (g20.s (v24).toNat 0).a (((gi y18 v24).Long.Value).length) (g20.s (v24).toNat 0).c, vS (gi y18 v24).Long.Whole, vB ((gi y18 v24).Important), vU ((gi y18 v24).Origin), vB ((gi y18 v24).Attached), vI ((gi y18 v24).Layer), vI ((gi y18 v24).Weight.e0), vI ((gi y18 v24).Weight.e1), vI ((gi y18 v24).Weight.e2), vI ((gi y18 v24).Order)], Ent.ro b19 [vL g20 y18], eI tyDeclared y18 g20, eB b13 [vN], eB b10 [vI 0], eB b7 [vS name_], eB b4 [vU below], eB b1 [vL g_l_ l_], eI tyDeclared l_ g_l_, gE0] _ := hS.join [0] [1, 2, 3, 4, 5, 6, 7, 8, 9] rfl rfl hq
   clear hq
   refine wl_end rfl ?_
   exact ⟨b28, FrG.keep (ks := [3, 4, 5, 6, 7, 8, 9]) H32 (by kernel_rfl), hS⟩
  case hb_1 =>
   intro lR kR _ dR wR aR hk hC H hS
   obtain ⟨kk, hm⟩ := hC
   obtain ⟨b28, hdR⟩ : ∃ x, x = dR := ⟨_, rfl⟩
   rw [← hdR] at H hS ⊢
   obtain ⟨v24, hvi⟩ : ∃ v, v = ((y18).length : Int) - 1 - (kR : Int) := ⟨_, rfl⟩
   have hix : 0 ≤ v24 ∧ v24 < ln y18 := by unfold ln; omega
   replace H : Fr 45 [(3, [], vP b1), (4, [], vP b4), (5, [], vP b7), (6, [], vP b10), (7, [], vP b13), (8, [], vI v24), (9, [], vP b28)] aR := by subst hvi; exact H
   replace hS : SH M (fpl [eB b28 [vS (gi y18 v24).Long.Name, .slice (g20.s (v24).toNat 0).a (((gi y18 v24).Long.Value).length) (g20.s (v24).toNat 0).c, vS (gi y18 v24).Long.Whole, vB ((gi y18 v24).Important), vU ((gi y18 v24).Origin), vB ((gi y18 v24).Attached), vI ((gi y18 v24).Layer), vI ((gi y18 v24).Weight.e0), vI ((gi y18 v24).Weight.e1), vI ((gi y18 v24).Weight.e2), vI ((gi y18 v24).Order)], Ent.ro b19 [vL g20 y18], eI tyDeclared y18 g20, eB b13 [vN], eB b10 [vI 0], eB b7 [vS name_], eB b4 [vU below], eB b1 [vL g_l_ l_], eI tyDeclared l_ g_l_, gE0]) wR [eB b28 [vS (gi y18 v24).Long.Name, .slice (g20.s (v24).toNat 0).a (((gi y18 v24).Long.Value).length) (g20.s (v24).toNat 0).c, vS (gi y18 v24).Long.Whole, vB ((gi y18 v24).Important), vU ((gi y18 v24).Origin), vB ((gi y18 v24).Attached), vI ((gi y18 v24).Layer), vI ((gi y18 v24).Weight.e0), vI ((gi y18 v24).Weight.e1), vI ((gi y18 v24).Weight.e2), vI ((gi y18 v24).Order)], Ent.ro b19 [vL g20 y18], eI tyDeclared y18 g20, eB b13 [vN], eB b10 [vI 0], eB b7 [vS name_], eB b4 [vU below], eB b1 [vL g_l_ l_], eI tyDeclared l_ g_l_, gE0] wR := by subst hvi; exact hS
   rw [← hvi] at hm
   show Code.wpIn _ _ _ _ (Qs (fun _ W1 => ∃ _ : Unit, (∃ kk, wide_decide_L1 m l_ below name_ y18 (wide_decide_r m k) kk (((y18).length : Int) - 1 - ((kR + 1 : Nat) : Int)) = some r) ∧ SH M (fpl [eB b28 [vS ((gi y18 (((y18).length : Int) - 1 - (kR : Int))).Long.Name), .slice (g20.s ((((y18).length : Int) - 1 - (kR : Int))).toNat 0).a (((gi y18 (((y18).length : Int) - 1 - (kR : Int))).Long.Value).length) (g20.s ((((y18).length : Int) - 1 - (kR : Int))).toNat 0).c, vS ((gi y18 (((y18).length : Int) - 1 - (kR : Int))).Long.Whole), vB ((gi y18 (((y18).length : Int) - 1 - (kR : Int))).Important), vU ((gi y18 (((y18).length : Int) - 1 - (kR : Int))).Origin), vB ((gi y18 (((y18).length : Int) - 1 - (kR : Int))).Attached), vI ((gi y18 (((y18).length : Int) - 1 - (kR : Int))).Layer), vI ((gi y18 (((y18).length : Int) - 1 - (kR : Int))).Weight.e0), vI ((gi y18 (((y18).length : Int) - 1 - (kR : Int))).Weight.e1), vI ((gi y18 (((y18).length : Int) - 1 - (kR : Int))).Weight.e2), vI ((gi y18 (((y18).length : Int) - 1 - (kR : Int))).Order)], Ent.ro b19 [vL g20 y18], eI tyDeclared y18 g20, eB b13 [vN], eB b10 [vI 0], eB b7 [vS name_], eB b4 [vU below], eB b1 [vL g_l_ l_], eI tyDeclared l_ g_l_, gE0]) wR [Ent.ro b19 [vL g20 y18], eI tyDeclared y18 g20, eB b13 [vN], eB b10 [vI 0], eB b7 [vS name_], eB b4 [vU below], eB b1 [vL g_l_ l_], eI tyDeclared l_ g_l_, gE0] W1) [] (fun _ W1 => ∃ yR : Int × Str, yR = r ∧ SH M (fpl [eB b28 [vS ((gi y18 (((y18).length : Int) - 1 - (kR : Int))).Long.Name), .slice (g20.s ((((y18).length : Int) - 1 - (kR : Int))).toNat 0).a (((gi y18 (((y18).length : Int) - 1 - (kR : Int))).Long.Value).length) (g20.s ((((y18).length : Int) - 1 - (kR : Int))).toNat 0).c, vS ((gi y18 (((y18).length : Int) - 1 - (kR : Int))).Long.Whole), vB ((gi y18 (((y18).length : Int) - 1 - (kR : Int))).Important), vU ((gi y18 (((y18).length : Int) - 1 - (kR : Int))).Origin), vB ((gi y18 (((y18).length : Int) - 1 - (kR : Int))).Attached), vI ((gi y18 (((y18).length : Int) - 1 - (kR : Int))).Layer), vI ((gi y18 (((y18).length : Int) - 1 - (kR : Int))).Weight.e0), vI ((gi y18 (((y18).length : Int) - 1 - (kR : Int))).Weight.e1), vI ((gi y18 (((y18).length : Int) - 1 - (kR : Int))).Weight.e2), vI ((gi y18 (((y18).length : Int) - 1 - (kR : Int))).Order)], Ent.ro b19 [vL g20 y18], eI tyDeclared y18 g20, eB b13 [vN], eB b10 [vI 0], eB b7 [vS name_], eB b4 [vU below], eB b1 [vL g_l_ l_], eI tyDeclared l_ g_l_, gE0]) wR [eB b10 [vI yR.1], eB b13 [vS yR.2]] W1)) _ _
   rw [← hvi]
   cases kk with
   | zero => exact noneE hm
   | succ kk =>
    rw [wide_decide_L1] at hm
    replace hm := bF (decide_eq_false (show ¬ v24 < 0 from by omega)) hm
    refine r_block ?_
    refine r_seq ?_
    obtain ⟨x33, hx33, hm⟩ := letE hm
    refine sr_reg [(vS (gi y18 v24).Long.Name), (vS name_), (vU ((gi y18 v24).Origin)), (vU below)] [3, 6, 7, 8, 9, 25] [(3, [], vP b1), (6, [], vP b10), (7, [], vP b13), (8, [], vI v24), (9, [], vP b28), (25, [], vB x33)] [rA b28 0 (vS (gi y18 v24).Long.Name), rA b7 0 (vS name_), fun wz => ((!(((gi y18 v24).Long.Name) == name_)) = false ∧ True → V.at1 ⟨b28, 4, none⟩ (vU ((gi y18 v24).Origin)) wz), fun wz => ((!(((gi y18 v24).Long.Name) == name_)) = false ∧ True → V.at1 ⟨b4, 0, none⟩ (vU below) wz)] H (by kernel_rfl) (by subst hx33; kernel_rfl) ⟨((hS.bk 0 rfl).at1 rfl), ((hS.bk 5 rfl).at1 rfl), fun hg => (hS.bk 0 rfl).at1 rfl, fun hg => (hS.bk 6 rfl).at1 rfl, trivial⟩ fun _ _ H35 hb => ?_
    replace hS := hS.below hb
    clear H hb
    refine r_if H35 rfl (fun hc => ?c60) (fun hc => ?_)
    case c60 =>
     replace hm := bT hc hm
     refine r_exit rfl ?_
     exact ⟨(), ⟨kk, by rw [show ((y18).length : Int) - 1 - ((kR + 1 : Nat) : Int) = v24 - 1 from by omega]; exact hm⟩, hS.sel [1, 2, 3, 4, 5, 6, 7, 8, 9] rfl⟩
    replace hm := bF hc hm
    refine r_skip ?_
    obtain ⟨z36, hz, hm_z36⟩ := bindE hm
    refine r_cut (fun a' w' => ∃ s_z36 : Unit, z36 = Sum.inr s_z36 ∧ Fr 45 [(6, [], vP b10), (7, [], vP b13), (8, [], vI v24)] a' ∧ SH M (fpl [eB b28 [vS (gi y18 v24).Long.Name, .slice (g20.s (v24).toNat 0).a (((gi y18 v24).Long.Value).length) (g20.s (v24).toNat 0).c, vS (gi y18 v24).Long.Whole, vB ((gi y18 v24).Important), vU ((gi y18 v24).Origin), vB ((gi y18 v24).Attached), vI ((gi y18 v24).Layer), vI ((gi y18 v24).Weight.e0), vI ((gi y18 v24).Weight.e1), vI ((gi y18 v24).Weight.e2), vI ((gi y18 v24).Order)], Ent.ro b19 [vL g20 y18], eI tyDeclared y18 g20, eB b13 [vN], eB b10 [vI 0], eB b7 [vS name_], eB b4 [vU below], eB b1 [vL g_l_ l_], eI tyDeclared l_ g_l_, gE0]) wR [eB b28 [vS (gi y18 v24).Long.Name, .slice (g20.s (v24).toNat 0).a (((gi y18 v24).Long.Value).length) (g20.s (v24).toNat 0).c, vS (gi y18 v24).Long.Whole, vB ((gi y18 v24).Important), vU ((gi y18 v24).Origin), vB ((gi y18 v24).Attached), vI ((gi y18 v24).Layer), vI ((gi y18 v24).Weight.e0), vI ((gi y18 v24).Weight.e1), vI ((gi y18 v24).Weight.e2), vI ((gi y18 v24).Order)], Ent.ro b19 [vL g20 y18], eI tyDeclared y18 g20, eB b13 [vN], eB b10 [vI 0], eB b7 [vS name_], eB b4 [vU below], eB b1 [vL g_l_ l_], eI tyDeclared l_ g_l_, gE0] w') ?_ ?_
    ·replace hm := hz
     refine sr_reg [(vS (gi y18 v24).Long.Whole)] [3, 6, 7, 8, 9, 29] [(3, [], vP b1), (6, [], vP b10), (7, [], vP b13), (8, [], vI v24), (9, [], vP b28), (29, [], vB (((gi y18 v24).Long.Whole) == []))] [rA b28 2 (vS (gi y18 v24).Long.Whole)] H35 (by kernel_rfl) (by kernel_rfl) ⟨((hS.bk 0 rfl).at1 rfl), trivial⟩ fun _ _ H38 hb => ?_
     replace hS := hS.below hb
     clear H35 hb
     refine r_if H38 rfl (fun hc => ?_) (fun hc => ?c52)
     case c52 =>
      replace hm := bF hc hm
      refine r_skip ?_
      obtain rfl := someE hm
      exact ⟨_, rfl, FrG.keep (ks := [6, 7, 8]) H38 (by kernel_rfl), hS⟩
     replace hm := bT hc hm
     obtain ⟨y39, hy39, hm⟩ := bindE hm
     refine sr_reg [(.slice (g20.s (v24).toNat 0).a (((gi y18 v24).Long.Value).length) (g20.s (v24).toNat 0).c), (vS y39)] [3, 6, 7, 8, 10] [(3, [], vP b1), (6, [], vP b10), (7, [], vP b13), (8, [], vI v24), (10, [], vS y39)] [fun wz => V.at1 ⟨b28, 1, none⟩ (.slice (g20.s (v24).toNat 0).a (((gi y18 v24).Long.Value).length) (g20.s (v24).toNat 0).c) wz, rB 12 [.slice (g20.s (v24).toNat 0).a (((gi y18 v24).Long.Value).length) (g20.s (v24).toNat 0).c] (vS y39)] H38 (by kernel_rfl) (by kernel_rfl) ⟨((hS.bk 0 rfl).at1 rfl), (short_Wide_ok (g_l_ := (g20.s (v24).toNat 0)) m _ _ hy39 _ (s0im s0nil (tyDeclared_i0 ((hS.im 2 rfl).el hix)))), trivial⟩ fun _ _ H41 hb => ?_
     replace hS := hS.below hb
     clear H38 hb
     refine sr_reg [] [3, 6, 7, 8, 10, 35] [(3, [], vP b1), (6, [], vP b10), (7, [], vP b13), (8, [], vI v24), (10, [], vS y39), (35, [], vB (!(y39 == [])))] [] H41 (by kernel_rfl) (by kernel_rfl) trivial fun _ _ H43 hb => ?_
     replace hS := hS.below hb
     clear H41 hb
     refine r_if H43 rfl (fun hc => ?_) (fun hc => ?c51)
     case c51 =>
      replace hm := bF hc hm
      refine r_skip ?_
      obtain rfl := someE hm
      exact ⟨_, rfl, FrG.keep (ks := [6, 7, 8]) H43 (by kernel_rfl), hS⟩
     replace hm := bT hc hm
     refine r_seq ?_
     refine rl_start (by kernel_rfl) ?_
     obtain ⟨y44, hy44, hm⟩ := bindE hm
     refine wl_batch 0 6 [(vL g_l_ l_), (vW [vI y44.1, vS y44.2])] [6, 7, 40, 41] [(6, [], vP b10), (7, [], vP b13), (40, [], vI y44.1), (41, [], vS y44.2)] [rA b1 0 (vL g_l_ l_), rB 31 [vL g_l_ l_, vI v24, vS y39] (vW [vI y44.1, vS y44.2])] H43 (by decide) (by kernel_rfl) ⟨((hS.bk 7 rfl).at1 rfl), (wide_mean_2_ok (g_l_ := g_l_) m _ ih _ _ _ _ hy44 _ (s0im (s0im s0nil (hS.im 9 rfl)) (hS.im 8 rfl))), trivial⟩ fun _ _ H46 hb => ?_
     replace hS := hS.below hb
     clear H43 hb
     have hd := hS.hand [4] [0, 1, 2, 3, 5, 6, 7, 8, 9] rfl rfl
     refine m_stp0 [6, 7, 41] [(6, [], vP b10), (7, [], vP b13), (41, [], vS y44.2)] H46 rfl rfl rfl (o_store [vI y44.1] H46 hd rfl rfl (by kernel_rfl) rfl rfl rfl) rfl fun _ _ H48 hq => ?_
     clear H46 hd
     obtain ⟨_, hq⟩ := hq
     replace hS : SH M (fpl [eB b28 [vS (gi y18 v24).Long.Name, .slice (g20.s (v24).toNat 0).a (((gi y18 v24).Long.Value).length) (g20.s (v24).toNat 0).c, vS (gi y18 v24).Long.Whole, vB ((gi y18 v24).Important), vU ((gi y18 v24).Origin), vB ((gi y18 v24).Attached), vI ((gi y18 v24).Layer), vI ((gi y18 v24).Weight.e0), vI ((gi y18 v24).Weight.e1), vI ((gi y18 v24).Weight.e2), vI ((gi y18 v24).Order)], Ent.ro b19 [vL g20 y18], eI tyDeclared y18 g20, eB b13 [vN], eB b10 [vI 0], eB b7 [vS name_], eB b4 [vU below], eB b1 [vL g_l_ l_], eI tyDeclared l_ g_l_, gE0]) wR [eB b10 [vI y44.1], eB b28 [vS (gi y18 v24).Long.Name, .slice (g20.s (v24).toNat 0).a (((gi y18 v24).Long.Value).length) (g20.s (v24).toNat 0).c, vS (gi y18 v24).Long.Whole, vB ((gi y18 v24).Important), vU ((gi y18 v24).Origin), vB ((gi y18 v24).Attached), vI ((gi y18 v24).Layer), vI ((gi y18 v24).Weight.e0), vI ((gi y18 v24).Weight.e1), vI ((gi y18 v24).Weight.e2), vI ((gi y18 v24).Order)], Ent.ro b19 [vL g20 y18], eI tyDeclared y18 g20, eB b13 [vN], eB b7 [vS name_], eB b4 [vU below], eB b1 [vL g_l_ l_], eI tyDeclared l_ g_l_, gE0] _ := hS.join [4] [0, 1, 2, 3, 5, 6, 7, 8, 9] rfl rfl hq
     clear hq
     have hd := hS.hand [4] [0, 1, 2, 3, 5, 6, 7, 8, 9] rfl rfl
     refine m_stp0 [6, 7] [(6, [], vP b10), (7, [], vP b13)] H48 rfl rfl rfl (o_store [vS y44.2] H48 hd rfl rfl (by kernel_rfl) rfl rfl rfl) rfl fun _ _ H50 hq => ?_
     clear H48 hd
     obtain ⟨_, hq⟩ := hq
     replace hS : SH M (fpl [eB b28 [vS (gi y18 v24).Long.Name, .slice (g20.s (v24).toNat 0).a (((gi y18 v24).Long.Value).length) (g20.s (v24).toNat 0).c, vS (gi y18 v24).Long.Whole, vB ((gi y18 v24).Important), vU ((gi y18 v24).Origin), vB ((gi y18 v24).Attached), vI ((gi y18 v24).Layer), vI ((gi y18 v24).Weight.e0), vI ((gi y18 v24).Weight.e1), vI ((gi y18 v24).Weight.e2), vI ((gi y18 v24).Order)], Ent.ro b19 [vL g20 y18], eI tyDeclared y18 g20, eB b13 [vN], eB b10 [vI 0], eB b7 [vS name_], eB b4 [vU below], eB b1 [vL g_l_ l_], eI tyDeclared l_ g_l_, gE0]) wR [eB b13 [vS y44.2], eB b10 [vI y44.1], eB b28 [vS (gi y18 v24).Long.Name, .slice (g20.s (v24).toNat 0).a (((gi y18 v24).Long.Value).length) (g20.s (v24).toNat 0).c, vS (gi y18 v24).Long.Whole, vB ((gi y18 v24).Important), vU ((gi y18 v24).Origin), vB ((gi y18 v24).Attached), vI ((gi y18 v24).Layer), vI ((gi y18 v24).Weight.e0), vI ((gi y18 v24).Weight.e1), vI ((gi y18 v24).Weight.e2), vI ((gi y18 v24).Order)], Ent.ro b19 [vL g20 y18], eI tyDeclared y18 g20, eB b7 [vS name_], eB b4 [vU below], eB b1 [vL g_l_ l_], eI tyDeclared l_ g_l_, gE0] _ := hS.join [4] [0, 1, 2, 3, 5, 6, 7, 8, 9] rfl rfl hq
     clear hq
     refine wl_end rfl ?_
     refine r_ret ?_
     obtain rfl := someE hm
     have hm := hm_z36
     exact ⟨(y44.1, y44.2), someE hm, hS.sel [1, 0] rfl⟩
    ·rintro _ _ ⟨s_z36, hz, H, hS⟩
     subst hz
     replace hm := sumR hm_z36
     replace hS : SH M (fpl [eB b28 [vS (gi y18 v24).Long.Name, .slice (g20.s (v24).toNat 0).a (((gi y18 v24).Long.Value).length) (g20.s (v24).toNat 0).c, vS (gi y18 v24).Long.Whole, vB ((gi y18 v24).Important), vU ((gi y18 v24).Origin), vB ((gi y18 v24).Attached), vI ((gi y18 v24).Layer), vI ((gi y18 v24).Weight.e0), vI ((gi y18 v24).Weight.e1), vI ((gi y18 v24).Weight.e2), vI ((gi y18 v24).Order)], Ent.ro b19 [vL g20 y18], eI tyDeclared y18 g20, eB b13 [vN], eB b10 [vI 0], eB b7 [vS name_], eB b4 [vU below], eB b1 [vL g_l_ l_], eI tyDeclared l_ g_l_, gE0]) wR [Ent.ro b19 [vL g20 y18], eI tyDeclared y18 g20, eB b13 [vN], eB b10 [vI 0], eB b7 [vS name_], eB b4 [vU below], eB b1 [vL g_l_ l_], eI tyDeclared l_ g_l_, gE0] _ := hS.sel [1, 2, 3, 4, 5, 6, 7, 8, 9] rfl
     refine r_seq ?_
     refine rl_start (by kernel_rfl) ?_
     refine wl_batch 0 1 [] [6, 7, 42] [(6, [], vP b10), (7, [], vP b13), (42, [], vI v24)] [] H (by decide) (by kernel_rfl) trivial fun _ _ H54 hb => ?_
     replace hS := hS.below hb
     clear H hb
     have hd := hS.hand [3] [0, 1, 2, 4, 5, 6, 7, 8] rfl rfl
     refine m_stp0 [6, 7] [(6, [], vP b10), (7, [], vP b13)] H54 rfl rfl rfl (o_store [vI v24] H54 hd rfl rfl (by kernel_rfl) rfl rfl rfl) rfl fun _ _ H56 hq => ?_
     clear H54 hd
     obtain ⟨_, hq⟩ := hq
     replace hS : SH M (fpl [eB b28 [vS (gi y18 v24).Long.Name, .slice (g20.s (v24).toNat 0).a (((gi y18 v24).Long.Value).length) (g20.s (v24).toNat 0).c, vS (gi y18 v24).Long.Whole, vB ((gi y18 v24).Important), vU ((gi y18 v24).Origin), vB ((gi y18 v24).Attached), vI ((gi y18 v24).Layer), vI ((gi y18 v24).Weight.e0), vI ((gi y18 v24).Weight.e1), vI ((gi y18 v24).Weight.e2), vI ((gi y18 v24).Order)], Ent.ro b19 [vL g20 y18], eI tyDeclared y18 g20, eB b13 [vN], eB b10 [vI 0], eB b7 [vS name_], eB b4 [vU below], eB b1 [vL g_l_ l_], eI tyDeclared l_ g_l_, gE0]) wR [eB b10 [vI v24], Ent.ro b19 [vL g20 y18], eI tyDeclared y18 g20, eB b13 [vN], eB b7 [vS name_], eB b4 [vU below], eB b1 [vL g_l_ l_], eI tyDeclared l_ g_l_, gE0] _ := hS.join [3] [0, 1, 2, 4, 5, 6, 7, 8] rfl rfl hq
     clear hq
     have hd := hS.hand [3] [0, 1, 2, 4, 5, 6, 7, 8] rfl rfl
     refine m_stp0 [6, 7] [(6, [], vP b10), (7, [], vP b13)] H56 rfl rfl rfl (o_store [vN] H56 hd rfl rfl (by kernel_rfl) rfl rfl rfl) rfl fun _ _ H58 hq => ?_
     clear H56 hd
     obtain ⟨_, hq⟩ := hq
     replace hS : SH M (fpl [eB b28 [vS (gi y18 v24).Long.Name, .slice (g20.s (v24).toNat 0).a (((gi y18 v24).Long.Value).length) (g20.s (v24).toNat 0).c, vS (gi y18 v24).Long.Whole, vB ((gi y18 v24).Important), vU ((gi y18 v24).Origin), vB ((gi y18 v24).Attached), vI ((gi y18 v24).Layer), vI ((gi y18 v24).Weight.e0), vI ((gi y18 v24).Weight.e1), vI ((gi y18 v24).Weight.e2), vI ((gi y18 v24).Order)], Ent.ro b19 [vL g20 y18], eI tyDeclared y18 g20, eB b13 [vN], eB b10 [vI 0], eB b7 [vS name_], eB b4 [vU below], eB b1 [vL g_l_ l_], eI tyDeclared l_ g_l_, gE0]) wR [eB b13 [vN], eB b10 [vI v24], Ent.ro b19 [vL g20 y18], eI tyDeclared y18 g20, eB b7 [vS name_], eB b4 [vU below], eB b1 [vL g_l_ l_], eI tyDeclared l_ g_l_, gE0] _ := hS.join [3] [0, 1, 2, 4, 5, 6, 7, 8] rfl rfl hq
     clear hq
     refine wl_end rfl ?_
     refine r_ret ?_
     exact ⟨(v24, []), someE hm, hS.sel [1, 0] rfl⟩
  case hn_1 =>
   intro _ bD61 aR wR hb_bD61 hC H hS
   obtain ⟨kk, hm⟩ := hC
   replace H : FrG [mk bD61] 45 [(3, [], vP b1), (4, [], vP b4), (5, [], vP b7), (6, [], vP b10), (7, [], vP b13), (12, [], .func (.func 73) ⟨[]⟩ ⟨[vP b19]⟩)] aR := H
   replace hS : SH M X w [Ent.obj bD61 dEnd, Ent.ro b19 [vL g20 y18], eI tyDeclared y18 g20, eB b13 [vN], eB b10 [vI 0], eB b7 [vS name_], eB b4 [vU below], eB b1 [vL g_l_ l_], eI tyDeclared l_ g_l_, gE0] wR := hS
   cases kk with
   | zero => exact noneE hm
   | succ kk =>
    rw [wide_decide_L1] at hm
    replace hm := bT (decide_eq_true (show ((y18).length : Int) - 1 - ((y18).length : Int) < 0 from by omega)) hm
    refine w_seq ?_
    refine wl_start ?_
    obtain ⟨y62, hy62, hm⟩ := bindE hm
    refine wl_batch 0 2 [(vS name_), (vS y62)] [6, 7, 44] [(6, [], vP b10), (7, [], vP b13), (44, [], vS y62)] [rA b7 0 (vS name_), rB 48 [vS name_] (vS y62)] H (by decide) (by kernel_rfl) ⟨((hS.bk 5 rfl).at1 rfl), (wide_unset_ok m _ _ hy62 _ (s0im s0nil (hS.im 9 rfl))), trivial⟩ fun _ _ H64 hb => ?_
    replace hS := hS.below hb
    clear H hb
    have hd := hS.hand [4] [0, 1, 2, 3, 5, 6, 7, 8, 9] rfl rfl
    refine m_stp0 [6, 7, 44] [(6, [], vP b10), (7, [], vP b13), (44, [], vS y62)] H64 rfl rfl rfl (o_store [vI (-1)] H64 hd rfl rfl (by kernel_rfl) rfl rfl rfl) rfl fun _ _ H66 hq => ?_
    clear H64 hd
    obtain ⟨_, hq⟩ := hq
    replace hS : SH M X w [eB b10 [vI (-1)], Ent.obj bD61 dEnd, Ent.ro b19 [vL g20 y18], eI tyDeclared y18 g20, eB b13 [vN], eB b7 [vS name_], eB b4 [vU below], eB b1 [vL g_l_ l_], eI tyDeclared l_ g_l_, gE0] _ := hS.join [4] [0, 1, 2, 3, 5, 6, 7, 8, 9] rfl rfl hq
    clear hq
    have hd := hS.hand [4] [0, 1, 2, 3, 5, 6, 7, 8, 9] rfl rfl
    refine m_stp0 [6, 7] [(6, [], vP b10), (7, [], vP b13)] H66 rfl rfl rfl (o_store [vS y62] H66 hd rfl rfl (by kernel_rfl) rfl rfl rfl) rfl fun _ _ H68 hq => ?_
    clear H66 hd
    obtain ⟨_, hq⟩ := hq
    replace hS : SH M X w [eB b13 [vS y62], eB b10 [vI (-1)], Ent.obj bD61 dEnd, Ent.ro b19 [vL g20 y18], eI tyDeclared y18 g20, eB b7 [vS name_], eB b4 [vU below], eB b1 [vL g_l_ l_], eI tyDeclared l_ g_l_, gE0] _ := hS.join [4] [0, 1, 2, 3, 5, 6, 7, 8, 9] rfl rfl hq
    clear hq
    refine wl_end rfl ?_
    replace hS : SH M X w [eB b13 [vS y62], eB b10 [vI (-1)], Ent.obj bD61 dEnd, Ent.ro b19 [vL g20 y18], eI tyDeclared y18 g20, gE0] _ := hS.sel [0, 1, 2, 3, 4, 9] rfl
    refine w_ret ?_
    obtain rfl := someE hm
    refine retM H68 hb_bD61 (hS.sel [2, 0, 1, 3, 4, 5] rfl) ⟨nc_blk _ _, ⟨nc_blk _ _, ⟨nc_ro _ _, ⟨nc_im nc_tyDeclared _ _, ⟨nc_im (nc_I _) _ _, trivial⟩⟩⟩⟩⟩ fun _ _ H hS => ?_
    replace hS : SH M X w [eB b13 [vS y62], eB b10 [vI (-1)], Ent.ro b19 [vL g20 y18], eI tyDeclared y18 g20, gE0] _ := hS
    exact retR2 H rfl (oneRes_one rfl (hS.bk 1 rfl) Tryz.underlying3 rfl) (oneRes_one rfl (hS.bk 0 rfl) Tryz.underlying9 rfl) ⟨_, rfl, rfl, (hS.sel [] rfl)⟩
  case hr_1 =>
   intro yR bD61 aR wR hb_bD61 hC H hS
   have hm : some yR = some r := congrArg some hC
   replace H : FrG [mk bD61] 45 [(3, [], vP b1), (4, [], vP b4), (5, [], vP b7), (6, [], vP b10), (7, [], vP b13), (12, [], .func (.func 73) ⟨[]⟩ ⟨[vP b19]⟩)] aR := H
   replace hS : SH M X w [Ent.obj bD61 dEnd, eB b10 [vI yR.1], eB b13 [vS yR.2]] wR := hS
   obtain rfl := someE hm
   refine retM H hb_bD61 (hS.sel [0, 1, 2] rfl) ⟨nc_blk _ _, ⟨nc_blk _ _, trivial⟩⟩ fun _ _ H hS => ?_
   replace hS : SH M X w [eB b10 [vI yR.1], eB b13 [vS yR.2]] _ := hS
   exact retR2 H rfl (oneRes_one rfl (hS.bk 0 rfl) Tryz.underlying3 rfl) (oneRes_one rfl (hS.bk 1 rfl) Tryz.underlying9 rfl) ⟨_, rfl, rfl, (hS.sel [] rfl)⟩
theorem wide_decide_ok {g_l_ : Gh} (m : Nat) (l_ : List TDeclared) (below : Int) (name_ : Str) (r : Int × Str) (hm : wide_decide m l_ below name_ = some r) (w : World) (hL : S0 F0 [eI tyDeclared l_ g_l_, gE0] w ∧ fpl [eI tyDeclared l_ g_l_, gE0] = []) : RetB Tryz.prog 26 ⟨[vL g_l_ l_, vU below, vS name_]⟩ (vW [vI r.1, vS r.2]) w := retB_of hL (Tryz.call26 _) (fun w' h => wide_decide_w m   m g_l_ F0 l_ below name_ r hm w' h)

theorem wide_Decide_w {g_l_ : Gh} (M : Av) (m : Nat) (l_ : List TDeclared) (name_ : Str) (r : Int × Str × Int) (hm : wide_Decide m l_ name_ = some r) (w : World) (hS : S0 M [eI tyDeclared l_ g_l_, gE0] w) : Calls Tryz.prog 9 ⟨[vL g_l_ l_, vS name_]⟩ w (fun e w' => ∃ v, e = .returned v ∧ v = vW [vI r.1, vS r.2.1, vI r.2.2] ∧ SH M (fpl [eI tyDeclared l_ g_l_, gE0]) w [] w') := by
 rw [wide_Decide] at hm
 have hS0 : SH M (fpl [eI tyDeclared l_ g_l_, gE0]) w [eI tyDeclared l_ g_l_, gE0] w := hS
 generalize hX : fpl [eI tyDeclared l_ g_l_, gE0] = X at hS0 ⊢
 clear hS hX
 have hS := hS0
 clear hS0
 refine calls_entryP Tryz.func9 rfl Tryz.ntmps9 rfl fun _ H => ?_
 refine s_reg [] [0, 1] [(0, [], vL g_l_ l_), (1, [], vS name_)] [] H (by kernel_rfl) trivial fun _ _ H2 hb => ?_
 replace hS := hS.below hb
 clear H hb
 refine w_seq ?_
 obtain ⟨y3, hy3, hm⟩ := bindE hm
 refine s_reg [(vI y3)] [0, 1, 7] [(0, [], vL g_l_ l_), (1, [], vS name_), (7, [], vI y3)] [rB 25 [vL g_l_ l_] (vI y3)] H2 (by kernel_rfl) ⟨(wide_asked_ok (g_l_ := g_l_) m _ _ hy3 _ (s0im (s0im s0nil (hS.im 1 rfl)) (hS.im 0 rfl))), trivial⟩ fun _ _ H5 hb => ?_
 replace hS := hS.below hb
 clear H2 hb
 refine s_reg [] [0, 1, 7, 15] [(0, [], vL g_l_ l_), (1, [], vS name_), (7, [], vI y3), (15, [], vB (y3 != 0))] [] H5 (by kernel_rfl) trivial fun _ _ H7 hb => ?_
 replace hS := hS.below hb
 clear H5 hb
 refine w_if H7 rfl (fun hc => ?c23) (fun hc => ?_)
 case c23 =>
  replace hm := bT hc hm
  refine s_reg [] [4, 5, 6] [(4, [], vI 0), (5, [], vN), (6, [], vI y3)] [] H7 (by kernel_rfl) trivial fun _ _ H9 hb => ?_
  replace hS := hS.below hb
  clear H7 hb
  replace hS : SH M X w [gE0] _ := hS.sel [1] rfl
  refine w_ret ?_
  obtain rfl := someE hm
  exact retR3 H9 rfl rfl rfl rfl ⟨_, rfl, rfl, (hS.sel [] rfl)⟩
 replace hm := bF hc hm
 refine w_skip ?_
 refine w_seq ?_
 obtain ⟨y10, hy10, hm⟩ := bindE hm
 refine s_reg [(vW [vB y10.1, vI y10.2])] [0, 1, 9] [(0, [], vL g_l_ l_), (1, [], vS name_), (9, [], vI y10.2)] [rB 16 [vS name_] (vW [vB y10.1, vI y10.2])] H7 (by kernel_rfl) ⟨(props_Inherited_ok 64 _ _ hy10 _ (s0im s0nil (hS.im 1 rfl))), trivial⟩ fun _ _ H12 hb => ?_
 replace hS := hS.below hb
 clear H7 hb
 refine s_reg [] [0, 1, 23] [(0, [], vL g_l_ l_), (1, [], vS name_), (23, [], vB (y10.2 != 0))] [] H12 (by kernel_rfl) trivial fun _ _ H14 hb => ?_
 replace hS := hS.below hb
 clear H12 hb
 refine w_if H14 rfl (fun hc => ?c22) (fun hc => ?_)
 case c22 =>
  replace hm := bT hc hm
  refine s_reg [] [4, 5, 6] [(4, [], vI 0), (5, [], vN), (6, [], vI 6)] [] H14 (by kernel_rfl) trivial fun _ _ H16 hb => ?_
  replace hS := hS.below hb
  clear H14 hb
  replace hS : SH M X w [gE0] _ := hS.sel [1] rfl
  refine w_ret ?_
  obtain rfl := someE hm
  exact retR3 H16 rfl rfl rfl rfl ⟨_, rfl, rfl, (hS.sel [] rfl)⟩
 replace hm := bF hc hm
 refine w_skip ?_
 obtain ⟨y17, hy17, hm⟩ := bindE hm
 refine s_reg [(vW [vI y17.1, vS y17.2])] [10, 11] [(10, [], vI y17.1), (11, [], vS y17.2)] [rB 26 [vL g_l_ l_, vU 4, vS name_] (vW [vI y17.1, vS y17.2])] H14 (by kernel_rfl) ⟨(wide_decide_ok (g_l_ := g_l_) m _ _ _ _ hy17 _ (s0im (s0im s0nil (hS.im 1 rfl)) (hS.im 0 rfl))), trivial⟩ fun _ _ H19 hb => ?_
 replace hS := hS.below hb
 clear H14 hb
 replace hS : SH M X w [gE0] _ := hS.sel [1] rfl
 refine s_reg [] [4, 5, 6] [(4, [], vI y17.1), (5, [], vS y17.2), (6, [], vI 0)] [] H19 (by kernel_rfl) trivial fun _ _ H21 hb => ?_
 replace hS := hS.below hb
 clear H19 hb
 refine w_ret ?_
 obtain rfl := someE hm
 exact retR3 H21 rfl rfl rfl rfl ⟨_, rfl, rfl, (hS.sel [] rfl)⟩
theorem wide_Decide_ok {g_l_ : Gh} (m : Nat) (l_ : List TDeclared) (name_ : Str) (r : Int × Str × Int) (hm : wide_Decide m l_ name_ = some r) (w : World) (hL : S0 F0 [eI tyDeclared l_ g_l_, gE0] w ∧ fpl [eI tyDeclared l_ g_l_, gE0] = []) : RetB Tryz.prog 9 ⟨[vL g_l_ l_, vS name_]⟩ (vW [vI r.1, vS r.2.1, vI r.2.2]) w := retB_of hL (Tryz.call9 _) (fun w' h => wide_Decide_w F0 m   l_ name_ r hm w' h)

theorem law31_says_w {g_l_ : Gh} (M : Av) (m : Nat) (l_ : List TDeclared) (name_ : Str) (at_ : Int) (word : Str) (r : Bool) (hm : law31_says m l_ name_ at_ word = some r) (w : World) (hS : S0 M [eI tyDeclared l_ g_l_, gE0] w) : Calls Tryz.prog 20 ⟨[vL g_l_ l_, vS name_, vI at_, vS word]⟩ w (fun e w' => ∃ v, e = .returned v ∧ v = vB r ∧ SH M (fpl [eI tyDeclared l_ g_l_, gE0]) w [] w') := by
 rw [law31_says] at hm
 have hS0 : SH M (fpl [eI tyDeclared l_ g_l_, gE0]) w [eI tyDeclared l_ g_l_, gE0] w := hS
 generalize hX : fpl [eI tyDeclared l_ g_l_, gE0] = X at hS0 ⊢
 clear hS hX
 have hS := hS0
 clear hS0
 refine calls_entryP Tryz.func20 rfl Tryz.ntmps20 rfl fun _ H => ?_
 refine s_reg [] [0, 1, 2, 3] [(0, [], vL g_l_ l_), (1, [], vS name_), (2, [], vI at_), (3, [], vS word)] [] H (by kernel_rfl) trivial fun _ _ H2 hb => ?_
 replace hS := hS.below hb
 clear H hb
 obtain ⟨y3, hy3, hm⟩ := bindE hm
 refine s_reg [(vW [vI y3.1, vS y3.2.1, vI y3.2.2])] [2, 3, 9, 10, 11] [(2, [], vI at_), (3, [], vS word), (9, [], vI y3.1), (10, [], vS y3.2.1), (11, [], vI y3.2.2)] [rB 9 [vL g_l_ l_, vS name_] (vW [vI y3.1, vS y3.2.1, vI y3.2.2])] H2 (by kernel_rfl) ⟨(wide_Decide_ok (g_l_ := g_l_) m _ _ _ hy3 _ (s0im (s0im s0nil (hS.im 1 rfl)) (hS.im 0 rfl))), trivial⟩ fun _ _ H5 hb => ?_
 replace hS := hS.below hb
 clear H2 hb
 replace hS : SH M X w [gE0] _ := hS.sel [1] rfl
 obtain ⟨x6, hx6, hm⟩ := letE hm
 refine s_reg [] [8] [(8, [], vB x6)] [] H5 (by subst hx6; kernel_rfl) trivial fun _ _ H8 hb => ?_
 replace hS := hS.below hb
 clear H5 hb
 refine w_ret ?_
 obtain rfl := someE hm
 exact retR1 H8 rfl rfl ⟨_, rfl, rfl, (hS.sel [] rfl)⟩
theorem law31_says_ok {g_l_ : Gh} (m : Nat) (l_ : List TDeclared) (name_ : Str) (at_ : Int) (word : Str) (r : Bool) (hm : law31_says m l_ name_ at_ word = some r) (w : World) (hL : S0 F0 [eI tyDeclared l_ g_l_, gE0] w ∧ fpl [eI tyDeclared l_ g_l_, gE0] = []) : RetB Tryz.prog 20 ⟨[vL g_l_ l_, vS name_, vI at_, vS word]⟩ (vB r) w := retB_of hL (Tryz.call20 _) (fun w' h => law31_says_w F0 m   l_ name_ at_ word r hm w' h)

theorem law31_alive_w  (M : Av) (m : Nat)  (r : Bool) (hm : law31_alive m = some r) (w : World) (hS : S0 M [gE0] w) : Calls Tryz.prog 6 ⟨[]⟩ w (fun e w' => ∃ v, e = .returned v ∧ v = vB r ∧ SH M (fpl [gE0]) w [] w') := by
 rw [law31_alive] at hm
 have hS0 : SH M (fpl [gE0]) w [gE0] w := hS
 generalize hX : fpl [gE0] = X at hS0 ⊢
 clear hS hX
 have hS := hS0
 clear hS0
 refine calls_entryP Tryz.func6 rfl Tryz.ntmps6 rfl fun _ H => ?_
 refine s_reg [] [] [] [] H (by kernel_rfl) trivial fun _ _ H2 hb => ?_
 replace hS := hS.below hb
 clear H hb
 refine w_seq ?_
 refine wl_start ?_
 obtain ⟨y3, hy3, hm⟩ := bindE hm
 have hd := hS.hand [] [0] rfl rfl
 refine m_stp [3] [] H2 rfl rfl rfl rfl (o_callx H2 rfl rfl (law31_of_ok m _ _ _ _ hy3 _ _ hd)) (fun _ => rfl) fun _ _ v H7 hq => ?_
 clear H2 hd
 obtain ⟨g4, rfl, hq⟩ := hq
 replace hS : SH M X w [eI tyValue y3.Long.Value g4, gE0] _ := hS.join [] [0] rfl rfl hq
 clear hq
 obtain ⟨y8, hy8, hm⟩ := bindE hm
 have hd := hS.hand [] [0, 1] rfl rfl
 refine m_stp [4, 3] [(3, [], vG [vS y3.Long.Name, vL g4 y3.Long.Value, vS y3.Long.Whole, vB y3.Important, vU y3.Origin, vB y3.Attached, vI y3.Layer, vI y3.Weight.e0, vI y3.Weight.e1, vI y3.Weight.e2, vI y3.Order])] H7 rfl rfl rfl rfl (o_callx H7 rfl rfl (law31_of_ok m _ _ _ _ hy8 _ _ hd)) (fun _ => rfl) fun _ _ v H12 hq => ?_
 clear H7 hd
 obtain ⟨g9, rfl, hq⟩ := hq
 replace hS : SH M X w [eI tyValue y8.Long.Value g9, eI tyValue y3.Long.Value g4, gE0] _ := hS.join [] [0, 1] rfl rfl hq
 clear hq
 obtain ⟨y13, hy13, hm⟩ := bindE hm
 have hd := hS.hand [] [0, 1, 2] rfl rfl
 refine m_stp [5, 3, 4] [(3, [], vG [vS y3.Long.Name, vL g4 y3.Long.Value, vS y3.Long.Whole, vB y3.Important, vU y3.Origin, vB y3.Attached, vI y3.Layer, vI y3.Weight.e0, vI y3.Weight.e1, vI y3.Weight.e2, vI y3.Order]), (4, [], vG [vS y8.Long.Name, vL g9 y8.Long.Value, vS y8.Long.Whole, vB y8.Important, vU y8.Origin, vB y8.Attached, vI y8.Layer, vI y8.Weight.e0, vI y8.Weight.e1, vI y8.Weight.e2, vI y8.Order])] H12 rfl rfl rfl rfl (o_callx H12 rfl rfl (law31_of_ok m _ _ _ _ hy13 _ _ hd)) (fun _ => rfl) fun _ _ v H17 hq => ?_
 clear H12 hd
 obtain ⟨g14, rfl, hq⟩ := hq
 replace hS : SH M X w [eI tyValue y13.Long.Value g14, eI tyValue y8.Long.Value g9, eI tyValue y3.Long.Value g4, gE0] _ := hS.join [] [0, 1, 2] rfl rfl hq
 clear hq
 have hd := hS.hand [2, 1, 0] [0, 1, 2, 3] rfl rfl
 refine m_stp [6] [] H17 rfl rfl rfl rfl (o_lit (T := tyDeclared) (E := 35) (zv := vG [vN, vO, vN, vF, vU 0, vF, vI 0, vI 0, vI 0, vI 0, vI 0]) [vS y3.Long.Name, vL g4 y3.Long.Value, vS y3.Long.Whole, vB y3.Important, vU y3.Origin, vB y3.Attached, vI y3.Layer, vI y3.Weight.e0, vI y3.Weight.e1, vI y3.Weight.e2, vI y3.Order, vS y8.Long.Name, vL g9 y8.Long.Value, vS y8.Long.Whole, vB y8.Important, vU y8.Origin, vB y8.Attached, vI y8.Layer, vI y8.Weight.e0, vI y8.Weight.e1, vI y8.Weight.e2, vI y8.Order, vS y13.Long.Name, vL g14 y13.Long.Value, vS y13.Long.Whole, vB y13.Important, vU y13.Origin, vB y13.Attached, vI y13.Layer, vI y13.Weight.e0, vI y13.Weight.e1, vI y13.Weight.e2, vI y13.Order] ([y3, y8, y13] : List TDeclared) [gL [g4], gL [g9], gL [g14]] _ H17 hd rfl (by kernel_rfl) (by kernel_rfl) (by kernel_rfl) (by kernel_rfl) (by kernel_rfl) (by kernel_rfl) (by kernel_rfl) rfl (InnL.cons (tyDeclared_mk (hd.im 0 rfl)) (InnL.cons (tyDeclared_mk (hd.im 1 rfl)) (InnL.cons (tyDeclared_mk (hd.im 2 rfl)) InnL.nil)))) (fun _ => rfl) fun _ _ v H21 hq => ?_
 clear H17 hd
 obtain ⟨g18, rfl, hq⟩ := hq
 replace hS : SH M X w [eO 35 tyDeclared ([y3, y8, y13] : List TDeclared) g18, eI tyValue y13.Long.Value g14, eI tyValue y8.Long.Value g9, eI tyValue y3.Long.Value g4, gE0] _ := hS.join [2, 1, 0] [0, 1, 2, 3] rfl rfl hq
 clear hq
 refine wl_batch 4 5 [] [1] [(1, [], .slice g18.a 3 g18.c)] [] H21 (by decide) (by kernel_rfl) trivial fun _ _ H23 hb => ?_
 replace hS := hS.below hb
 clear H21 hb
 refine wl_end rfl ?_
 replace hS : SH M X w [eO 35 tyDeclared ([y3, y8, y13] : List TDeclared) g18, gE0] _ := hS.sel [0, 4] rfl
 refine w_seq ?_
 refine wl_start ?_
 obtain ⟨y24, hy24, hm⟩ := bindE hm
 have hd := hS.hand [] [0, 1] rfl rfl
 refine m_stp [7, 1] [(1, [], .slice g18.a 3 g18.c)] H23 rfl rfl rfl rfl (o_callx H23 rfl rfl (law31_of_ok m _ _ _ _ hy24 _ _ hd)) (fun _ => rfl) fun _ _ v H28 hq => ?_
 clear H23 hd
 obtain ⟨g25, rfl, hq⟩ := hq
 replace hS : SH M X w [eI tyValue y24.Long.Value g25, eO 35 tyDeclared ([y3, y8, y13] : List TDeclared) g18, gE0] _ := hS.join [] [0, 1] rfl rfl hq
 clear hq
 obtain ⟨y29, hy29, hm⟩ := bindE hm
 have hd := hS.hand [] [0, 1, 2] rfl rfl
 refine m_stp [8, 1, 7] [(1, [], .slice g18.a 3 g18.c), (7, [], vG [vS y24.Long.Name, vL g25 y24.Long.Value, vS y24.Long.Whole, vB y24.Important, vU y24.Origin, vB y24.Attached, vI y24.Layer, vI y24.Weight.e0, vI y24.Weight.e1, vI y24.Weight.e2, vI y24.Order])] H28 rfl rfl rfl rfl (o_callx H28 rfl rfl (law31_of_ok m _ _ _ _ hy29 _ _ hd)) (fun _ => rfl) fun _ _ v H33 hq => ?_
 clear H28 hd
 obtain ⟨g30, rfl, hq⟩ := hq
 replace hS : SH M X w [eI tyValue y29.Long.Value g30, eI tyValue y24.Long.Value g25, eO 35 tyDeclared ([y3, y8, y13] : List TDeclared) g18, gE0] _ := hS.join [] [0, 1, 2] rfl rfl hq
 clear hq
 obtain ⟨y34, hy34, hm⟩ := bindE hm
 have hd := hS.hand [] [0, 1, 2, 3] rfl rfl
 refine m_stp [9, 1, 7, 8] [(1, [], .slice g18.a 3 g18.c), (7, [], vG [vS y24.Long.Name, vL g25 y24.Long.Value, vS y24.Long.Whole, vB y24.Important, vU y24.Origin, vB y24.Attached, vI y24.Layer, vI y24.Weight.e0, vI y24.Weight.e1, vI y24.Weight.e2, vI y24.Order]), (8, [], vG [vS y29.Long.Name, vL g30 y29.Long.Value, vS y29.Long.Whole, vB y29.Important, vU y29.Origin, vB y29.Attached, vI y29.Layer, vI y29.Weight.e0, vI y29.Weight.e1, vI y29.Weight.e2, vI y29.Order])] H33 rfl rfl rfl rfl (o_callx H33 rfl rfl (law31_of_ok m _ _ _ _ hy34 _ _ hd)) (fun _ => rfl) fun _ _ v H38 hq => ?_
 clear H33 hd
 obtain ⟨g35, rfl, hq⟩ := hq
 replace hS : SH M X w [eI tyValue y34.Long.Value g35, eI tyValue y29.Long.Value g30, eI tyValue y24.Long.Value g25, eO 35 tyDeclared ([y3, y8, y13] : List TDeclared) g18, gE0] _ := hS.join [] [0, 1, 2, 3] rfl rfl hq
 clear hq
 have hd := hS.hand [2, 1, 0] [0, 1, 2, 3, 4] rfl rfl
 refine m_stp [10, 1] [(1, [], .slice g18.a 3 g18.c)] H38 rfl rfl rfl rfl (o_lit (T := tyDeclared) (E := 35) (zv := vG [vN, vO, vN, vF, vU 0, vF, vI 0, vI 0, vI 0, vI 0, vI 0]) [vS y24.Long.Name, vL g25 y24.Long.Value, vS y24.Long.Whole, vB y24.Important, vU y24.Origin, vB y24.Attached, vI y24.Layer, vI y24.Weight.e0, vI y24.Weight.e1, vI y24.Weight.e2, vI y24.Order, vS y29.Long.Name, vL g30 y29.Long.Value, vS y29.Long.Whole, vB y29.Important, vU y29.Origin, vB y29.Attached, vI y29.Layer, vI y29.Weight.e0, vI y29.Weight.e1, vI y29.Weight.e2, vI y29.Order, vS y34.Long.Name, vL g35 y34.Long.Value, vS y34.Long.Whole, vB y34.Important, vU y34.Origin, vB y34.Attached, vI y34.Layer, vI y34.Weight.e0, vI y34.Weight.e1, vI y34.Weight.e2, vI y34.Order] ([y24, y29, y34] : List TDeclared) [gL [g25], gL [g30], gL [g35]] _ H38 hd rfl (by kernel_rfl) (by kernel_rfl) (by kernel_rfl) (by kernel_rfl) (by kernel_rfl) (by kernel_rfl) (by kernel_rfl) rfl (InnL.cons (tyDeclared_mk (hd.im 0 rfl)) (InnL.cons (tyDeclared_mk (hd.im 1 rfl)) (InnL.cons (tyDeclared_mk (hd.im 2 rfl)) InnL.nil)))) (fun _ => rfl) fun _ _ v H42 hq => ?_
 clear H38 hd
 obtain ⟨g39, rfl, hq⟩ := hq
 replace hS : SH M X w [eO 35 tyDeclared ([y24, y29, y34] : List TDeclared) g39, eI tyValue y34.Long.Value g35, eI tyValue y29.Long.Value g30, eI tyValue y24.Long.Value g25, eO 35 tyDeclared ([y3, y8, y13] : List TDeclared) g18, gE0] _ := hS.join [2, 1, 0] [0, 1, 2, 3, 4] rfl rfl hq
 clear hq
 refine wl_batch 4 5 [] [1, 2] [(1, [], .slice g18.a 3 g18.c), (2, [], .slice g39.a 3 g39.c)] [] H42 (by decide) (by kernel_rfl) trivial fun _ _ H44 hb => ?_
 replace hS := hS.below hb
 clear H42 hb
 refine wl_end rfl ?_
 replace hS : SH M X w [eO 35 tyDeclared ([y24, y29, y34] : List TDeclared) g39, eO 35 tyDeclared ([y3, y8, y13] : List TDeclared) g18, gE0] _ := hS.sel [0, 4, 5] rfl
 obtain ⟨y45, hy45, hm⟩ := bindE hm
 obtain ⟨y46, hy46, hm⟩ := bindE hm
 obtain ⟨y47, hy47, hm⟩ := bindE hm
 refine s_reg [(vB y45), (vB y46), (vB y47)] [0] [(0, [], vB (cond (cond y45 y46 false) y47 false))] [rB 20 [.slice g18.a 3 g18.c, vS [99, 111, 108, 111, 114], vI 0, vN] (vB y45), fun wz => (y45 = true ∧ True → RetB Tryz.prog 20 ⟨[.slice g39.a 3 g39.c, vS [99, 111, 108, 111, 114], vI (-1), vS [105, 110, 104, 101, 114, 105, 116]]⟩ (vB y46) wz), fun wz => ((cond y45 y46 false) = true ∧ True → RetB Tryz.prog 20 ⟨[.slice g18.a 3 g18.c, vS [119, 105, 100, 116, 104], vI (-1), vS [105, 110, 105, 116, 105, 97, 108]]⟩ (vB y47) wz)] H44 (by kernel_rfl) ⟨(law31_says_ok (g_l_ := g18) m _ _ _ _ _ hy45 _ (s0im (s0im s0nil (hS.im 2 rfl)) (hS.osl 1 rfl))), fun hg => law31_says_ok (g_l_ := g39) m _ _ _ _ _ (bT (hg.1) hy46) _ (s0im (s0im s0nil (hS.im 2 rfl)) (hS.osl 0 rfl)), fun hg => law31_says_ok (g_l_ := g18) m _ _ _ _ _ (bT (hg.1) hy47) _ (s0im (s0im s0nil (hS.im 2 rfl)) (hS.osl 1 rfl)), trivial⟩ fun _ _ H49 hb => ?_
 replace hS := hS.below hb
 clear H44 hb
 replace hS : SH M X w [gE0] _ := hS.sel [2] rfl
 refine w_ret ?_
 obtain rfl := someE hm
 exact retR1 H49 rfl rfl ⟨_, rfl, rfl, (hS.sel [] rfl)⟩
theorem law31_alive_ok  (m : Nat)  (r : Bool) (hm : law31_alive m = some r) (w : World) (hL : S0 F0 [gE0] w ∧ fpl [gE0] = []) : RetB Tryz.prog 6 ⟨[]⟩ (vB r) w := retB_of hL (Tryz.call6 _) (fun w' h => law31_alive_w F0 m    r hm w' h)

def r04_Size_S (rec_ : (List TValue) → Int → Option (Int)) : Prop := ∀ (g_v_ : Gh) (M : Av) (v_ : List TValue) (most : Int) (r : Int), rec_ v_ most = some r → ∀ w, S0 M [eI tyValue v_ g_v_] w → Calls Tryz.prog 22 ⟨[vL g_v_ v_, vI most]⟩ w (fun e w' => ∃ v, e = .returned v ∧ v = vI r ∧ SH M (fpl [eI tyValue v_ g_v_]) w [] w')
theorem r04_Size_w (m : Nat) : ∀ (k : Nat), r04_Size_S (r04_Size_r m  k) := by
 intro k
 induction k with
 | zero => intro g_v_ M v_ most r hm; exact noneE hm
 | succ k ih =>
  intro g_v_ M v_ most r hm w hS
  rw [r04_Size_r] at hm
  have hS0 : SH M (fpl [eI tyValue v_ g_v_]) w [eI tyValue v_ g_v_] w := hS
  generalize hX : fpl [eI tyValue v_ g_v_] = X at hS0 ⊢
  clear hS hX
  have hS := hS0
  clear hS0
  refine calls_entryP Tryz.func22 rfl Tryz.ntmps22 rfl fun _ H => ?_
  refine s_reg [] [0, 1] [(0, [], vL g_v_ v_), (1, [], vI most)] [] H (by kernel_rfl) trivial fun _ _ H2 hb => ?_
  replace hS := hS.below hb
  clear H hb
  refine s_reg [] [0, 1, 5] [(0, [], vL g_v_ v_), (1, [], vI most), (5, [], vI 0)] [] H2 (by kernel_rfl) trivial fun _ _ H4 hb => ?_
  replace hS := hS.below hb
  clear H2 hb
  obtain ⟨z5, hz, hm⟩ := bindE hm
  refine w_cut (fun a' w' => Fr 47 [(5, [], vI z5)] a' ∧ SH M X w [eI tyValue v_ g_v_] w') ?_ ?_
  ·replace hm := hz
   refine s_reg [] [0, 1, 5, 6] [(0, [], vL g_v_ v_), (1, [], vI most), (5, [], vI 0), (6, [], vI 0)] [] H4 (by kernel_rfl) trivial fun _ _ H7 hb => ?_
   replace hS := hS.below hb
   clear H4 hb
   refine w_block ?_
   refine w_loop (fun kk a' w' => ∃ (v8 : Int) (v9 : Int), r04_Size_L1 m v_ most (r04_Size_r m k) kk v8 v9 = some _ ∧ Fr 47 [(0, [], vL g_v_ v_), (1, [], vI most), (5, [], vI v8), (6, [], vI v9)] a' ∧ SH M X w [eI tyValue v_ g_v_] w') ⟨_, 0, 0, hm, FrG.keep (ks := [0, 1, 5, 6]) H7 (by kernel_rfl), hS⟩ ?_
   clear hm H7 hS
   rintro kk _ _ ⟨v8, v9, hm, H, hS⟩
   cases kk with
   | zero => exact noneE hm
   | succ kk =>
    rw [r04_Size_L1] at hm
    refine w_seq ?_
    obtain ⟨x10, hx10, hm⟩ := letE hm
    refine s_reg [] [0, 1, 5, 6, 15] [(0, [], vL g_v_ v_), (1, [], vI most), (5, [], vI v8), (6, [], vI v9), (15, [], vB x10)] [] H (by subst hx10; kernel_rfl) trivial fun _ _ H12 hb => ?_
    replace hS := hS.below hb
    clear H hb
    refine w_if H12 rfl (fun hc => ?_) (fun hc => ?c20)
    case c20 =>
     replace hm := bF hc hm
     refine w_exit rfl ?_
     obtain rfl := someE hm
     exact ⟨FrG.keep (ks := [5]) H12 (by kernel_rfl), hS⟩
    replace hm := bT hc hm
    refine w_skip ?_
    refine w_seq ?_
    refine w_block ?_
    obtain ⟨ho13, hm⟩ := chkE hm
    obtain ⟨x14, hx14, hm⟩ := letE hm
    obtain ⟨y15, hy15, hm⟩ := bindE hm
    refine w_draw [(vS (gi v_ v9).Token.Text), (vS (gi v_ v9).Token.Unit), (.slice (g_v_.s (v9).toNat 0).a (((gi v_ v9).List_).length) (g_v_.s (v9).toNat 0).c), (vI y15)] [0, 1, 5, 6] [(0, [], vL g_v_ v_), (1, [], vI most), (5, [], vI (w64 (v8 + (w64 (x14 + y15))))), (6, [], vI v9)] [fun _ => oka g_v_.a ∧ 0 ≤ v9 ∧ v9 < ln v_, fun wz => V.at1 ⟨ab g_v_.a, ao g_v_.a + (v9).toNat * 6 + 1, none⟩ (vS (gi v_ v9).Token.Text) wz, fun _ => oka g_v_.a ∧ 0 ≤ v9 ∧ v9 < ln v_, fun wz => V.at1 ⟨ab g_v_.a, ao g_v_.a + (v9).toNat * 6 + 3, none⟩ (vS (gi v_ v9).Token.Unit) wz, fun _ => oka g_v_.a ∧ 0 ≤ v9 ∧ v9 < ln v_, fun wz => V.at1 ⟨ab g_v_.a, ao g_v_.a + (v9).toNat * 6 + 5, none⟩ (.slice (g_v_.s (v9).toNat 0).a (((gi v_ v9).List_).length) (g_v_.s (v9).toNat 0).c) wz, rB 22 [.slice (g_v_.s (v9).toNat 0).a (((gi v_ v9).List_).length) (g_v_.s (v9).toNat 0).c, vI (w64 (most - v8))] (vI y15)] H12 (by kernel_rfl) (by kernel_rfl) (by subst hx14; kernel_rfl) ⟨((hS.im 0 rfl).oki ho13), ((hS.im 0 rfl).at1 ho13 1 rfl), ((hS.im 0 rfl).oki ho13), ((hS.im 0 rfl).at1 ho13 3 rfl), ((hS.im 0 rfl).oki ho13), ((hS.im 0 rfl).at1 ho13 5 rfl), (retB_of (s0im s0nil (tyValue_i0 ((hS.im 0 rfl).el ho13))) (Tryz.call22 _) (fun w' h' => ih ((g_v_.s (v9).toNat 0)) F0 _ _ _ hy15 w' h')), trivial⟩ fun _ _ H17 hb => ?_
    replace hS := hS.below hb
    clear H12 hb
    refine w_reg [] [0, 1, 5, 6] [(0, [], vL g_v_ v_), (1, [], vI most), (5, [], vI (w64 (v8 + (w64 (x14 + y15))))), (6, [], vI (w64 (v9 + 1)))] [] H17 (by kernel_rfl) trivial fun _ _ H19 hb => ?_
    replace hS := hS.below hb
    clear H17 hb
    exact ⟨_, Nat.lt_succ_self _, w64 (v8 + (w64 (x14 + y15))), w64 (v9 + 1), hm, FrG.keep (ks := [0, 1, 5, 6]) H19 (by kernel_rfl), hS⟩
  ·rintro _ _ ⟨H, hS⟩
   replace hS : SH M X w [] _ := hS.sel [] rfl
   refine s_reg [] [4] [(4, [], vI z5)] [] H (by kernel_rfl) trivial fun _ _ H23 hb => ?_
   replace hS := hS.below hb
   clear H hb
   refine w_ret ?_
   obtain rfl := someE hm
   exact retR1 H23 rfl rfl ⟨_, rfl, rfl, (hS.sel [] rfl)⟩
theorem r04_Size_ok {g_v_ : Gh} (m : Nat) (v_ : List TValue) (most : Int) (r : Int) (hm : r04_Size m v_ most = some r) (w : World) (hL : S0 F0 [eI tyValue v_ g_v_] w ∧ fpl [eI tyValue v_ g_v_] = []) : RetB Tryz.prog 22 ⟨[vL g_v_ v_, vI most]⟩ (vI r) w := retB_of hL (Tryz.call22 _) (fun w' h => r04_Size_w m   m g_v_ F0 v_ most r hm w' h)

def r04_Deep_S (rec_ : (List TValue) → Option (Int)) : Prop := ∀ (g_v_ : Gh) (M : Av) (v_ : List TValue) (r : Int), rec_ v_ = some r → ∀ w, S0 M [eI tyValue v_ g_v_] w → Calls Tryz.prog 42 ⟨[vL g_v_ v_]⟩ w (fun e w' => ∃ v, e = .returned v ∧ v = vI r ∧ SH M (fpl [eI tyValue v_ g_v_]) w [] w')
theorem r04_Deep_w (m : Nat) : ∀ (k : Nat), r04_Deep_S (r04_Deep_r m  k) := by
 intro k
 induction k with
 | zero => intro g_v_ M v_ r hm; exact noneE hm
 | succ k ih =>
  intro g_v_ M v_ r hm w hS
  rw [r04_Deep_r] at hm
  have hS0 : SH M (fpl [eI tyValue v_ g_v_]) w [eI tyValue v_ g_v_] w := hS
  generalize hX : fpl [eI tyValue v_ g_v_] = X at hS0 ⊢
  clear hS hX
  have hS := hS0
  clear hS0
  refine calls_entryP Tryz.func42 rfl Tryz.ntmps42 rfl fun _ H => ?_
  refine s_reg [] [0] [(0, [], vL g_v_ v_)] [] H (by kernel_rfl) trivial fun _ _ H2 hb => ?_
  replace hS := hS.below hb
  clear H hb
  refine s_reg [] [0, 3] [(0, [], vL g_v_ v_), (3, [], vI 0)] [] H2 (by kernel_rfl) trivial fun _ _ H4 hb => ?_
  replace hS := hS.below hb
  clear H2 hb
  obtain ⟨z5, hz, hm⟩ := bindE hm
  refine w_cut (fun a' w' => Fr 29 [(3, [], vI z5)] a' ∧ SH M X w [eI tyValue v_ g_v_] w') ?_ ?_
  ·replace hm := hz
   refine s_reg [] [0, 3, 4] [(0, [], vL g_v_ v_), (3, [], vI 0), (4, [], vI 0)] [] H4 (by kernel_rfl) trivial fun _ _ H7 hb => ?_
   replace hS := hS.below hb
   clear H4 hb
   refine w_block ?_
   refine w_loop (fun kk a' w' => ∃ (v8 : Int) (v9 : Int), r04_Deep_L1 m v_ (r04_Deep_r m k) kk v8 v9 = some _ ∧ Fr 29 [(0, [], vL g_v_ v_), (3, [], vI v8), (4, [], vI v9)] a' ∧ SH M X w [eI tyValue v_ g_v_] w') ⟨_, 0, 0, hm, FrG.keep (ks := [0, 3, 4]) H7 (by kernel_rfl), hS⟩ ?_
   clear hm H7 hS
   rintro kk _ _ ⟨v8, v9, hm, H, hS⟩
   cases kk with
   | zero => exact noneE hm
   | succ kk =>
    rw [r04_Deep_L1] at hm
    refine w_seq ?_
    refine s_reg [] [0, 3, 4, 8] [(0, [], vL g_v_ v_), (3, [], vI v8), (4, [], vI v9), (8, [], vB (decide (v9 < (ln v_))))] [] H (by kernel_rfl) trivial fun _ _ H11 hb => ?_
    replace hS := hS.below hb
    clear H hb
    refine w_if H11 rfl (fun hc => ?_) (fun hc => ?c25)
    case c25 =>
     replace hm := bF hc hm
     refine w_exit rfl ?_
     obtain rfl := someE hm
     exact ⟨FrG.keep (ks := [3]) H11 (by kernel_rfl), hS⟩
    replace hm := bT hc hm
    refine w_skip ?_
    obtain ⟨z12, hz, hm⟩ := bindE hm
    refine w_cut (fun a' w' => Fr 29 [(0, [], vL g_v_ v_), (4, [], vI v9), (3, [], vI z12)] a' ∧ SH M X w [eI tyValue v_ g_v_] w') ?_ ?_
    ·replace hm := hz
     refine w_block ?_
     obtain ⟨ho13, hm⟩ := chkE hm
     obtain ⟨x14, hx14, hm⟩ := letE hm
     refine s_reg [(vU ((gi v_ v9).Token.Kind)), (vU (r04_Closer ((gi v_ v9).Token.Kind)))] [0, 3, 4, 18] [(0, [], vL g_v_ v_), (3, [], vI v8), (4, [], vI v9), (18, [], vB x14)] [fun _ => oka g_v_.a ∧ 0 ≤ v9 ∧ v9 < ln v_, fun wz => V.at1 ⟨ab g_v_.a, ao g_v_.a + (v9).toNat * 6, none⟩ (vU ((gi v_ v9).Token.Kind)) wz, rB 66 [vU ((gi v_ v9).Token.Kind)] (vU (r04_Closer ((gi v_ v9).Token.Kind)))] H11 (by subst hx14; kernel_rfl) ⟨((hS.im 0 rfl).oki ho13), ((hS.im 0 rfl).at1 ho13 0 rfl), ((r04_Closer_ok _).b), trivial⟩ fun _ _ H16 hb => ?_
     replace hS := hS.below hb
     clear H11 hb
     refine w_if H16 rfl (fun hc => ?_) (fun hc => ?c21)
     case c21 =>
      replace hm := bF hc hm
      refine w_skip ?_
      obtain rfl := someE hm
      exact ⟨FrG.keep (ks := [0, 4, 3]) H16 (by kernel_rfl), hS⟩
     replace hm := bT hc hm
     obtain ⟨y17, hy17, hm⟩ := bindE hm
     obtain ⟨x18, hx18, hm⟩ := letE hm
     refine w_reg [(.slice (g_v_.s (v9).toNat 0).a (((gi v_ v9).List_).length) (g_v_.s (v9).toNat 0).c), (vI y17)] [0, 3, 4] [(0, [], vL g_v_ v_), (3, [], vI x18), (4, [], vI v9)] [fun _ => oka g_v_.a ∧ 0 ≤ v9 ∧ v9 < ln v_, fun wz => V.at1 ⟨ab g_v_.a, ao g_v_.a + (v9).toNat * 6 + 5, none⟩ (.slice (g_v_.s (v9).toNat 0).a (((gi v_ v9).List_).length) (g_v_.s (v9).toNat 0).c) wz, rB 42 [.slice (g_v_.s (v9).toNat 0).a (((gi v_ v9).List_).length) (g_v_.s (v9).toNat 0).c] (vI y17)] H16 (by subst hx18; kernel_rfl) ⟨((hS.im 0 rfl).oki ho13), ((hS.im 0 rfl).at1 ho13 5 rfl), (retB_of (s0im s0nil (tyValue_i0 ((hS.im 0 rfl).el ho13))) (Tryz.call42 _) (fun w' h' => ih ((g_v_.s (v9).toNat 0)) F0 _ _ hy17 w' h')), trivial⟩ fun _ _ H20 hb => ?_
     replace hS := hS.below hb
     clear H16 hb
     obtain rfl := someE hm
     exact ⟨FrG.keep (ks := [0, 4, 3]) H20 (by kernel_rfl), hS⟩
    ·rintro _ _ ⟨H, hS⟩
     refine w_reg [] [0, 3, 4] [(0, [], vL g_v_ v_), (3, [], vI z12), (4, [], vI (w64 (v9 + 1)))] [] H (by kernel_rfl) trivial fun _ _ H23 hb => ?_
     replace hS := hS.below hb
     clear H hb
     exact ⟨_, Nat.lt_succ_self _, z12, w64 (v9 + 1), hm, FrG.keep (ks := [0, 3, 4]) H23 (by kernel_rfl), hS⟩
  ·rintro _ _ ⟨H, hS⟩
   replace hS : SH M X w [] _ := hS.sel [] rfl
   refine s_reg [] [2] [(2, [], vI z5)] [] H (by kernel_rfl) trivial fun _ _ H28 hb => ?_
   replace hS := hS.below hb
   clear H hb
   refine w_ret ?_
   obtain rfl := someE hm
   exact retR1 H28 rfl rfl ⟨_, rfl, rfl, (hS.sel [] rfl)⟩
theorem r04_Deep_ok {g_v_ : Gh} (m : Nat) (v_ : List TValue) (r : Int) (hm : r04_Deep m v_ = some r) (w : World) (hL : S0 F0 [eI tyValue v_ g_v_] w ∧ fpl [eI tyValue v_ g_v_] = []) : RetB Tryz.prog 42 ⟨[vL g_v_ v_]⟩ (vI r) w := retB_of hL (Tryz.call42 _) (fun w' h => r04_Deep_w m   m g_v_ F0 v_ r hm w' h)

theorem r04_Great_w {g_v_ : Gh} (M : Av) (m : Nat) (v_ : List TValue) (r : Bool) (hm : r04_Great m v_ = some r) (w : World) (hS : S0 M [eI tyValue v_ g_v_] w) : Calls Tryz.prog 21 ⟨[vL g_v_ v_]⟩ w (fun e w' => ∃ v, e = .returned v ∧ v = vB r ∧ SH M (fpl [eI tyValue v_ g_v_]) w [] w') := by
 rw [r04_Great] at hm
 have hS0 : SH M (fpl [eI tyValue v_ g_v_]) w [eI tyValue v_ g_v_] w := hS
 generalize hX : fpl [eI tyValue v_ g_v_] = X at hS0 ⊢
 clear hS hX
 have hS := hS0
 clear hS0
 refine calls_entryP Tryz.func21 rfl Tryz.ntmps21 rfl fun _ H => ?_
 refine s_reg [] [0] [(0, [], vL g_v_ v_)] [] H (by kernel_rfl) trivial fun _ _ H2 hb => ?_
 replace hS := hS.below hb
 clear H hb
 obtain ⟨y3, hy3, hm⟩ := bindE hm
 obtain ⟨y4, hy4, hm⟩ := bindE hm
 obtain ⟨x5, hx5, hm⟩ := letE hm
 refine s_reg [(vI y3), (vI y4)] [2] [(2, [], vB x5)] [rB 22 [vL g_v_ v_, vI 300] (vI y3), fun wz => ((decide (300 < y3)) = false ∧ True → RetB Tryz.prog 42 ⟨[vL g_v_ v_]⟩ (vI y4) wz)] H2 (by subst hx5; kernel_rfl) ⟨(r04_Size_ok (g_v_ := g_v_) m _ _ _ hy3 _ (s0im s0nil (hS.im 0 rfl))), fun hg => r04_Deep_ok (g_v_ := g_v_) m _ _ (bF (hg.1) hy4) _ (s0im s0nil (hS.im 0 rfl)), trivial⟩ fun _ _ H7 hb => ?_
 replace hS := hS.below hb
 clear H2 hb
 replace hS : SH M X w [] _ := hS.sel [] rfl
 refine w_ret ?_
 obtain rfl := someE hm
 exact retR1 H7 rfl rfl ⟨_, rfl, rfl, (hS.sel [] rfl)⟩
theorem r04_Great_ok {g_v_ : Gh} (m : Nat) (v_ : List TValue) (r : Bool) (hm : r04_Great m v_ = some r) (w : World) (hL : S0 F0 [eI tyValue v_ g_v_] w ∧ fpl [eI tyValue v_ g_v_] = []) : RetB Tryz.prog 21 ⟨[vL g_v_ v_]⟩ (vB r) w := retB_of hL (Tryz.call21 _) (fun w' h => r04_Great_w F0 m   v_ r hm w' h)

theorem r29_Great_w {g_l_ : Gh} (M : Av) (m : Nat) (l_ : List TDeclared) (r : Bool) (hm : r29_Great m l_ = some r) (w : World) (hS : S0 M [eI tyDeclared l_ g_l_] w) : Calls Tryz.prog 7 ⟨[vL g_l_ l_]⟩ w (fun e w' => ∃ v, e = .returned v ∧ v = vB r ∧ SH M (fpl [eI tyDeclared l_ g_l_]) w [] w') := by
 rw [r29_Great] at hm
 have hS0 : SH M (fpl [eI tyDeclared l_ g_l_]) w [eI tyDeclared l_ g_l_] w := hS
 generalize hX : fpl [eI tyDeclared l_ g_l_] = X at hS0 ⊢
 clear hS hX
 have hS := hS0
 clear hS0
 refine calls_entryP Tryz.func7 rfl Tryz.ntmps7 rfl fun _ H => ?_
 refine s_reg [] [0] [(0, [], vL g_l_ l_)] [] H (by kernel_rfl) trivial fun _ _ H2 hb => ?_
 replace hS := hS.below hb
 clear H hb
 refine s_reg [] [0, 3] [(0, [], vL g_l_ l_), (3, [], vI 0)] [] H2 (by kernel_rfl) trivial fun _ _ H4 hb => ?_
 replace hS := hS.below hb
 clear H2 hb
 obtain ⟨z5, hz, hm_z5⟩ := bindE hm
 refine w_cut (fun a' w' => ∃ s_z5 : Int, z5 = Sum.inr s_z5 ∧ Fr 58 [(0, [], vL g_l_ l_), (3, [], vI s_z5)] a' ∧ SH M X w [eI tyDeclared l_ g_l_] w') ?_ ?_
 ·replace hm := hz
  refine s_reg [] [0, 3, 4] [(0, [], vL g_l_ l_), (3, [], vI 0), (4, [], vI 0)] [] H4 (by kernel_rfl) trivial fun _ _ H7 hb => ?_
  replace hS := hS.below hb
  clear H4 hb
  refine w_block ?_
  refine w_loop (fun kk a' w' => ∃ (v8 : Int) (v9 : Int), r29_Great_L1 m l_ kk v8 v9 = some _ ∧ Fr 58 [(0, [], vL g_l_ l_), (3, [], vI v8), (4, [], vI v9)] a' ∧ SH M X w [eI tyDeclared l_ g_l_] w') ⟨_, 0, 0, hm, FrG.keep (ks := [0, 3, 4]) H7 (by kernel_rfl), hS⟩ ?_
  clear hm H7 hS
  rintro kk _ _ ⟨v8, v9, hm, H, hS⟩
  cases kk with
  | zero => exact noneE hm
  | succ kk =>
   rw [r29_Great_L1] at hm
   refine w_seq ?_
   obtain ⟨x10, hx10, hm⟩ := letE hm
   refine s_reg [] [0, 3, 4, 12] [(0, [], vL g_l_ l_), (3, [], vI v8), (4, [], vI v9), (12, [], vB x10)] [] H (by subst hx10; kernel_rfl) trivial fun _ _ H12 hb => ?_
   replace hS := hS.below hb
   clear H hb
   refine w_if H12 rfl (fun hc => ?_) (fun hc => ?c27)
   case c27 =>
    replace hm := bF hc hm
    refine w_exit rfl ?_
    obtain rfl := someE hm
    exact ⟨_, rfl, FrG.keep (ks := [0, 3]) H12 (by kernel_rfl), hS⟩
   replace hm := bT hc hm
   refine w_skip ?_
   refine w_seq ?_
   refine w_block ?_
   refine w_seq ?_
   obtain ⟨ho13, hm⟩ := chkE hm
   obtain ⟨y14, hy14, hm⟩ := bindE hm
   obtain ⟨x15, hx15, hm⟩ := letE hm
   obtain ⟨x16, hx16, hm⟩ := letE hm
   refine s_reg [(.slice (g_l_.s (v9).toNat 0).a (((gi l_ v9).Long.Value).length) (g_l_.s (v9).toNat 0).c), (vB y14), (vS (gi l_ v9).Long.Name), (vS (gi l_ v9).Long.Whole)] [0, 3, 4, 41] [(0, [], vL g_l_ l_), (3, [], vI v8), (4, [], vI v9), (41, [], vB x16)] [fun _ => oka g_l_.a ∧ 0 ≤ v9 ∧ v9 < ln l_, fun wz => V.at1 ⟨ab g_l_.a, ao g_l_.a + (v9).toNat * 11 + 1, none⟩ (.slice (g_l_.s (v9).toNat 0).a (((gi l_ v9).Long.Value).length) (g_l_.s (v9).toNat 0).c) wz, rB 21 [.slice (g_l_.s (v9).toNat 0).a (((gi l_ v9).Long.Value).length) (g_l_.s (v9).toNat 0).c] (vB y14), fun _ => (y14 = false ∧ True → oka g_l_.a ∧ 0 ≤ v9 ∧ v9 < ln l_), fun wz => (y14 = false ∧ True → V.at1 ⟨ab g_l_.a, ao g_l_.a + (v9).toNat * 11, none⟩ (vS (gi l_ v9).Long.Name) wz), fun _ => (x15 = false ∧ True → oka g_l_.a ∧ 0 ≤ v9 ∧ v9 < ln l_), fun wz => (x15 = false ∧ True → V.at1 ⟨ab g_l_.a, ao g_l_.a + (v9).toNat * 11 + 2, none⟩ (vS (gi l_ v9).Long.Whole) wz)] H12 (by subst hx15 hx16; kernel_rfl) ⟨((hS.im 0 rfl).oki ho13), ((hS.im 0 rfl).at1 ho13 1 rfl), (r04_Great_ok (g_v_ := (g_l_.s (v9).toNat 0)) m _ _ hy14 _ (s0im s0nil (tyDeclared_i0 ((hS.im 0 rfl).el ho13)))), fun hg => (hS.im 0 rfl).oki ho13, fun hg => (hS.im 0 rfl).at1 ho13 0 rfl, fun hg => (hS.im 0 rfl).oki ho13, fun hg => (hS.im 0 rfl).at1 ho13 2 rfl, trivial⟩ fun _ _ H18 hb => ?_
   replace hS := hS.below hb
   clear H12 hb
   refine w_if H18 rfl (fun hc => ?c26) (fun hc => ?_)
   case c26 =>
    replace hm := bT hc hm
    refine s_reg [] [2] [(2, [], vT)] [] H18 (by kernel_rfl) trivial fun _ _ H20 hb => ?_
    replace hS := hS.below hb
    clear H18 hb
    refine w_ret ?_
    obtain rfl := someE hm
    have hm := hm_z5
    obtain rfl := someE hm
    exact retR1 H20 rfl rfl ⟨_, rfl, rfl, (hS.sel [] rfl)⟩
   replace hm := bF hc hm
   refine w_skip ?_
   obtain ⟨y21, hy21, hm⟩ := bindE hm
   refine w_reg [(.slice (g_l_.s (v9).toNat 0).a (((gi l_ v9).Long.Value).length) (g_l_.s (v9).toNat 0).c), (vI y21)] [0, 3, 4] [(0, [], vL g_l_ l_), (3, [], vI (w64 (v8 + y21))), (4, [], vI v9)] [fun _ => oka g_l_.a ∧ 0 ≤ v9 ∧ v9 < ln l_, fun wz => V.at1 ⟨ab g_l_.a, ao g_l_.a + (v9).toNat * 11 + 1, none⟩ (.slice (g_l_.s (v9).toNat 0).a (((gi l_ v9).Long.Value).length) (g_l_.s (v9).toNat 0).c) wz, rB 22 [.slice (g_l_.s (v9).toNat 0).a (((gi l_ v9).Long.Value).length) (g_l_.s (v9).toNat 0).c, vI 300] (vI y21)] H18 (by kernel_rfl) ⟨((hS.im 0 rfl).oki ho13), ((hS.im 0 rfl).at1 ho13 1 rfl), (r04_Size_ok (g_v_ := (g_l_.s (v9).toNat 0)) m _ _ _ hy21 _ (s0im s0nil (tyDeclared_i0 ((hS.im 0 rfl).el ho13)))), trivial⟩ fun _ _ H23 hb => ?_
   replace hS := hS.below hb
   clear H18 hb
   refine w_reg [] [0, 3, 4] [(0, [], vL g_l_ l_), (3, [], vI (w64 (v8 + y21))), (4, [], vI (w64 (v9 + 1)))] [] H23 (by kernel_rfl) trivial fun _ _ H25 hb => ?_
   replace hS := hS.below hb
   clear H23 hb
   exact ⟨_, Nat.lt_succ_self _, w64 (v8 + y21), w64 (v9 + 1), hm, FrG.keep (ks := [0, 3, 4]) H25 (by kernel_rfl), hS⟩
 ·rintro _ _ ⟨s_z5, hz, H, hS⟩
  subst hz
  replace hm := sumR hm_z5
  obtain ⟨x29, hx29, hm⟩ := letE hm
  refine s_reg [] [2] [(2, [], vB x29)] [] H (by subst hx29; kernel_rfl) trivial fun _ _ H31 hb => ?_
  replace hS := hS.below hb
  clear H hb
  replace hS : SH M X w [] _ := hS.sel [] rfl
  refine w_ret ?_
  obtain rfl := someE hm
  exact retR1 H31 rfl rfl ⟨_, rfl, rfl, (hS.sel [] rfl)⟩
theorem r29_Great_ok {g_l_ : Gh} (m : Nat) (l_ : List TDeclared) (r : Bool) (hm : r29_Great m l_ = some r) (w : World) (hL : S0 F0 [eI tyDeclared l_ g_l_] w ∧ fpl [eI tyDeclared l_ g_l_] = []) : RetB Tryz.prog 7 ⟨[vL g_l_ l_]⟩ (vB r) w := retB_of hL (Tryz.call7 _) (fun w' h => r29_Great_w F0 m   l_ r hm w' h)

theorem r25_Custom_w  (M : Av) (s : Str) (r : Bool) (hm : r25_Custom s = some r) (w : World) (hS : S0 M [] w) : Calls Tryz.prog 50 ⟨[vS s]⟩ w (fun e w' => ∃ v, e = .returned v ∧ v = vB r ∧ SH M (fpl []) w [] w') := by
 rw [r25_Custom] at hm
 have hS0 : SH M (fpl []) w [] w := hS
 generalize hX : fpl [] = X at hS0 ⊢
 clear hS hX
 have hS := hS0
 clear hS0
 refine calls_entryP Tryz.func50 rfl Tryz.ntmps50 rfl fun _ H => ?_
 refine s_reg [] [0] [(0, [], vS s)] [] H (by kernel_rfl) trivial fun _ _ H2 hb => ?_
 replace hS := hS.below hb
 clear H hb
 obtain ⟨x3, hx3, hm⟩ := letE hm
 obtain ⟨ho4, hm⟩ := chkE hm
 refine s_reg [] [2] [(2, [], vB (cond x3 ((sub s 0 2) == [45, 45]) false))] [fun _ => (x3 = true ∧ True → 0 ≤ (2 : Int) ∧ (2 : Int) ≤ ln s)] H2 (by subst hx3; kernel_rfl) ⟨fun hg => (ho4 hg.1), trivial⟩ fun _ _ H6 hb => ?_
 replace hS := hS.below hb
 clear H2 hb
 refine w_ret ?_
 obtain rfl := someE hm
 exact retR1 H6 rfl rfl ⟨_, rfl, rfl, (hS.sel [] rfl)⟩
theorem r25_Custom_ok  (s : Str) (r : Bool) (hm : r25_Custom s = some r) : Ret Tryz.prog 50 ⟨[vS s]⟩ (vB r) := retP_of (Tryz.call50 _) (fun w h => r25_Custom_w F0   s r hm w h)

theorem r25_word_w  (M : Av) (s : Str) (r : TVal) (hm : r25_word s = r) (w : World) (hS : S0 M [] w) : Calls Tryz.prog 74 ⟨[vS s]⟩ w (fun e w' => ∃ v, e = .returned v ∧ v = vG [vU r.Kind, vS r.Word, vI r.Num, vU r.Color.Red, vU r.Color.Green, vU r.Color.Blue, vU r.Color.Alpha] ∧ SH M (fpl []) w [] w') := by
 rw [r25_word] at hm
 have hS0 : SH M (fpl []) w [] w := hS
 generalize hX : fpl [] = X at hS0 ⊢
 clear hS hX
 have hS := hS0
 clear hS0
 refine calls_entryP Tryz.func74 rfl Tryz.ntmps74 rfl fun _ H => ?_
 refine w_seq ?_
 refine wl_start ?_
 have hd := hS.hand [] [] rfl rfl
 refine m_stp [2, 0] [(0, [], vS s)] H rfl rfl rfl rfl (o_alloc [vU 0, vN, vI 0, vU 0, vU 0, vU 0, vU 0] (z := vG [vU 0, vN, vI 0, vU 0, vU 0, vU 0, vU 0]) hd (by kernel_rfl) rfl) (fun _ => rfl) fun _ _ v H3 hq => ?_
 clear H hd
 obtain ⟨b1, rfl, hq⟩ := hq
 replace hS : SH M X w [eB b1 [vU 0, vN, vI 0, vU 0, vU 0, vU 0, vU 0]] _ := hS.join [] [] rfl rfl hq
 clear hq
 refine wl_end rfl ?_
 refine w_seq ?_
 refine wl_start ?_
 refine wl_batch 0 2 [] [2, 4] [(2, [], vP b1), (4, [], vG [vU 1, vS s, vI 0, vU 0, vU 0, vU 0, vU 0])] [] H3 (by decide) (by kernel_rfl) trivial fun _ _ H5 hb => ?_
 replace hS := hS.below hb
 clear H3 hb
 have hd := hS.hand [0] [] rfl rfl
 refine m_stp0 [2] [(2, [], vP b1)] H5 rfl rfl rfl (o_store [vU 1, vS s, vI 0, vU 0, vU 0, vU 0, vU 0] H5 hd rfl rfl (by kernel_rfl) rfl rfl rfl) rfl fun _ _ H7 hq => ?_
 clear H5 hd
 obtain ⟨_, hq⟩ := hq
 replace hS : SH M X w [eB b1 [vU 1, vS s, vI 0, vU 0, vU 0, vU 0, vU 0]] _ := hS.join [0] [] rfl rfl hq
 clear hq
 refine wl_end rfl ?_
 refine w_ret ?_
 subst hm
 exact retR1 H7 rfl (oneRes_agg rfl (hS.bk 0 rfl) Tryz.underlying74 rfl (by kernel_rfl)) ⟨_, rfl, rfl, (hS.sel [] rfl)⟩
theorem r25_word_ok  (s : Str) : Ret Tryz.prog 74 ⟨[vS s]⟩ (vG [vU (r25_word s).Kind, vS (r25_word s).Word, vI (r25_word s).Num, vU (r25_word s).Color.Red, vU (r25_word s).Color.Green, vU (r25_word s).Color.Blue, vU (r25_word s).Color.Alpha]) := retP_of (Tryz.call74 _) (fun w h => r25_word_w F0   s _ rfl w h)

theorem r25_px_w  (M : Av) (n_ : Int) (r : TVal) (hm : r25_px n_ = r) (w : World) (hS : S0 M [] w) : Calls Tryz.prog 75 ⟨[vI n_]⟩ w (fun e w' => ∃ v, e = .returned v ∧ v = vG [vU r.Kind, vS r.Word, vI r.Num, vU r.Color.Red, vU r.Color.Green, vU r.Color.Blue, vU r.Color.Alpha] ∧ SH M (fpl []) w [] w') := by
 rw [r25_px] at hm
 have hS0 : SH M (fpl []) w [] w := hS
 generalize hX : fpl [] = X at hS0 ⊢
 clear hS hX
 have hS := hS0
 clear hS0
 refine calls_entryP Tryz.func75 rfl Tryz.ntmps75 rfl fun _ H => ?_
 refine w_seq ?_
 refine wl_start ?_
 have hd := hS.hand [] [] rfl rfl
 refine m_stp [2, 0] [(0, [], vI n_)] H rfl rfl rfl rfl (o_alloc [vU 0, vN, vI 0, vU 0, vU 0, vU 0, vU 0] (z := vG [vU 0, vN, vI 0, vU 0, vU 0, vU 0, vU 0]) hd (by kernel_rfl) rfl) (fun _ => rfl) fun _ _ v H3 hq => ?_
 clear H hd
 obtain ⟨b1, rfl, hq⟩ := hq
 replace hS : SH M X w [eB b1 [vU 0, vN, vI 0, vU 0, vU 0, vU 0, vU 0]] _ := hS.join [] [] rfl rfl hq
 clear hq
 refine wl_end rfl ?_
 refine w_seq ?_
 refine wl_start ?_
 refine wl_batch 0 2 [] [2, 4] [(2, [], vP b1), (4, [], vG [vU 2, vN, vI n_, vU 0, vU 0, vU 0, vU 0])] [] H3 (by decide) (by kernel_rfl) trivial fun _ _ H5 hb => ?_
 replace hS := hS.below hb
 clear H3 hb
 have hd := hS.hand [0] [] rfl rfl
 refine m_stp0 [2] [(2, [], vP b1)] H5 rfl rfl rfl (o_store [vU 2, vN, vI n_, vU 0, vU 0, vU 0, vU 0] H5 hd rfl rfl (by kernel_rfl) rfl rfl rfl) rfl fun _ _ H7 hq => ?_
 clear H5 hd
 obtain ⟨_, hq⟩ := hq
 replace hS : SH M X w [eB b1 [vU 2, vN, vI n_, vU 0, vU 0, vU 0, vU 0]] _ := hS.join [0] [] rfl rfl hq
 clear hq
 refine wl_end rfl ?_
 refine w_ret ?_
 subst hm
 exact retR1 H7 rfl (oneRes_agg rfl (hS.bk 0 rfl) Tryz.underlying74 rfl (by kernel_rfl)) ⟨_, rfl, rfl, (hS.sel [] rfl)⟩
theorem r25_px_ok  (n_ : Int) : Ret Tryz.prog 75 ⟨[vI n_]⟩ (vG [vU (r25_px n_).Kind, vS (r25_px n_).Word, vI (r25_px n_).Num, vU (r25_px n_).Color.Red, vU (r25_px n_).Color.Green, vU (r25_px n_).Color.Blue, vU (r25_px n_).Color.Alpha]) := retP_of (Tryz.call75 _) (fun w h => r25_px_w F0   n_ _ rfl w h)

theorem r25_Table_w  (M : Av)  (r : List TProp) (hm : r25_Table = some r) (w : World) (hS : S0 M [] w) : Calls Tryz.prog 52 ⟨[]⟩ w (fun e w' => ∃ v, e = .returned v ∧ ∃ (g901 : Gh), v = vL g901 r ∧ SH M (fpl []) w [eO 77 tyProp r g901] w') := by
 rw [r25_Table] at hm
 have hS0 : SH M (fpl []) w [] w := hS
 generalize hX : fpl [] = X at hS0 ⊢
 clear hS hX
 have hS := hS0
 clear hS0
 refine calls_entryP Tryz.func52 rfl Tryz.ntmps52 rfl fun _ H => ?_
 refine s_reg [] [] [] [] H (by kernel_rfl) trivial fun _ _ H2 hb => ?_
 replace hS := hS.below hb
 clear H hb
 refine w_seq ?_
 refine wl_start ?_
 refine wl_batch 0 1 [] [5] [(5, [], vG [vU 8, vN, vI 0, vU 0, vU 0, vU 0, vU 0])] [] H2 (by decide) (by kernel_rfl) trivial fun _ _ H4 hb => ?_
 replace hS := hS.below hb
 clear H2 hb
 have hd := hS.hand [] [] rfl rfl
 refine m_stp [1, 5] [(5, [], vG [vU 8, vN, vI 0, vU 0, vU 0, vU 0, vU 0])] H4 rfl rfl rfl rfl (o_alloc [vU 0, vN, vI 0, vU 0, vU 0, vU 0, vU 0] (z := vG [vU 0, vN, vI 0, vU 0, vU 0, vU 0, vU 0]) hd (by kernel_rfl) rfl) (fun _ => rfl) fun _ _ v H7 hq => ?_
 clear H4 hd
 obtain ⟨b5, rfl, hq⟩ := hq
 replace hS : SH M X w [eB b5 [vU 0, vN, vI 0, vU 0, vU 0, vU 0, vU 0]] _ := hS.join [] [] rfl rfl hq
 clear hq
 have hd := hS.hand [0] [] rfl rfl
 refine m_stp0 [1] [(1, [], vP b5)] H7 rfl rfl rfl (o_store [vU 8, vN, vI 0, vU 0, vU 0, vU 0, vU 0] H7 hd rfl rfl (by kernel_rfl) rfl rfl rfl) rfl fun _ _ H9 hq => ?_
 clear H7 hd
 obtain ⟨_, hq⟩ := hq
 replace hS : SH M X w [eB b5 [vU 8, vN, vI 0, vU 0, vU 0, vU 0, vU 0]] _ := hS.join [0] [] rfl rfl hq
 clear hq
 refine wl_end rfl ?_
 refine w_seq ?_
 refine wl_start ?_
 have hd := hS.hand [] [0] rfl rfl
 refine m_stp [6, 1] [(1, [], vP b5)] H9 rfl rfl rfl rfl (o_lit (T := (tI .u8)) (E := 5) (zv := vU 0) [vU 7, vU 8] ([7, 8] : List Int) [gL [], gL []] _ H9 hd rfl (by kernel_rfl) (by kernel_rfl) (by kernel_rfl) (by kernel_rfl) (by kernel_rfl) (by kernel_rfl) (by kernel_rfl) rfl (InnL.cons trivial (InnL.cons trivial InnL.nil))) (fun _ => rfl) fun _ _ v H13 hq => ?_
 clear H9 hd
 obtain ⟨g10, rfl, hq⟩ := hq
 replace hS : SH M X w [eO 5 (tI .u8) ([7, 8] : List Int) g10, eB b5 [vU 8, vN, vI 0, vU 0, vU 0, vU 0, vU 0]] _ := hS.join [] [0] rfl rfl hq
 clear hq
 refine wl_batch 1 2 [] [1, 2] [(1, [], vP b5), (2, [], .slice g10.a 2 g10.c)] [] H13 (by decide) (by kernel_rfl) trivial fun _ _ H15 hb => ?_
 replace hS := hS.below hb
 clear H13 hb
 refine wl_end rfl ?_
 refine w_seq ?_
 refine wl_start ?_
 have hd := hS.hand [] [0, 1] rfl rfl
 refine m_stp [7, 1, 2] [(1, [], vP b5), (2, [], .slice g10.a 2 g10.c)] H15 rfl rfl rfl rfl (o_lit (T := (tI .u8)) (E := 5) (zv := vU 0) [vU 2, vU 3, vU 4] ([2, 3, 4] : List Int) [gL [], gL [], gL []] _ H15 hd rfl (by kernel_rfl) (by kernel_rfl) (by kernel_rfl) (by kernel_rfl) (by kernel_rfl) (by kernel_rfl) (by kernel_rfl) rfl (InnL.cons trivial (InnL.cons trivial (InnL.cons trivial InnL.nil)))) (fun _ => rfl) fun _ _ v H19 hq => ?_
 clear H15 hd
 obtain ⟨g16, rfl, hq⟩ := hq
 replace hS : SH M X w [eO 5 (tI .u8) ([2, 3, 4] : List Int) g16, eO 5 (tI .u8) ([7, 8] : List Int) g10, eB b5 [vU 8, vN, vI 0, vU 0, vU 0, vU 0, vU 0]] _ := hS.join [] [0, 1] rfl rfl hq
 clear hq
 refine wl_batch 1 2 [] [1, 2, 3] [(1, [], vP b5), (2, [], .slice g10.a 2 g10.c), (3, [], .slice g16.a 3 g16.c)] [] H19 (by decide) (by kernel_rfl) trivial fun _ _ H21 hb => ?_
 replace hS := hS.below hb
 clear H19 hb
 refine wl_end rfl ?_
 refine w_seq ?_
 refine wl_start ?_
 refine wl_batch 0 1 [] [1, 2, 3, 8] [(1, [], vP b5), (2, [], .slice g10.a 2 g10.c), (3, [], .slice g16.a 3 g16.c), (8, [], vG [vU 1, vS [97, 117, 116, 111], vI 0, vU 0, vU 0, vU 0, vU 0])] [] H21 (by decide) (by kernel_rfl) trivial fun _ _ H23 hb => ?_
 replace hS := hS.below hb
 clear H21 hb
 have hd := hS.hand [] [0, 1, 2] rfl rfl
 refine m_stp [4, 1, 2, 3, 8] [(1, [], vP b5), (2, [], .slice g10.a 2 g10.c), (3, [], .slice g16.a 3 g16.c), (8, [], vG [vU 1, vS [97, 117, 116, 111], vI 0, vU 0, vU 0, vU 0, vU 0])] H23 rfl rfl rfl rfl (o_alloc [vU 0, vN, vI 0, vU 0, vU 0, vU 0, vU 0] (z := vG [vU 0, vN, vI 0, vU 0, vU 0, vU 0, vU 0]) hd (by kernel_rfl) rfl) (fun _ => rfl) fun _ _ v H26 hq => ?_
 clear H23 hd
 obtain ⟨b24, rfl, hq⟩ := hq
 replace hS : SH M X w [eB b24 [vU 0, vN, vI 0, vU 0, vU 0, vU 0, vU 0], eO 5 (tI .u8) ([2, 3, 4] : List Int) g16, eO 5 (tI .u8) ([7, 8] : List Int) g10, eB b5 [vU 8, vN, vI 0, vU 0, vU 0, vU 0, vU 0]] _ := hS.join [] [0, 1, 2] rfl rfl hq
 clear hq
 have hd := hS.hand [0] [1, 2, 3] rfl rfl
 refine m_stp0 [1, 2, 3, 4] [(1, [], vP b5), (2, [], .slice g10.a 2 g10.c), (3, [], .slice g16.a 3 g16.c), (4, [], vP b24)] H26 rfl rfl rfl (o_store [vU 1, vS [97, 117, 116, 111], vI 0, vU 0, vU 0, vU 0, vU 0] H26 hd rfl rfl (by kernel_rfl) rfl rfl rfl) rfl fun _ _ H28 hq => ?_
 clear H26 hd
 obtain ⟨_, hq⟩ := hq
 replace hS : SH M X w [eB b24 [vU 1, vS [97, 117, 116, 111], vI 0, vU 0, vU 0, vU 0, vU 0], eO 5 (tI .u8) ([2, 3, 4] : List Int) g16, eO 5 (tI .u8) ([7, 8] : List Int) g10, eB b5 [vU 8, vN, vI 0, vU 0, vU 0, vU 0, vU 0]] _ := hS.join [0] [1, 2, 3] rfl rfl hq
 clear hq
 refine wl_end rfl ?_
 obtain ⟨y30, hy30, hm⟩ := letE hm
 obtain ⟨y33, hy33, hm⟩ := letE hm
 obtain ⟨y40, hy40, hm⟩ := letE hm
 obtain ⟨y43, hy43, hm⟩ := letE hm
 obtain ⟨y46, hy46, hm⟩ := letE hm
 obtain ⟨y49, hy49, hm⟩ := letE hm
 obtain ⟨y52, hy52, hm⟩ := letE hm
 obtain ⟨y53, hy53, hm⟩ := letE hm
 obtain ⟨ho58, hm⟩ := chkE hm
 obtain ⟨q59, hq59, hm⟩ := letE hm
 obtain ⟨ho63, hm⟩ := chkE hm
 obtain ⟨q64, hq64, hm⟩ := letE hm
 obtain ⟨y66, hy66, hm⟩ := letE hm
 refine s_drawS (base := [(1, [], vP b5), (2, [], .slice g10.a 2 g10.c), (3, [], .slice g16.a 3 g16.c), (4, [], vP b24)]) (L := [eB b24 [vU 1, vS [97, 117, 116, 111], vI 0, vU 0, vU 0, vU 0, vU 0], eO 5 (tI .u8) ([2, 3, 4] : List Int) g16, eO 5 (tI .u8) ([7, 8] : List Int) g10, eB b5 [vU 8, vN, vI 0, vU 0, vU 0, vU 0, vU 0]]) 69 4 (fun yg29 => [vG [vU 0, vU 0, vU 0, vU 255], vG [vU 7, vN, vI 0, vU 0, vU 0, vU 0, vU 255], .slice g10.a 2 g10.c, vG [vS [99, 111, 108, 111, 114], vT, vU 7, vN, vI 0, vU 0, vU 0, vU 0, vU 255, vO, .slice g10.a 2 g10.c, vF], vG [vU 7, vN, vI 0, vU 0, vU 0, vU 0, vU 0], .slice g10.a 2 g10.c, vG [vS [98, 97, 99, 107, 103, 114, 111, 117, 110, 100, 45, 99, 111, 108, 111, 114], vF, vU 7, vN, vI 0, vU 0, vU 0, vU 0, vU 0, vO, .slice g10.a 2 g10.c, vF], vG [vU 8, vN, vI 0, vU 0, vU 0, vU 0, vU 0], .slice g10.a 2 g10.c, vG [vS [98, 111, 114, 100, 101, 114, 45, 99, 111, 108, 111, 114], vF, vU 8, vN, vI 0, vU 0, vU 0, vU 0, vU 0, vO, .slice g10.a 2 g10.c, vF], vG [vU 8, vN, vI 0, vU 0, vU 0, vU 0, vU 0], .slice g10.a 2 g10.c, vG [vS [111, 117, 116, 108, 105, 110, 101, 45, 99, 111, 108, 111, 114], vF, vU 8, vN, vI 0, vU 0, vU 0, vU 0, vU 0, vO, .slice g10.a 2 g10.c, vF], vG [vU y30.Kind, vS y30.Word, vI y30.Num, vU y30.Color.Red, vU y30.Color.Green, vU y30.Color.Blue, vU y30.Color.Alpha], .slice (yg29 14 0).a 5 (yg29 14 0).c, vG [vS [100, 105, 115, 112, 108, 97, 121], vF, vU y30.Kind, vS y30.Word, vI y30.Num, vU y30.Color.Red, vU y30.Color.Green, vU y30.Color.Blue, vU y30.Color.Alpha, .slice (yg29 14 0).a 5 (yg29 14 0).c, vO, vF], vG [vU y33.Kind, vS y33.Word, vI y33.Num, vU y33.Color.Red, vU y33.Color.Green, vU y33.Color.Blue, vU y33.Color.Alpha], .slice (yg29 17 0).a 3 (yg29 17 0).c, vG [vS [118, 105, 115, 105, 98, 105, 108, 105, 116, 121], vT, vU y33.Kind, vS y33.Word, vI y33.Num, vU y33.Color.Red, vU y33.Color.Green, vU y33.Color.Blue, vU y33.Color.Alpha, .slice (yg29 17 0).a 3 (yg29 17 0).c, vO, vF], vG [vU 1, vS [97, 117, 116, 111], vI 0, vU 0, vU 0, vU 0, vU 0], .slice (yg29 20 0).a 1 (yg29 20 0).c, .slice g16.a 3 g16.c, vG [vS [119, 105, 100, 116, 104], vF, vU 1, vS [97, 117, 116, 111], vI 0, vU 0, vU 0, vU 0, vU 0, .slice (yg29 20 0).a 1 (yg29 20 0).c, .slice g16.a 3 g16.c, vT], vG [vU 1, vS [97, 117, 116, 111], vI 0, vU 0, vU 0, vU 0, vU 0], .slice (yg29 24 0).a 1 (yg29 24 0).c, .slice g16.a 3 g16.c, vG [vS [104, 101, 105, 103, 104, 116], vF, vU 1, vS [97, 117, 116, 111], vI 0, vU 0, vU 0, vU 0, vU 0, .slice (yg29 24 0).a 1 (yg29 24 0).c, .slice g16.a 3 g16.c, vT], vG [vU y40.Kind, vS y40.Word, vI y40.Num, vU y40.Color.Red, vU y40.Color.Green, vU y40.Color.Blue, vU y40.Color.Alpha], .slice (yg29 28 0).a 1 (yg29 28 0).c, .slice g16.a 3 g16.c, vG [vS [109, 97, 114, 103, 105, 110, 45, 116, 111, 112], vF, vU y40.Kind, vS y40.Word, vI y40.Num, vU y40.Color.Red, vU y40.Color.Green, vU y40.Color.Blue, vU y40.Color.Alpha, .slice (yg29 28 0).a 1 (yg29 28 0).c, .slice g16.a 3 g16.c, vF], vG [vU y43.Kind, vS y43.Word, vI y43.Num, vU y43.Color.Red, vU y43.Color.Green, vU y43.Color.Blue, vU y43.Color.Alpha], .slice (yg29 32 0).a 1 (yg29 32 0).c, .slice g16.a 3 g16.c, vG [vS [109, 97, 114, 103, 105, 110, 45, 114, 105, 103, 104, 116], vF, vU y43.Kind, vS y43.Word, vI y43.Num, vU y43.Color.Red, vU y43.Color.Green, vU y43.Color.Blue, vU y43.Color.Alpha, .slice (yg29 32 0).a 1 (yg29 32 0).c, .slice g16.a 3 g16.c, vF], vG [vU y46.Kind, vS y46.Word, vI y46.Num, vU y46.Color.Red, vU y46.Color.Green, vU y46.Color.Blue, vU y46.Color.Alpha], .slice (yg29 36 0).a 1 (yg29 36 0).c, .slice g16.a 3 g16.c, vG [vS [109, 97, 114, 103, 105, 110, 45, 98, 111, 116, 116, 111, 109], vF, vU y46.Kind, vS y46.Word, vI y46.Num, vU y46.Color.Red, vU y46.Color.Green, vU y46.Color.Blue, vU y46.Color.Alpha, .slice (yg29 36 0).a 1 (yg29 36 0).c, .slice g16.a 3 g16.c, vF], vG [vU y49.Kind, vS y49.Word, vI y49.Num, vU y49.Color.Red, vU y49.Color.Green, vU y49.Color.Blue, vU y49.Color.Alpha], .slice (yg29 40 0).a 1 (yg29 40 0).c, .slice g16.a 3 g16.c, vG [vS [109, 97, 114, 103, 105, 110, 45, 108, 101, 102, 116], vF, vU y49.Kind, vS y49.Word, vI y49.Num, vU y49.Color.Red, vU y49.Color.Green, vU y49.Color.Blue, vU y49.Color.Alpha, .slice (yg29 40 0).a 1 (yg29 40 0).c, .slice g16.a 3 g16.c, vF], vG [vU y52.Kind, vS y52.Word, vI y52.Num, vU y52.Color.Red, vU y52.Color.Green, vU y52.Color.Blue, vU y52.Color.Alpha], .slice g16.a 3 g16.c, vG [vS [102, 111, 110, 116, 45, 115, 105, 122, 101], vT, vU y52.Kind, vS y52.Word, vI y52.Num, vU y52.Color.Red, vU y52.Color.Green, vU y52.Color.Blue, vU y52.Color.Alpha, vO, .slice g16.a 3 g16.c, vT], vG [vU y53.Kind, vS y53.Word, vI y53.Num, vU y53.Color.Red, vU y53.Color.Green, vU y53.Color.Blue, vU y53.Color.Alpha], .slice (yg29 47 0).a 1 (yg29 47 0).c, .slice (yg29 48 0).a 0 (yg29 48 0).c, .slice g16.a 3 g16.c, .slice (yg29 50 0).a q59.length (yg29 50 0).c, .slice (yg29 51 0).a 1 (yg29 51 0).c, .slice (yg29 52 0).a q64.length (yg29 52 0).c, vG [vS [108, 105, 110, 101, 45, 104, 101, 105, 103, 104, 116], vT, vU y53.Kind, vS y53.Word, vI y53.Num, vU y53.Color.Red, vU y53.Color.Green, vU y53.Color.Blue, vU y53.Color.Alpha, .slice (yg29 47 0).a 1 (yg29 47 0).c, .slice (yg29 52 0).a q64.length (yg29 52 0).c, vT], vG [vU y66.Kind, vS y66.Word, vI y66.Num, vU y66.Color.Red, vU y66.Color.Green, vU y66.Color.Blue, vU y66.Color.Alpha], .slice (yg29 55 0).a 4 (yg29 55 0).c, vG [vS [116, 101, 120, 116, 45, 97, 108, 105, 103, 110], vT, vU y66.Kind, vS y66.Word, vI y66.Num, vU y66.Color.Red, vU y66.Color.Green, vU y66.Color.Blue, vU y66.Color.Alpha, .slice (yg29 55 0).a 4 (yg29 55 0).c, vO, vF], vG [vU 5, vN, vI 1000, vU 0, vU 0, vU 0, vU 0], .slice (yg29 58 0).a 1 (yg29 58 0).c, vG [vS [111, 112, 97, 99, 105, 116, 121], vF, vU 5, vN, vI 1000, vU 0, vU 0, vU 0, vU 0, vO, .slice (yg29 58 0).a 1 (yg29 58 0).c, vF], vG [vU 1, vS [97, 117, 116, 111], vI 0, vU 0, vU 0, vU 0, vU 0], .slice (yg29 61 0).a 1 (yg29 61 0).c, .slice (yg29 62 0).a 1 (yg29 62 0).c, vG [vS [122, 45, 105, 110, 100, 101, 120], vF, vU 1, vS [97, 117, 116, 111], vI 0, vU 0, vU 0, vU 0, vU 0, .slice (yg29 61 0).a 1 (yg29 61 0).c, .slice (yg29 62 0).a 1 (yg29 62 0).c, vF], vG [vU 6, vN, vI 0, vU 0, vU 0, vU 0, vU 0], .slice (yg29 65 0).a 1 (yg29 65 0).c, vG [vS [111, 114, 100, 101, 114], vF, vU 6, vN, vI 0, vU 0, vU 0, vU 0, vU 0, vO, .slice (yg29 65 0).a 1 (yg29 65 0).c, vF], .slice (yg29 67 0).a 18 (yg29 67 0).c, .slice (yg29 67 0).a 18 (yg29 67 0).c]) (fun yg29 => [[], [], [], [], [], [], [], [], [], [], [], [], [], [], [eO 9 tS ([[98, 108, 111, 99, 107], [102, 108, 101, 120], [105, 110, 108, 105, 110, 101], [105, 110, 108, 105, 110, 101, 45, 98, 108, 111, 99, 107], [110, 111, 110, 101]] : List Str) (yg29 14 0)], [], [], [eO 9 tS ([[99, 111, 108, 108, 97, 112, 115, 101], [104, 105, 100, 100, 101, 110], [118, 105, 115, 105, 98, 108, 101]] : List Str) (yg29 17 0)], [], [], [eO 9 tS ([[97, 117, 116, 111]] : List Str) (yg29 20 0)], [], [], [], [eO 9 tS ([[97, 117, 116, 111]] : List Str) (yg29 24 0)], [], [], [], [eO 9 tS ([[97, 117, 116, 111]] : List Str) (yg29 28 0)], [], [], [], [eO 9 tS ([[97, 117, 116, 111]] : List Str) (yg29 32 0)], [], [], [], [eO 9 tS ([[97, 117, 116, 111]] : List Str) (yg29 36 0)], [], [], [], [eO 9 tS ([[97, 117, 116, 111]] : List Str) (yg29 40 0)], [], [], [], [], [], [], [eO 9 tS ([[110, 111, 114, 109, 97, 108]] : List Str) (yg29 47 0)], [eO 5 (tI .u8) ([] : List Int) (yg29 48 0)], [], [eO 5 (tI .u8) q59 (yg29 50 0)], [eO 5 (tI .u8) ([5] : List Int) (yg29 51 0)], [eO 5 (tI .u8) q64 (yg29 52 0)], [], [], [eO 9 tS ([[99, 101, 110, 116, 101, 114], [106, 117, 115, 116, 105, 102, 121], [108, 101, 102, 116], [114, 105, 103, 104, 116]] : List Str) (yg29 55 0)], [], [], [eO 5 (tI .u8) ([5] : List Int) (yg29 58 0)], [], [], [eO 9 tS ([[97, 117, 116, 111]] : List Str) (yg29 61 0)], [eO 5 (tI .u8) ([6] : List Int) (yg29 62 0)], [], [], [eO 5 (tI .u8) ([6] : List Int) (yg29 65 0)], [], [eO 77 tyProp ([(TProp.mk [99, 111, 108, 111, 114] true (TVal.mk 7 [] 0 (TColor.mk 0 0 0 255)) [] ([7, 8] : List Int) false), (TProp.mk [98, 97, 99, 107, 103, 114, 111, 117, 110, 100, 45, 99, 111, 108, 111, 114] false (TVal.mk 7 [] 0 (TColor.mk 0 0 0 0)) [] ([7, 8] : List Int) false), (TProp.mk [98, 111, 114, 100, 101, 114, 45, 99, 111, 108, 111, 114] false (TVal.mk 8 [] 0 (TColor.mk 0 0 0 0)) [] ([7, 8] : List Int) false), (TProp.mk [111, 117, 116, 108, 105, 110, 101, 45, 99, 111, 108, 111, 114] false (TVal.mk 8 [] 0 (TColor.mk 0 0 0 0)) [] ([7, 8] : List Int) false), (TProp.mk [100, 105, 115, 112, 108, 97, 121] false y30 ([[98, 108, 111, 99, 107], [102, 108, 101, 120], [105, 110, 108, 105, 110, 101], [105, 110, 108, 105, 110, 101, 45, 98, 108, 111, 99, 107], [110, 111, 110, 101]] : List Str) [] false), (TProp.mk [118, 105, 115, 105, 98, 105, 108, 105, 116, 121] true y33 ([[99, 111, 108, 108, 97, 112, 115, 101], [104, 105, 100, 100, 101, 110], [118, 105, 115, 105, 98, 108, 101]] : List Str) [] false), (TProp.mk [119, 105, 100, 116, 104] false (TVal.mk 1 [97, 117, 116, 111] 0 (TColor.mk 0 0 0 0)) ([[97, 117, 116, 111]] : List Str) ([2, 3, 4] : List Int) true), (TProp.mk [104, 101, 105, 103, 104, 116] false (TVal.mk 1 [97, 117, 116, 111] 0 (TColor.mk 0 0 0 0)) ([[97, 117, 116, 111]] : List Str) ([2, 3, 4] : List Int) true), (TProp.mk [109, 97, 114, 103, 105, 110, 45, 116, 111, 112] false y40 ([[97, 117, 116, 111]] : List Str) ([2, 3, 4] : List Int) false), (TProp.mk [109, 97, 114, 103, 105, 110, 45, 114, 105, 103, 104, 116] false y43 ([[97, 117, 116, 111]] : List Str) ([2, 3, 4] : List Int) false), (TProp.mk [109, 97, 114, 103, 105, 110, 45, 98, 111, 116, 116, 111, 109] false y46 ([[97, 117, 116, 111]] : List Str) ([2, 3, 4] : List Int) false), (TProp.mk [109, 97, 114, 103, 105, 110, 45, 108, 101, 102, 116] false y49 ([[97, 117, 116, 111]] : List Str) ([2, 3, 4] : List Int) false), (TProp.mk [102, 111, 110, 116, 45, 115, 105, 122, 101] true y52 [] ([2, 3, 4] : List Int) true), (TProp.mk [108, 105, 110, 101, 45, 104, 101, 105, 103, 104, 116] true y53 ([[110, 111, 114, 109, 97, 108]] : List Str) q64 true), (TProp.mk [116, 101, 120, 116, 45, 97, 108, 105, 103, 110] true y66 ([[99, 101, 110, 116, 101, 114], [106, 117, 115, 116, 105, 102, 121], [108, 101, 102, 116], [114, 105, 103, 104, 116]] : List Str) [] false), (TProp.mk [111, 112, 97, 99, 105, 116, 121] false (TVal.mk 5 [] 1000 (TColor.mk 0 0 0 0)) [] ([5] : List Int) false), (TProp.mk [122, 45, 105, 110, 100, 101, 120] false (TVal.mk 1 [97, 117, 116, 111] 0 (TColor.mk 0 0 0 0)) ([[97, 117, 116, 111]] : List Str) ([6] : List Int) false), (TProp.mk [111, 114, 100, 101, 114] false (TVal.mk 6 [] 0 (TColor.mk 0 0 0 0)) [] ([6] : List Int) false)] : List TProp) (yg29 67 0), eI (tI .u8) ([6] : List Int) (yg29 65 0), eI (tI .u8) ([6] : List Int) (yg29 62 0), eI tS ([[97, 117, 116, 111]] : List Str) (yg29 61 0), eI (tI .u8) ([5] : List Int) (yg29 58 0), eI tS ([[99, 101, 110, 116, 101, 114], [106, 117, 115, 116, 105, 102, 121], [108, 101, 102, 116], [114, 105, 103, 104, 116]] : List Str) (yg29 55 0), eI (tI .u8) q64 (yg29 52 0), eI tS ([[110, 111, 114, 109, 97, 108]] : List Str) (yg29 47 0), eI tS ([[97, 117, 116, 111]] : List Str) (yg29 40 0), eI tS ([[97, 117, 116, 111]] : List Str) (yg29 36 0), eI tS ([[97, 117, 116, 111]] : List Str) (yg29 32 0), eI tS ([[97, 117, 116, 111]] : List Str) (yg29 28 0), eI tS ([[97, 117, 116, 111]] : List Str) (yg29 24 0), eI (tI .u8) ([2, 3, 4] : List Int) (yg29 67 1), eI tS ([[97, 117, 116, 111]] : List Str) (yg29 20 0), eI tS ([[99, 111, 108, 108, 97, 112, 115, 101], [104, 105, 100, 100, 101, 110], [118, 105, 115, 105, 98, 108, 101]] : List Str) (yg29 17 0), eI tS ([[98, 108, 111, 99, 107], [102, 108, 101, 120], [105, 110, 108, 105, 110, 101], [105, 110, 108, 105, 110, 101, 45, 98, 108, 111, 99, 107], [110, 111, 110, 101]] : List Str) (yg29 14 0), eI (tI .u8) ([7, 8] : List Int) (yg29 67 2)], []]) [[], [], [71], [71], [], [71], [71], [72], [71], [71], [72], [71], [71], [], [], [14], [], [], [17], [69], [], [70], [20, 70], [69], [], [70], [24, 70], [], [], [70], [28, 70], [], [], [70], [32, 70], [], [], [70], [36, 70], [], [], [70], [40, 70], [], [70], [70], [], [], [], [70], [48, 70], [], [50, 51], [47, 52], [], [], [55], [], [], [58], [69], [], [], [61, 62], [], [], [65], [14, 17, 20, 24, 28, 32, 36, 40, 47, 52, 55, 58, 61, 62, 65, 70, 71], [67]] [[], [], [], [], [], [], [], [], [], [], [], [], [], [], [], [], [], [], [], [], [], [], [], [], [], [], [], [], [], [], [], [], [], [], [], [], [], [], [], [], [], [], [], [], [], [], [], [], [], [], [48], [], [50], [], [], [], [], [], [], [], [], [], [], [], [], [], [], [14, 17, 20, 24, 28, 32, 36, 40, 47, 52, 55, 58, 61, 62, 65, 70, 71], []] [[0], [0, 1], [2], [0, 1, 2, 3], [4], [5], [4, 5, 6], [7], [8], [7, 8, 9], [10], [11], [10, 11, 12], [13], [14], [13, 14, 15], [16], [17], [16, 17, 18], [19], [20], [21], [19, 20, 21, 22], [23], [24], [25], [23, 24, 25, 26], [27], [28], [29], [27, 28, 29, 30], [31], [32], [33], [31, 32, 33, 34], [35], [36], [37], [35, 36, 37, 38], [39], [40], [41], [39, 40, 41, 42], [43], [44], [43, 44, 45], [46], [47], [48], [49], [48, 49, 50], [51], [48, 49, 50, 51, 52], [46, 47, 48, 49, 50, 51, 52, 53], [54], [55], [54, 55, 56], [57], [58], [57, 58, 59], [60], [61], [62], [60, 61, 62, 63], [64], [65], [64, 65, 66], [0, 1, 2, 3, 4, 5, 6, 7, 8, 9, 10, 11, 12, 13, 14, 15, 16, 17, 18, 19, 20, 21, 22, 23, 24, 25, 26, 27, 28, 29, 30, 31, 32, 33, 34, 35, 36, 37, 38, 39, 40, 41, 42, 43, 44, 45, 46, 47, 48, 49, 50, 51, 52, 53, 54, 55, 56, 57, 58, 59, 60, 61, 62, 63, 64, 65, 66, 67], [0, 1, 2, 3, 4, 5, 6, 7, 8, 9, 10, 11, 12, 13, 14, 15, 16, 17, 18, 19, 20, 21, 22, 23, 24, 25, 26, 27, 28, 29, 30, 31, 32, 33, 34, 35, 36, 37, 38, 39, 40, 41, 42, 43, 44, 45, 46, 47, 48, 49, 50, 51, 52, 53, 54, 55, 56, 57, 58, 59, 60, 61, 62, 63, 64, 65, 66, 67, 68]] [] (FrG.keep (ks := [1, 2, 3, 4]) H28 (by kernel_rfl)) (fun _ _ h => by cases h) (by kernel_rfl) hS (by kernel_rfl) rfl rfl (by kernel_rfl) (by kernel_rfl) (by kernel_rfl) (gd_none (by kernel_rfl) _ _) ?hloc_yg29 ?hstep_yg29 fun _ _ yg29 H80 hv hS => ?hK_yg29
 case hloc_yg29 => exact ⟨(fun _ _ _ _ => ⟨rfl, rfl⟩), (fun _ _ _ _ => ⟨rfl, rfl⟩), (fun _ _ _ _ => ⟨rfl, rfl⟩), (fun _ _ _ _ => ⟨rfl, rfl⟩), (fun _ _ _ _ => ⟨rfl, rfl⟩), (fun _ _ _ _ => ⟨rfl, rfl⟩), (fun _ _ _ _ => ⟨rfl, rfl⟩), (fun _ _ _ _ => ⟨rfl, rfl⟩), (fun _ _ _ _ => ⟨rfl, rfl⟩), (fun _ _ _ _ => ⟨rfl, rfl⟩), (fun _ _ _ _ => ⟨rfl, rfl⟩), (fun _ _ _ _ => ⟨rfl, rfl⟩), (fun _ _ _ _ => ⟨rfl, rfl⟩), (fun _ _ _ _ => ⟨rfl, rfl⟩), (fun _ i g hi => lcG [14] (fun yg29 => (.slice (yg29 14 0).a 5 (yg29 14 0).c, [eO 9 tS ([[98, 108, 111, 99, 107], [102, 108, 101, 120], [105, 110, 108, 105, 110, 101], [105, 110, 108, 105, 110, 101, 45, 98, 108, 111, 99, 107], [110, 111, 110, 101]] : List Str) (yg29 14 0)])) hi rfl), (fun _ i g hi => lcG [14] (fun yg29 => (vG [vS [100, 105, 115, 112, 108, 97, 121], vF, vU y30.Kind, vS y30.Word, vI y30.Num, vU y30.Color.Red, vU y30.Color.Green, vU y30.Color.Blue, vU y30.Color.Alpha, .slice (yg29 14 0).a 5 (yg29 14 0).c, vO, vF], [])) hi rfl), (fun _ _ _ _ => ⟨rfl, rfl⟩), (fun _ i g hi => lcG [17] (fun yg29 => (.slice (yg29 17 0).a 3 (yg29 17 0).c, [eO 9 tS ([[99, 111, 108, 108, 97, 112, 115, 101], [104, 105, 100, 100, 101, 110], [118, 105, 115, 105, 98, 108, 101]] : List Str) (yg29 17 0)])) hi rfl), (fun _ i g hi => lcG [17] (fun yg29 => (vG [vS [118, 105, 115, 105, 98, 105, 108, 105, 116, 121], vT, vU y33.Kind, vS y33.Word, vI y33.Num, vU y33.Color.Red, vU y33.Color.Green, vU y33.Color.Blue, vU y33.Color.Alpha, .slice (yg29 17 0).a 3 (yg29 17 0).c, vO, vF], [])) hi rfl), (fun _ _ _ _ => ⟨rfl, rfl⟩), (fun _ i g hi => lcG [20] (fun yg29 => (.slice (yg29 20 0).a 1 (yg29 20 0).c, [eO 9 tS ([[97, 117, 116, 111]] : List Str) (yg29 20 0)])) hi rfl), (fun _ _ _ _ => ⟨rfl, rfl⟩), (fun _ i g hi => lcG [20] (fun yg29 => (vG [vS [119, 105, 100, 116, 104], vF, vU 1, vS [97, 117, 116, 111], vI 0, vU 0, vU 0, vU 0, vU 0, .slice (yg29 20 0).a 1 (yg29 20 0).c, .slice g16.a 3 g16.c, vT], [])) hi rfl), (fun _ _ _ _ => ⟨rfl, rfl⟩), (fun _ i g hi => lcG [24] (fun yg29 => (.slice (yg29 24 0).a 1 (yg29 24 0).c, [eO 9 tS ([[97, 117, 116, 111]] : List Str) (yg29 24 0)])) hi rfl), (fun _ _ _ _ => ⟨rfl, rfl⟩), (fun _ i g hi => lcG [24] (fun yg29 => (vG [vS [104, 101, 105, 103, 104, 116], vF, vU 1, vS [97, 117, 116, 111], vI 0, vU 0, vU 0, vU 0, vU 0, .slice (yg29 24 0).a 1 (yg29 24 0).c, .slice g16.a 3 g16.c, vT], [])) hi rfl), (fun _ _ _ _ => ⟨rfl, rfl⟩), (fun _ i g hi => lcG [28] (fun yg29 => (.slice (yg29 28 0).a 1 (yg29 28 0).c, [eO 9 tS ([[97, 117, 116, 111]] : List Str) (yg29 28 0)])) hi rfl), (fun _ _ _ _ => ⟨rfl, rfl⟩), (fun _ i g hi => lcG [28] (fun yg29 => (vG [vS [109, 97, 114, 103, 105, 110, 45, 116, 111, 112], vF, vU y40.Kind, vS y40.Word, vI y40.Num, vU y40.Color.Red, vU y40.Color.Green, vU y40.Color.Blue, vU y40.Color.Alpha, .slice (yg29 28 0).a 1 (yg29 28 0).c, .slice g16.a 3 g16.c, vF], [])) hi rfl), (fun _ _ _ _ => ⟨rfl, rfl⟩), (fun _ i g hi => lcG [32] (fun yg29 => (.slice (yg29 32 0).a 1 (yg29 32 0).c, [eO 9 tS ([[97, 117, 116, 111]] : List Str) (yg29 32 0)])) hi rfl), (fun _ _ _ _ => ⟨rfl, rfl⟩), (fun _ i g hi => lcG [32] (fun yg29 => (vG [vS [109, 97, 114, 103, 105, 110, 45, 114, 105, 103, 104, 116], vF, vU y43.Kind, vS y43.Word, vI y43.Num, vU y43.Color.Red, vU y43.Color.Green, vU y43.Color.Blue, vU y43.Color.Alpha, .slice (yg29 32 0).a 1 (yg29 32 0).c, .slice g16.a 3 g16.c, vF], [])) hi rfl), (fun _ _ _ _ => ⟨rfl, rfl⟩), (fun _ i g hi => lcG [36] (fun yg29 => (.slice (yg29 36 0).a 1 (yg29 36 0).c, [eO 9 tS ([[97, 117, 116, 111]] : List Str) (yg29 36 0)])) hi rfl), (fun _ _ _ _ => ⟨rfl, rfl⟩), (fun _ i g hi => lcG [36] (fun yg29 => (vG [vS [109, 97, 114, 103, 105, 110, 45, 98, 111, 116, 116, 111, 109], vF, vU y46.Kind, vS y46.Word, vI y46.Num, vU y46.Color.Red, vU y46.Color.Green, vU y46.Color.Blue, vU y46.Color.Alpha, .slice (yg29 36 0).a 1 (yg29 36 0).c, .slice g16.a 3 g16.c, vF], [])) hi rfl), (fun _ _ _ _ => ⟨rfl, rfl⟩), (fun _ i g hi => lcG [40] (fun yg29 => (.slice (yg29 40 0).a 1 (yg29 40 0).c, [eO 9 tS ([[97, 117, 116, 111]] : List Str) (yg29 40 0)])) hi rfl), (fun _ _ _ _ => ⟨rfl, rfl⟩), (fun _ i g hi => lcG [40] (fun yg29 => (vG [vS [109, 97, 114, 103, 105, 110, 45, 108, 101, 102, 116], vF, vU y49.Kind, vS y49.Word, vI y49.Num, vU y49.Color.Red, vU y49.Color.Green, vU y49.Color.Blue, vU y49.Color.Alpha, .slice (yg29 40 0).a 1 (yg29 40 0).c, .slice g16.a 3 g16.c, vF], [])) hi rfl), (fun _ _ _ _ => ⟨rfl, rfl⟩), (fun _ _ _ _ => ⟨rfl, rfl⟩), (fun _ _ _ _ => ⟨rfl, rfl⟩), (fun _ _ _ _ => ⟨rfl, rfl⟩), (fun _ i g hi => lcG [47] (fun yg29 => (.slice (yg29 47 0).a 1 (yg29 47 0).c, [eO 9 tS ([[110, 111, 114, 109, 97, 108]] : List Str) (yg29 47 0)])) hi rfl), (fun _ i g hi => lcG [48] (fun yg29 => (.slice (yg29 48 0).a 0 (yg29 48 0).c, [eO 5 (tI .u8) ([] : List Int) (yg29 48 0)])) hi rfl), (fun _ _ _ _ => ⟨rfl, rfl⟩), (fun _ i g hi => lcG [50] (fun yg29 => (.slice (yg29 50 0).a q59.length (yg29 50 0).c, [eO 5 (tI .u8) q59 (yg29 50 0)])) hi rfl), (fun _ i g hi => lcG [51] (fun yg29 => (.slice (yg29 51 0).a 1 (yg29 51 0).c, [eO 5 (tI .u8) ([5] : List Int) (yg29 51 0)])) hi rfl), (fun _ i g hi => lcG [52] (fun yg29 => (.slice (yg29 52 0).a q64.length (yg29 52 0).c, [eO 5 (tI .u8) q64 (yg29 52 0)])) hi rfl), (fun _ i g hi => lcG [47, 52] (fun yg29 => (vG [vS [108, 105, 110, 101, 45, 104, 101, 105, 103, 104, 116], vT, vU y53.Kind, vS y53.Word, vI y53.Num, vU y53.Color.Red, vU y53.Color.Green, vU y53.Color.Blue, vU y53.Color.Alpha, .slice (yg29 47 0).a 1 (yg29 47 0).c, .slice (yg29 52 0).a q64.length (yg29 52 0).c, vT], [])) hi rfl), (fun _ _ _ _ => ⟨rfl, rfl⟩), (fun _ i g hi => lcG [55] (fun yg29 => (.slice (yg29 55 0).a 4 (yg29 55 0).c, [eO 9 tS ([[99, 101, 110, 116, 101, 114], [106, 117, 115, 116, 105, 102, 121], [108, 101, 102, 116], [114, 105, 103, 104, 116]] : List Str) (yg29 55 0)])) hi rfl), (fun _ i g hi => lcG [55] (fun yg29 => (vG [vS [116, 101, 120, 116, 45, 97, 108, 105, 103, 110], vT, vU y66.Kind, vS y66.Word, vI y66.Num, vU y66.Color.Red, vU y66.Color.Green, vU y66.Color.Blue, vU y66.Color.Alpha, .slice (yg29 55 0).a 4 (yg29 55 0).c, vO, vF], [])) hi rfl), (fun _ _ _ _ => ⟨rfl, rfl⟩), (fun _ i g hi => lcG [58] (fun yg29 => (.slice (yg29 58 0).a 1 (yg29 58 0).c, [eO 5 (tI .u8) ([5] : List Int) (yg29 58 0)])) hi rfl), (fun _ i g hi => lcG [58] (fun yg29 => (vG [vS [111, 112, 97, 99, 105, 116, 121], vF, vU 5, vN, vI 1000, vU 0, vU 0, vU 0, vU 0, vO, .slice (yg29 58 0).a 1 (yg29 58 0).c, vF], [])) hi rfl), (fun _ _ _ _ => ⟨rfl, rfl⟩), (fun _ i g hi => lcG [61] (fun yg29 => (.slice (yg29 61 0).a 1 (yg29 61 0).c, [eO 9 tS ([[97, 117, 116, 111]] : List Str) (yg29 61 0)])) hi rfl), (fun _ i g hi => lcG [62] (fun yg29 => (.slice (yg29 62 0).a 1 (yg29 62 0).c, [eO 5 (tI .u8) ([6] : List Int) (yg29 62 0)])) hi rfl), (fun _ i g hi => lcG [61, 62] (fun yg29 => (vG [vS [122, 45, 105, 110, 100, 101, 120], vF, vU 1, vS [97, 117, 116, 111], vI 0, vU 0, vU 0, vU 0, vU 0, .slice (yg29 61 0).a 1 (yg29 61 0).c, .slice (yg29 62 0).a 1 (yg29 62 0).c, vF], [])) hi rfl), (fun _ _ _ _ => ⟨rfl, rfl⟩), (fun _ i g hi => lcG [65] (fun yg29 => (.slice (yg29 65 0).a 1 (yg29 65 0).c, [eO 5 (tI .u8) ([6] : List Int) (yg29 65 0)])) hi rfl), (fun _ i g hi => lcG [65] (fun yg29 => (vG [vS [111, 114, 100, 101, 114], vF, vU 6, vN, vI 0, vU 0, vU 0, vU 0, vU 0, vO, .slice (yg29 65 0).a 1 (yg29 65 0).c, vF], [])) hi rfl), (fun _ i g hi => lcG [14, 17, 20, 24, 28, 32, 36, 40, 47, 52, 55, 58, 61, 62, 65, 67] (fun yg29 => (.slice (yg29 67 0).a 18 (yg29 67 0).c, [eO 77 tyProp ([(TProp.mk [99, 111, 108, 111, 114] true (TVal.mk 7 [] 0 (TColor.mk 0 0 0 255)) [] ([7, 8] : List Int) false), (TProp.mk [98, 97, 99, 107, 103, 114, 111, 117, 110, 100, 45, 99, 111, 108, 111, 114] false (TVal.mk 7 [] 0 (TColor.mk 0 0 0 0)) [] ([7, 8] : List Int) false), (TProp.mk [98, 111, 114, 100, 101, 114, 45, 99, 111, 108, 111, 114] false (TVal.mk 8 [] 0 (TColor.mk 0 0 0 0)) [] ([7, 8] : List Int) false), (TProp.mk [111, 117, 116, 108, 105, 110, 101, 45, 99, 111, 108, 111, 114] false (TVal.mk 8 [] 0 (TColor.mk 0 0 0 0)) [] ([7, 8] : List Int) false), (TProp.mk [100, 105, 115, 112, 108, 97, 121] false y30 ([[98, 108, 111, 99, 107], [102, 108, 101, 120], [105, 110, 108, 105, 110, 101], [105, 110, 108, 105, 110, 101, 45, 98, 108, 111, 99, 107], [110, 111, 110, 101]] : List Str) [] false), (TProp.mk [118, 105, 115, 105, 98, 105, 108, 105, 116, 121] true y33 ([[99, 111, 108, 108, 97, 112, 115, 101], [104, 105, 100, 100, 101, 110], [118, 105, 115, 105, 98, 108, 101]] : List Str) [] false), (TProp.mk [119, 105, 100, 116, 104] false (TVal.mk 1 [97, 117, 116, 111] 0 (TColor.mk 0 0 0 0)) ([[97, 117, 116, 111]] : List Str) ([2, 3, 4] : List Int) true), (TProp.mk [104, 101, 105, 103, 104, 116] false (TVal.mk 1 [97, 117, 116, 111] 0 (TColor.mk 0 0 0 0)) ([[97, 117, 116, 111]] : List Str) ([2, 3, 4] : List Int) true), (TProp.mk [109, 97, 114, 103, 105, 110, 45, 116, 111, 112] false y40 ([[97, 117, 116, 111]] : List Str) ([2, 3, 4] : List Int) false), (TProp.mk [109, 97, 114, 103, 105, 110, 45, 114, 105, 103, 104, 116] false y43 ([[97, 117, 116, 111]] : List Str) ([2, 3, 4] : List Int) false), (TProp.mk [109, 97, 114, 103, 105, 110, 45, 98, 111, 116, 116, 111, 109] false y46 ([[97, 117, 116, 111]] : List Str) ([2, 3, 4] : List Int) false), (TProp.mk [109, 97, 114, 103, 105, 110, 45, 108, 101, 102, 116] false y49 ([[97, 117, 116, 111]] : List Str) ([2, 3, 4] : List Int) false), (TProp.mk [102, 111, 110, 116, 45, 115, 105, 122, 101] true y52 [] ([2, 3, 4] : List Int) true), (TProp.mk [108, 105, 110, 101, 45, 104, 101, 105, 103, 104, 116] true y53 ([[110, 111, 114, 109, 97, 108]] : List Str) q64 true), (TProp.mk [116, 101, 120, 116, 45, 97, 108, 105, 103, 110] true y66 ([[99, 101, 110, 116, 101, 114], [106, 117, 115, 116, 105, 102, 121], [108, 101, 102, 116], [114, 105, 103, 104, 116]] : List Str) [] false), (TProp.mk [111, 112, 97, 99, 105, 116, 121] false (TVal.mk 5 [] 1000 (TColor.mk 0 0 0 0)) [] ([5] : List Int) false), (TProp.mk [122, 45, 105, 110, 100, 101, 120] false (TVal.mk 1 [97, 117, 116, 111] 0 (TColor.mk 0 0 0 0)) ([[97, 117, 116, 111]] : List Str) ([6] : List Int) false), (TProp.mk [111, 114, 100, 101, 114] false (TVal.mk 6 [] 0 (TColor.mk 0 0 0 0)) [] ([6] : List Int) false)] : List TProp) (yg29 67 0), eI (tI .u8) ([6] : List Int) (yg29 65 0), eI (tI .u8) ([6] : List Int) (yg29 62 0), eI tS ([[97, 117, 116, 111]] : List Str) (yg29 61 0), eI (tI .u8) ([5] : List Int) (yg29 58 0), eI tS ([[99, 101, 110, 116, 101, 114], [106, 117, 115, 116, 105, 102, 121], [108, 101, 102, 116], [114, 105, 103, 104, 116]] : List Str) (yg29 55 0), eI (tI .u8) q64 (yg29 52 0), eI tS ([[110, 111, 114, 109, 97, 108]] : List Str) (yg29 47 0), eI tS ([[97, 117, 116, 111]] : List Str) (yg29 40 0), eI tS ([[97, 117, 116, 111]] : List Str) (yg29 36 0), eI tS ([[97, 117, 116, 111]] : List Str) (yg29 32 0), eI tS ([[97, 117, 116, 111]] : List Str) (yg29 28 0), eI tS ([[97, 117, 116, 111]] : List Str) (yg29 24 0), eI (tI .u8) ([2, 3, 4] : List Int) (yg29 67 1), eI tS ([[97, 117, 116, 111]] : List Str) (yg29 20 0), eI tS ([[99, 111, 108, 108, 97, 112, 115, 101], [104, 105, 100, 100, 101, 110], [118, 105, 115, 105, 98, 108, 101]] : List Str) (yg29 17 0), eI tS ([[98, 108, 111, 99, 107], [102, 108, 101, 120], [105, 110, 108, 105, 110, 101], [105, 110, 108, 105, 110, 101, 45, 98, 108, 111, 99, 107], [110, 111, 110, 101]] : List Str) (yg29 14 0), eI (tI .u8) ([7, 8] : List Int) (yg29 67 2)])) hi rfl), (fun _ i g hi => lcG [67] (fun yg29 => (.slice (yg29 67 0).a 18 (yg29 67 0).c, [])) hi rfl), trivial⟩
 case hstep_yg29 =>
  refine ⟨?_, ?_, ?_, ?_, ?_, ?_, ?_, ?_, ?_, ?_, ?_, ?_, ?_, ?_, ?_, ?_, ?_, ?_, ?_, ?_, ?_, ?_, ?_, ?_, ?_, ?_, ?_, ?_, ?_, ?_, ?_, ?_, ?_, ?_, ?_, ?_, ?_, ?_, ?_, ?_, ?_, ?_, ?_, ?_, ?_, ?_, ?_, ?_, ?_, ?_, ?_, ?_, ?_, ?_, ?_, ?_, ?_, ?_, ?_, ?_, ?_, ?_, ?_, ?_, ?_, ?_, ?_, ?_, ?_, trivial⟩
  ·intro o ho a w yg29 M Hb hv hO hS
   obtain rfl := Option.some.inj ho
   exact Stp.mono (o_evs [] (vG [vU 0, vU 0, vU 0, vU 255]) none [] Hb rfl (by kernel_rfl) (fun q e => by cases e)) fun _ _ hq => ⟨gL [], fun _ _ => hq.1, (hS.below hq.2.below).sel [] rfl⟩
  ·intro o ho a w yg29 M Hb hv hO hS
   obtain rfl := Option.some.inj ho
   exact Stp.mono (o_evs [] (vG [vU 7, vN, vI 0, vU 0, vU 0, vU 0, vU 255]) none [] ((Hb).add (hv 0 (by decide) (by decide) 9 rfl)) rfl (by kernel_rfl) (fun q e => by cases e)) fun _ _ hq => ⟨gL [], fun _ _ => hq.1, (hS.below hq.2.below).sel [] rfl⟩
  ·intro o ho a w yg29 M Hb hv hO hS
   obtain rfl := Option.some.inj ho
   exact Stp.mono (o_evs [] (.slice g10.a 2 g10.c) none [] Hb rfl (by kernel_rfl) (fun q e => by cases e)) fun _ _ hq => ⟨gL [], fun _ _ => hq.1, (hS.below hq.2.below).sel [0] rfl⟩
  ·intro o ho a w yg29 M Hb hv hO hS
   obtain rfl := Option.some.inj ho
   exact Stp.mono (o_evs [] (vG [vS [99, 111, 108, 111, 114], vT, vU 7, vN, vI 0, vU 0, vU 0, vU 0, vU 255, vO, .slice g10.a 2 g10.c, vF]) none [] (((Hb).add (hv 1 (by decide) (by decide) 10 rfl)).add (hv 2 (by decide) (by decide) 11 rfl)) rfl (by kernel_rfl) (fun q e => by cases e)) fun _ _ hq => ⟨gL [], fun _ _ => hq.1, (hS.below hq.2.below).sel [0] rfl⟩
  ·intro o ho a w yg29 M Hb hv hO hS
   obtain rfl := Option.some.inj ho
   exact Stp.mono (o_evs [] (vG [vU 7, vN, vI 0, vU 0, vU 0, vU 0, vU 0]) none [] Hb rfl (by kernel_rfl) (fun q e => by cases e)) fun _ _ hq => ⟨gL [], fun _ _ => hq.1, (hS.below hq.2.below).sel [] rfl⟩
  ·intro o ho a w yg29 M Hb hv hO hS
   obtain rfl := Option.some.inj ho
   exact Stp.mono (o_evs [] (.slice g10.a 2 g10.c) none [] Hb rfl (by kernel_rfl) (fun q e => by cases e)) fun _ _ hq => ⟨gL [], fun _ _ => hq.1, (hS.below hq.2.below).sel [0] rfl⟩
  ·intro o ho a w yg29 M Hb hv hO hS
   obtain rfl := Option.some.inj ho
   exact Stp.mono (o_evs [] (vG [vS [98, 97, 99, 107, 103, 114, 111, 117, 110, 100, 45, 99, 111, 108, 111, 114], vF, vU 7, vN, vI 0, vU 0, vU 0, vU 0, vU 0, vO, .slice g10.a 2 g10.c, vF]) none [] (((Hb).add (hv 4 (by decide) (by decide) 13 rfl)).add (hv 5 (by decide) (by decide) 14 rfl)) rfl (by kernel_rfl) (fun q e => by cases e)) fun _ _ hq => ⟨gL [], fun _ _ => hq.1, (hS.below hq.2.below).sel [0] rfl⟩
  ·intro o ho a w yg29 M Hb hv hO hS
   obtain rfl := Option.some.inj ho
   exact Stp.mono (o_evs [(vG [vU 8, vN, vI 0, vU 0, vU 0, vU 0, vU 0])] (vG [vU 8, vN, vI 0, vU 0, vU 0, vU 0, vU 0]) (some (rN b5 0 [vU 8, vN, vI 0, vU 0, vU 0, vU 0, vU 0])) [] Hb rfl (by kernel_rfl) (fun q e => by cases e; exact ((hS.bk 0 rfl).atD rfl))) fun _ _ hq => ⟨gL [], fun _ _ => hq.1, (hS.below hq.2.below).sel [0] rfl⟩
  ·intro o ho a w yg29 M Hb hv hO hS
   obtain rfl := Option.some.inj ho
   exact Stp.mono (o_evs [] (.slice g10.a 2 g10.c) none [] Hb rfl (by kernel_rfl) (fun q e => by cases e)) fun _ _ hq => ⟨gL [], fun _ _ => hq.1, (hS.below hq.2.below).sel [0] rfl⟩
  ·intro o ho a w yg29 M Hb hv hO hS
   obtain rfl := Option.some.inj ho
   exact Stp.mono (o_evs [] (vG [vS [98, 111, 114, 100, 101, 114, 45, 99, 111, 108, 111, 114], vF, vU 8, vN, vI 0, vU 0, vU 0, vU 0, vU 0, vO, .slice g10.a 2 g10.c, vF]) none [] (((Hb).add (hv 7 (by decide) (by decide) 16 rfl)).add (hv 8 (by decide) (by decide) 17 rfl)) rfl (by kernel_rfl) (fun q e => by cases e)) fun _ _ hq => ⟨gL [], fun _ _ => hq.1, (hS.below hq.2.below).sel [0] rfl⟩
  ·intro o ho a w yg29 M Hb hv hO hS
   obtain rfl := Option.some.inj ho
   exact Stp.mono (o_evs [(vG [vU 8, vN, vI 0, vU 0, vU 0, vU 0, vU 0])] (vG [vU 8, vN, vI 0, vU 0, vU 0, vU 0, vU 0]) (some (rN b5 0 [vU 8, vN, vI 0, vU 0, vU 0, vU 0, vU 0])) [] Hb rfl (by kernel_rfl) (fun q e => by cases e; exact ((hS.bk 0 rfl).atD rfl))) fun _ _ hq => ⟨gL [], fun _ _ => hq.1, (hS.below hq.2.below).sel [0] rfl⟩
  ·intro o ho a w yg29 M Hb hv hO hS
   obtain rfl := Option.some.inj ho
   exact Stp.mono (o_evs [] (.slice g10.a 2 g10.c) none [] Hb rfl (by kernel_rfl) (fun q e => by cases e)) fun _ _ hq => ⟨gL [], fun _ _ => hq.1, (hS.below hq.2.below).sel [0] rfl⟩
  ·intro o ho a w yg29 M Hb hv hO hS
   obtain rfl := Option.some.inj ho
   exact Stp.mono (o_evs [] (vG [vS [111, 117, 116, 108, 105, 110, 101, 45, 99, 111, 108, 111, 114], vF, vU 8, vN, vI 0, vU 0, vU 0, vU 0, vU 0, vO, .slice g10.a 2 g10.c, vF]) none [] (((Hb).add (hv 10 (by decide) (by decide) 19 rfl)).add (hv 11 (by decide) (by decide) 20 rfl)) rfl (by kernel_rfl) (fun q e => by cases e)) fun _ _ hq => ⟨gL [], fun _ _ => hq.1, (hS.below hq.2.below).sel [0] rfl⟩
  ·intro o ho a w yg29 M Hb hv hO hS
   obtain rfl := Option.some.inj ho
   exact Stp.mono (o_evs [(vG [vU y30.Kind, vS y30.Word, vI y30.Num, vU y30.Color.Red, vU y30.Color.Green, vU y30.Color.Blue, vU y30.Color.Alpha])] (vG [vU y30.Kind, vS y30.Word, vI y30.Num, vU y30.Color.Red, vU y30.Color.Green, vU y30.Color.Blue, vU y30.Color.Alpha]) (some (rB 74 [vS [105, 110, 108, 105, 110, 101]] (vG [vU y30.Kind, vS y30.Word, vI y30.Num, vU y30.Color.Red, vU y30.Color.Green, vU y30.Color.Blue, vU y30.Color.Alpha]))) [] Hb rfl (by subst hy30; kernel_rfl) (fun q e => by cases e; exact ((by rw [hy30]; exact (r25_word_ok _).b)))) fun _ _ hq => ⟨gL [], fun _ _ => hq.1, (hS.below hq.2.below).sel [] rfl⟩
  ·intro o ho a w yg29 M Hb hv hO hS0
   obtain rfl := Option.some.inj ho
   have H : Fr 77 ([] ++ [(1, [], vP b5), (2, [], .slice g10.a 2 g10.c), (3, [], .slice g16.a 3 g16.c), (4, [], vP b24)]) _ := Hb
   obtain ⟨X, hX⟩ : ∃ X, X = fpl [] := ⟨_, rfl⟩
   have hS : SH M X w [] w := by rw [hX]; exact hS0
   have hd := hS.hand [] [] rfl rfl
   refine Stp.mono (o_lit (T := tS) (E := 9) (zv := vN) [vS [98, 108, 111, 99, 107], vS [102, 108, 101, 120], vS [105, 110, 108, 105, 110, 101], vS [105, 110, 108, 105, 110, 101, 45, 98, 108, 111, 99, 107], vS [110, 111, 110, 101]] ([[98, 108, 111, 99, 107], [102, 108, 101, 120], [105, 110, 108, 105, 110, 101], [105, 110, 108, 105, 110, 101, 45, 98, 108, 111, 99, 107], [110, 111, 110, 101]] : List Str) [gL [], gL [], gL [], gL [], gL []] _ H hd rfl (by kernel_rfl) (by kernel_rfl) (by kernel_rfl) (by kernel_rfl) (by kernel_rfl) (by kernel_rfl) (by kernel_rfl) rfl (InnL.cons trivial (InnL.cons trivial (InnL.cons trivial (InnL.cons trivial (InnL.cons trivial InnL.nil)))))) ?_
   rintro v w2 hq
   obtain ⟨g31, rfl, hq⟩ := hq
   replace hS : SH M X w [eO 9 tS ([[98, 108, 111, 99, 107], [102, 108, 101, 120], [105, 110, 108, 105, 110, 101], [105, 110, 108, 105, 110, 101, 45, 98, 108, 111, 99, 107], [110, 111, 110, 101]] : List Str) g31] _ := hS.join [] [] rfl rfl hq
   clear hq
   rw [hX] at hS
   exact ⟨gL [g31], fun _ _ => rfl, hS.sel [0] rfl⟩
  ·intro o ho a w yg29 M Hb hv hO hS
   obtain rfl := Option.some.inj ho
   exact Stp.mono (o_evs [] (vG [vS [100, 105, 115, 112, 108, 97, 121], vF, vU y30.Kind, vS y30.Word, vI y30.Num, vU y30.Color.Red, vU y30.Color.Green, vU y30.Color.Blue, vU y30.Color.Alpha, .slice (yg29 14 0).a 5 (yg29 14 0).c, vO, vF]) none [] (((Hb).add (hv 13 (by decide) (by decide) 22 rfl)).add (hv 14 (by decide) (by decide) 23 rfl)) rfl (by kernel_rfl) (fun q e => by cases e)) fun _ _ hq => ⟨gL [], fun _ _ => hq.1, (hS.below hq.2.below).sel [0] rfl⟩
  ·intro o ho a w yg29 M Hb hv hO hS
   obtain rfl := Option.some.inj ho
   exact Stp.mono (o_evs [(vG [vU y33.Kind, vS y33.Word, vI y33.Num, vU y33.Color.Red, vU y33.Color.Green, vU y33.Color.Blue, vU y33.Color.Alpha])] (vG [vU y33.Kind, vS y33.Word, vI y33.Num, vU y33.Color.Red, vU y33.Color.Green, vU y33.Color.Blue, vU y33.Color.Alpha]) (some (rB 74 [vS [118, 105, 115, 105, 98, 108, 101]] (vG [vU y33.Kind, vS y33.Word, vI y33.Num, vU y33.Color.Red, vU y33.Color.Green, vU y33.Color.Blue, vU y33.Color.Alpha]))) [] Hb rfl (by subst hy33; kernel_rfl) (fun q e => by cases e; exact ((by rw [hy33]; exact (r25_word_ok _).b)))) fun _ _ hq => ⟨gL [], fun _ _ => hq.1, (hS.below hq.2.below).sel [] rfl⟩
  ·intro o ho a w yg29 M Hb hv hO hS0
   obtain rfl := Option.some.inj ho
   have H : Fr 77 ([] ++ [(1, [], vP b5), (2, [], .slice g10.a 2 g10.c), (3, [], .slice g16.a 3 g16.c), (4, [], vP b24)]) _ := Hb
   obtain ⟨X, hX⟩ : ∃ X, X = fpl [] := ⟨_, rfl⟩
   have hS : SH M X w [] w := by rw [hX]; exact hS0
   have hd := hS.hand [] [] rfl rfl
   refine Stp.mono (o_lit (T := tS) (E := 9) (zv := vN) [vS [99, 111, 108, 108, 97, 112, 115, 101], vS [104, 105, 100, 100, 101, 110], vS [118, 105, 115, 105, 98, 108, 101]] ([[99, 111, 108, 108, 97, 112, 115, 101], [104, 105, 100, 100, 101, 110], [118, 105, 115, 105, 98, 108, 101]] : List Str) [gL [], gL [], gL []] _ H hd rfl (by kernel_rfl) (by kernel_rfl) (by kernel_rfl) (by kernel_rfl) (by kernel_rfl) (by kernel_rfl) (by kernel_rfl) rfl (InnL.cons trivial (InnL.cons trivial (InnL.cons trivial InnL.nil)))) ?_
   rintro v w2 hq
   obtain ⟨g34, rfl, hq⟩ := hq
   replace hS : SH M X w [eO 9 tS ([[99, 111, 108, 108, 97, 112, 115, 101], [104, 105, 100, 100, 101, 110], [118, 105, 115, 105, 98, 108, 101]] : List Str) g34] _ := hS.join [] [] rfl rfl hq
   clear hq
   rw [hX] at hS
   exact ⟨gL [g34], fun _ _ => rfl, hS.sel [0] rfl⟩
  ·intro o ho a w yg29 M Hb hv hO hS
   obtain rfl := Option.some.inj ho
   exact Stp.mono (o_evs [] (vG [vS [118, 105, 115, 105, 98, 105, 108, 105, 116, 121], vT, vU y33.Kind, vS y33.Word, vI y33.Num, vU y33.Color.Red, vU y33.Color.Green, vU y33.Color.Blue, vU y33.Color.Alpha, .slice (yg29 17 0).a 3 (yg29 17 0).c, vO, vF]) none [] (((Hb).add (hv 16 (by decide) (by decide) 25 rfl)).add (hv 17 (by decide) (by decide) 26 rfl)) rfl (by kernel_rfl) (fun q e => by cases e)) fun _ _ hq => ⟨gL [], fun _ _ => hq.1, (hS.below hq.2.below).sel [0] rfl⟩
  ·intro o ho a w yg29 M Hb hv hO hS
   obtain rfl := Option.some.inj ho
   exact Stp.mono (o_evs [(vG [vU 1, vS [97, 117, 116, 111], vI 0, vU 0, vU 0, vU 0, vU 0])] (vG [vU 1, vS [97, 117, 116, 111], vI 0, vU 0, vU 0, vU 0, vU 0]) (some (fun wz => V.atN b24 0 [vU 1, vS [97, 117, 116, 111], vI 0, vU 0, vU 0, vU 0, vU 0] 0 wz)) [] Hb rfl (by kernel_rfl) (fun q e => by cases e; exact ((hS.bk 0 rfl).atD rfl))) fun _ _ hq => ⟨gL [], fun _ _ => hq.1, (hS.below hq.2.below).sel [0] rfl⟩
  ·intro o ho a w yg29 M Hb hv hO hS0
   obtain rfl := Option.some.inj ho
   have H : Fr 77 ([] ++ [(1, [], vP b5), (2, [], .slice g10.a 2 g10.c), (3, [], .slice g16.a 3 g16.c), (4, [], vP b24)]) _ := Hb
   obtain ⟨X, hX⟩ : ∃ X, X = fpl [] := ⟨_, rfl⟩
   have hS : SH M X w [] w := by rw [hX]; exact hS0
   have hd := hS.hand [] [] rfl rfl
   refine Stp.mono (o_lit (T := tS) (E := 9) (zv := vN) [vS [97, 117, 116, 111]] ([[97, 117, 116, 111]] : List Str) [gL []] _ H hd rfl (by kernel_rfl) (by kernel_rfl) (by kernel_rfl) (by kernel_rfl) (by kernel_rfl) (by kernel_rfl) (by kernel_rfl) rfl (InnL.cons trivial InnL.nil)) ?_
   rintro v w2 hq
   obtain ⟨g36, rfl, hq⟩ := hq
   replace hS : SH M X w [eO 9 tS ([[97, 117, 116, 111]] : List Str) g36] _ := hS.join [] [] rfl rfl hq
   clear hq
   rw [hX] at hS
   exact ⟨gL [g36], fun _ _ => rfl, hS.sel [0] rfl⟩
  ·intro o ho a w yg29 M Hb hv hO hS
   obtain rfl := Option.some.inj ho
   exact Stp.mono (o_evs [] (.slice g16.a 3 g16.c) none [] Hb rfl (by kernel_rfl) (fun q e => by cases e)) fun _ _ hq => ⟨gL [], fun _ _ => hq.1, (hS.below hq.2.below).sel [0] rfl⟩
  ·intro o ho a w yg29 M Hb hv hO hS
   obtain rfl := Option.some.inj ho
   exact Stp.mono (o_evs [] (vG [vS [119, 105, 100, 116, 104], vF, vU 1, vS [97, 117, 116, 111], vI 0, vU 0, vU 0, vU 0, vU 0, .slice (yg29 20 0).a 1 (yg29 20 0).c, .slice g16.a 3 g16.c, vT]) none [] ((((Hb).add (hv 19 (by decide) (by decide) 28 rfl)).add (hv 20 (by decide) (by decide) 29 rfl)).add (hv 21 (by decide) (by decide) 30 rfl)) rfl (by kernel_rfl) (fun q e => by cases e)) fun _ _ hq => ⟨gL [], fun _ _ => hq.1, (hS.below hq.2.below).sel [0, 1] rfl⟩
  ·intro o ho a w yg29 M Hb hv hO hS
   obtain rfl := Option.some.inj ho
   exact Stp.mono (o_evs [(vG [vU 1, vS [97, 117, 116, 111], vI 0, vU 0, vU 0, vU 0, vU 0])] (vG [vU 1, vS [97, 117, 116, 111], vI 0, vU 0, vU 0, vU 0, vU 0]) (some (fun wz => V.atN b24 0 [vU 1, vS [97, 117, 116, 111], vI 0, vU 0, vU 0, vU 0, vU 0] 0 wz)) [] Hb rfl (by kernel_rfl) (fun q e => by cases e; exact ((hS.bk 0 rfl).atD rfl))) fun _ _ hq => ⟨gL [], fun _ _ => hq.1, (hS.below hq.2.below).sel [0] rfl⟩
  ·intro o ho a w yg29 M Hb hv hO hS0
   obtain rfl := Option.some.inj ho
   have H : Fr 77 ([] ++ [(1, [], vP b5), (2, [], .slice g10.a 2 g10.c), (3, [], .slice g16.a 3 g16.c), (4, [], vP b24)]) _ := Hb
   obtain ⟨X, hX⟩ : ∃ X, X = fpl [] := ⟨_, rfl⟩
   have hS : SH M X w [] w := by rw [hX]; exact hS0
   have hd := hS.hand [] [] rfl rfl
   refine Stp.mono (o_lit (T := tS) (E := 9) (zv := vN) [vS [97, 117, 116, 111]] ([[97, 117, 116, 111]] : List Str) [gL []] _ H hd rfl (by kernel_rfl) (by kernel_rfl) (by kernel_rfl) (by kernel_rfl) (by kernel_rfl) (by kernel_rfl) (by kernel_rfl) rfl (InnL.cons trivial InnL.nil)) ?_
   rintro v w2 hq
   obtain ⟨g38, rfl, hq⟩ := hq
   replace hS : SH M X w [eO 9 tS ([[97, 117, 116, 111]] : List Str) g38] _ := hS.join [] [] rfl rfl hq
   clear hq
   rw [hX] at hS
   exact ⟨gL [g38], fun _ _ => rfl, hS.sel [0] rfl⟩
  ·intro o ho a w yg29 M Hb hv hO hS
   obtain rfl := Option.some.inj ho
   exact Stp.mono (o_evs [] (.slice g16.a 3 g16.c) none [] Hb rfl (by kernel_rfl) (fun q e => by cases e)) fun _ _ hq => ⟨gL [], fun _ _ => hq.1, (hS.below hq.2.below).sel [0] rfl⟩
  ·intro o ho a w yg29 M Hb hv hO hS
   obtain rfl := Option.some.inj ho
   exact Stp.mono (o_evs [] (vG [vS [104, 101, 105, 103, 104, 116], vF, vU 1, vS [97, 117, 116, 111], vI 0, vU 0, vU 0, vU 0, vU 0, .slice (yg29 24 0).a 1 (yg29 24 0).c, .slice g16.a 3 g16.c, vT]) none [] ((((Hb).add (hv 23 (by decide) (by decide) 32 rfl)).add (hv 24 (by decide) (by decide) 33 rfl)).add (hv 25 (by decide) (by decide) 34 rfl)) rfl (by kernel_rfl) (fun q e => by cases e)) fun _ _ hq => ⟨gL [], fun _ _ => hq.1, (hS.below hq.2.below).sel [0, 1] rfl⟩
  ·intro o ho a w yg29 M Hb hv hO hS
   obtain rfl := Option.some.inj ho
   exact Stp.mono (o_evs [(vG [vU y40.Kind, vS y40.Word, vI y40.Num, vU y40.Color.Red, vU y40.Color.Green, vU y40.Color.Blue, vU y40.Color.Alpha])] (vG [vU y40.Kind, vS y40.Word, vI y40.Num, vU y40.Color.Red, vU y40.Color.Green, vU y40.Color.Blue, vU y40.Color.Alpha]) (some (rB 75 [vI 0] (vG [vU y40.Kind, vS y40.Word, vI y40.Num, vU y40.Color.Red, vU y40.Color.Green, vU y40.Color.Blue, vU y40.Color.Alpha]))) [] Hb rfl (by subst hy40; kernel_rfl) (fun q e => by cases e; exact ((by rw [hy40]; exact (r25_px_ok _).b)))) fun _ _ hq => ⟨gL [], fun _ _ => hq.1, (hS.below hq.2.below).sel [] rfl⟩
  ·intro o ho a w yg29 M Hb hv hO hS0
   obtain rfl := Option.some.inj ho
   have H : Fr 77 ([] ++ [(1, [], vP b5), (2, [], .slice g10.a 2 g10.c), (3, [], .slice g16.a 3 g16.c), (4, [], vP b24)]) _ := Hb
   obtain ⟨X, hX⟩ : ∃ X, X = fpl [] := ⟨_, rfl⟩
   have hS : SH M X w [] w := by rw [hX]; exact hS0
   have hd := hS.hand [] [] rfl rfl
   refine Stp.mono (o_lit (T := tS) (E := 9) (zv := vN) [vS [97, 117, 116, 111]] ([[97, 117, 116, 111]] : List Str) [gL []] _ H hd rfl (by kernel_rfl) (by kernel_rfl) (by kernel_rfl) (by kernel_rfl) (by kernel_rfl) (by kernel_rfl) (by kernel_rfl) rfl (InnL.cons trivial InnL.nil)) ?_
   rintro v w2 hq
   obtain ⟨g41, rfl, hq⟩ := hq
   replace hS : SH M X w [eO 9 tS ([[97, 117, 116, 111]] : List Str) g41] _ := hS.join [] [] rfl rfl hq
   clear hq
   rw [hX] at hS
   exact ⟨gL [g41], fun _ _ => rfl, hS.sel [0] rfl⟩
  ·intro o ho a w yg29 M Hb hv hO hS
   obtain rfl := Option.some.inj ho
   exact Stp.mono (o_evs [] (.slice g16.a 3 g16.c) none [] Hb rfl (by kernel_rfl) (fun q e => by cases e)) fun _ _ hq => ⟨gL [], fun _ _ => hq.1, (hS.below hq.2.below).sel [0] rfl⟩
  ·intro o ho a w yg29 M Hb hv hO hS
   obtain rfl := Option.some.inj ho
   exact Stp.mono (o_evs [] (vG [vS [109, 97, 114, 103, 105, 110, 45, 116, 111, 112], vF, vU y40.Kind, vS y40.Word, vI y40.Num, vU y40.Color.Red, vU y40.Color.Green, vU y40.Color.Blue, vU y40.Color.Alpha, .slice (yg29 28 0).a 1 (yg29 28 0).c, .slice g16.a 3 g16.c, vF]) none [] ((((Hb).add (hv 27 (by decide) (by decide) 36 rfl)).add (hv 28 (by decide) (by decide) 37 rfl)).add (hv 29 (by decide) (by decide) 38 rfl)) rfl (by kernel_rfl) (fun q e => by cases e)) fun _ _ hq => ⟨gL [], fun _ _ => hq.1, (hS.below hq.2.below).sel [0, 1] rfl⟩
  ·intro o ho a w yg29 M Hb hv hO hS
   obtain rfl := Option.some.inj ho
   exact Stp.mono (o_evs [(vG [vU y43.Kind, vS y43.Word, vI y43.Num, vU y43.Color.Red, vU y43.Color.Green, vU y43.Color.Blue, vU y43.Color.Alpha])] (vG [vU y43.Kind, vS y43.Word, vI y43.Num, vU y43.Color.Red, vU y43.Color.Green, vU y43.Color.Blue, vU y43.Color.Alpha]) (some (rB 75 [vI 0] (vG [vU y43.Kind, vS y43.Word, vI y43.Num, vU y43.Color.Red, vU y43.Color.Green, vU y43.Color.Blue, vU y43.Color.Alpha]))) [] Hb rfl (by subst hy43; kernel_rfl) (fun q e => by cases e; exact ((by rw [hy43]; exact (r25_px_ok _).b)))) fun _ _ hq => ⟨gL [], fun _ _ => hq.1, (hS.below hq.2.below).sel [] rfl⟩
  ·intro o ho a w yg29 M Hb hv hO hS0
   obtain rfl := Option.some.inj ho
   have H : Fr 77 ([] ++ [(1, [], vP b5), (2, [], .slice g10.a 2 g10.c), (3, [], .slice g16.a 3 g16.c), (4, [], vP b24)]) _ := Hb
   obtain ⟨X, hX⟩ : ∃ X, X = fpl [] := ⟨_, rfl⟩
   have hS : SH M X w [] w := by rw [hX]; exact hS0
   have hd := hS.hand [] [] rfl rfl
   refine Stp.mono (o_lit (T := tS) (E := 9) (zv := vN) [vS [97, 117, 116, 111]] ([[97, 117, 116, 111]] : List Str) [gL []] _ H hd rfl (by kernel_rfl) (by kernel_rfl) (by kernel_rfl) (by kernel_rfl) (by kernel_rfl) (by kernel_rfl) (by kernel_rfl) rfl (InnL.cons trivial InnL.nil)) ?_
   rintro v w2 hq
   obtain ⟨g44, rfl, hq⟩ := hq
   replace hS : SH M X w [eO 9 tS ([[97, 117, 116, 111]] : List Str) g44] _ := hS.join [] [] rfl rfl hq
   clear hq
   rw [hX] at hS
   exact ⟨gL [g44], fun _ _ => rfl, hS.sel [0] rfl⟩
  ·intro o ho a w yg29 M Hb hv hO hS
   obtain rfl := Option.some.inj ho
   exact Stp.mono (o_evs [] (.slice g16.a 3 g16.c) none [] Hb rfl (by kernel_rfl) (fun q e => by cases e)) fun _ _ hq => ⟨gL [], fun _ _ => hq.1, (hS.below hq.2.below).sel [0] rfl⟩
  ·intro o ho a w yg29 M Hb hv hO hS
   obtain rfl := Option.some.inj ho
   exact Stp.mono (o_evs [] (vG [vS [109, 97, 114, 103, 105, 110, 45, 114, 105, 103, 104, 116], vF, vU y43.Kind, vS y43.Word, vI y43.Num, vU y43.Color.Red, vU y43.Color.Green, vU y43.Color.Blue, vU y43.Color.Alpha, .slice (yg29 32 0).a 1 (yg29 32 0).c, .slice g16.a 3 g16.c, vF]) none [] ((((Hb).add (hv 31 (by decide) (by decide) 40 rfl)).add (hv 32 (by decide) (by decide) 41 rfl)).add (hv 33 (by decide) (by decide) 42 rfl)) rfl (by kernel_rfl) (fun q e => by cases e)) fun _ _ hq => ⟨gL [], fun _ _ => hq.1, (hS.below hq.2.below).sel [0, 1] rfl⟩
  ·intro o ho a w yg29 M Hb hv hO hS
   obtain rfl := Option.some.inj ho
   exact Stp.mono (o_evs [(vG [vU y46.Kind, vS y46.Word, vI y46.Num, vU y46.Color.Red, vU y46.Color.Green, vU y46.Color.Blue, vU y46.Color.Alpha])] (vG [vU y46.Kind, vS y46.Word, vI y46.Num, vU y46.Color.Red, vU y46.Color.Green, vU y46.Color.Blue, vU y46.Color.Alpha]) (some (rB 75 [vI 0] (vG [vU y46.Kind, vS y46.Word, vI y46.Num, vU y46.Color.Red, vU y46.Color.Green, vU y46.Color.Blue, vU y46.Color.Alpha]))) [] Hb rfl (by subst hy46; kernel_rfl) (fun q e => by cases e; exact ((by rw [hy46]; exact (r25_px_ok _).b)))) fun _ _ hq => ⟨gL [], fun _ _ => hq.1, (hS.below hq.2.below).sel [] rfl⟩
  ·intro o ho a w yg29 M Hb hv hO hS0
   obtain rfl := Option.some.inj ho
   have H : Fr 77 ([] ++ [(1, [], vP b5), (2, [], .slice g10.a 2 g10.c), (3, [], .slice g16.a 3 g16.c), (4, [], vP b24)]) _ := Hb
   obtain ⟨X, hX⟩ : ∃ X, X = fpl [] := ⟨_, rfl⟩
   have hS : SH M X w [] w := by rw [hX]; exact hS0
   have hd := hS.hand [] [] rfl rfl
   refine Stp.mono (o_lit (T := tS) (E := 9) (zv := vN) [vS [97, 117, 116, 111]] ([[97, 117, 116, 111]] : List Str) [gL []] _ H hd rfl (by kernel_rfl) (by kernel_rfl) (by kernel_rfl) (by kernel_rfl) (by kernel_rfl) (by kernel_rfl) (by kernel_rfl) rfl (InnL.cons trivial InnL.nil)) ?_
   rintro v w2 hq
   obtain ⟨g47, rfl, hq⟩ := hq
   replace hS : SH M X w [eO 9 tS ([[97, 117, 116, 111]] : List Str) g47] _ := hS.join [] [] rfl rfl hq
   clear hq
   rw [hX] at hS
   exact ⟨gL [g47], fun _ _ => rfl, hS.sel [0] rfl⟩
  ·intro o ho a w yg29 M Hb hv hO hS
   obtain rfl := Option.some.inj ho
   exact Stp.mono (o_evs [] (.slice g16.a 3 g16.c) none [] Hb rfl (by kernel_rfl) (fun q e => by cases e)) fun _ _ hq => ⟨gL [], fun _ _ => hq.1, (hS.below hq.2.below).sel [0] rfl⟩
  ·intro o ho a w yg29 M Hb hv hO hS
   obtain rfl := Option.some.inj ho
   exact Stp.mono (o_evs [] (vG [vS [109, 97, 114, 103, 105, 110, 45, 98, 111, 116, 116, 111, 109], vF, vU y46.Kind, vS y46.Word, vI y46.Num, vU y46.Color.Red, vU y46.Color.Green, vU y46.Color.Blue, vU y46.Color.Alpha, .slice (yg29 36 0).a 1 (yg29 36 0).c, .slice g16.a 3 g16.c, vF]) none [] ((((Hb).add (hv 35 (by decide) (by decide) 44 rfl)).add (hv 36 (by decide) (by decide) 45 rfl)).add (hv 37 (by decide) (by decide) 46 rfl)) rfl (by kernel_rfl) (fun q e => by cases e)) fun _ _ hq => ⟨gL [], fun _ _ => hq.1, (hS.below hq.2.below).sel [0, 1] rfl⟩
  ·intro o ho a w yg29 M Hb hv hO hS
   obtain rfl := Option.some.inj ho
   exact Stp.mono (o_evs [(vG [vU y49.Kind, vS y49.Word, vI y49.Num, vU y49.Color.Red, vU y49.Color.Green, vU y49.Color.Blue, vU y49.Color.Alpha])] (vG [vU y49.Kind, vS y49.Word, vI y49.Num, vU y49.Color.Red, vU y49.Color.Green, vU y49.Color.Blue, vU y49.Color.Alpha]) (some (rB 75 [vI 0] (vG [vU y49.Kind, vS y49.Word, vI y49.Num, vU y49.Color.Red, vU y49.Color.Green, vU y49.Color.Blue, vU y49.Color.Alpha]))) [] Hb rfl (by subst hy49; kernel_rfl) (fun q e => by cases e; exact ((by rw [hy49]; exact (r25_px_ok _).b)))) fun _ _ hq => ⟨gL [], fun _ _ => hq.1, (hS.below hq.2.below).sel [] rfl⟩
  ·intro o ho a w yg29 M Hb hv hO hS0
   obtain rfl := Option.some.inj ho
   have H : Fr 77 ([] ++ [(1, [], vP b5), (2, [], .slice g10.a 2 g10.c), (3, [], .slice g16.a 3 g16.c), (4, [], vP b24)]) _ := Hb
   obtain ⟨X, hX⟩ : ∃ X, X = fpl [] := ⟨_, rfl⟩
   have hS : SH M X w [] w := by rw [hX]; exact hS0
   have hd := hS.hand [] [] rfl rfl
   refine Stp.mono (o_lit (T := tS) (E := 9) (zv := vN) [vS [97, 117, 116, 111]] ([[97, 117, 116, 111]] : List Str) [gL []] _ H hd rfl (by kernel_rfl) (by kernel_rfl) (by kernel_rfl) (by kernel_rfl) (by kernel_rfl) (by kernel_rfl) (by kernel_rfl) rfl (InnL.cons trivial InnL.nil)) ?_
   rintro v w2 hq
   obtain ⟨g50, rfl, hq⟩ := hq
   replace hS : SH M X w [eO 9 tS ([[97, 117, 116, 111]] : List Str) g50] _ := hS.join [] [] rfl rfl hq
   clear hq
   rw [hX] at hS
   exact ⟨gL [g50], fun _ _ => rfl, hS.sel [0] rfl⟩
  ·intro o ho a w yg29 M Hb hv hO hS
   obtain rfl := Option.some.inj ho
   exact Stp.mono (o_evs [] (.slice g16.a 3 g16.c) none [] Hb rfl (by kernel_rfl) (fun q e => by cases e)) fun _ _ hq => ⟨gL [], fun _ _ => hq.1, (hS.below hq.2.below).sel [0] rfl⟩
  ·intro o ho a w yg29 M Hb hv hO hS
   obtain rfl := Option.some.inj ho
   exact Stp.mono (o_evs [] (vG [vS [109, 97, 114, 103, 105, 110, 45, 108, 101, 102, 116], vF, vU y49.Kind, vS y49.Word, vI y49.Num, vU y49.Color.Red, vU y49.Color.Green, vU y49.Color.Blue, vU y49.Color.Alpha, .slice (yg29 40 0).a 1 (yg29 40 0).c, .slice g16.a 3 g16.c, vF]) none [] ((((Hb).add (hv 39 (by decide) (by decide) 48 rfl)).add (hv 40 (by decide) (by decide) 49 rfl)).add (hv 41 (by decide) (by decide) 50 rfl)) rfl (by kernel_rfl) (fun q e => by cases e)) fun _ _ hq => ⟨gL [], fun _ _ => hq.1, (hS.below hq.2.below).sel [0, 1] rfl⟩
  ·intro o ho a w yg29 M Hb hv hO hS
   obtain rfl := Option.some.inj ho
   exact Stp.mono (o_evs [(vG [vU y52.Kind, vS y52.Word, vI y52.Num, vU y52.Color.Red, vU y52.Color.Green, vU y52.Color.Blue, vU y52.Color.Alpha])] (vG [vU y52.Kind, vS y52.Word, vI y52.Num, vU y52.Color.Red, vU y52.Color.Green, vU y52.Color.Blue, vU y52.Color.Alpha]) (some (rB 75 [vI 16000] (vG [vU y52.Kind, vS y52.Word, vI y52.Num, vU y52.Color.Red, vU y52.Color.Green, vU y52.Color.Blue, vU y52.Color.Alpha]))) [] Hb rfl (by subst hy52; kernel_rfl) (fun q e => by cases e; exact ((by rw [hy52]; exact (r25_px_ok _).b)))) fun _ _ hq => ⟨gL [], fun _ _ => hq.1, (hS.below hq.2.below).sel [] rfl⟩
  ·intro o ho a w yg29 M Hb hv hO hS
   obtain rfl := Option.some.inj ho
   exact Stp.mono (o_evs [] (.slice g16.a 3 g16.c) none [] Hb rfl (by kernel_rfl) (fun q e => by cases e)) fun _ _ hq => ⟨gL [], fun _ _ => hq.1, (hS.below hq.2.below).sel [0] rfl⟩
  ·intro o ho a w yg29 M Hb hv hO hS
   obtain rfl := Option.some.inj ho
   exact Stp.mono (o_evs [] (vG [vS [102, 111, 110, 116, 45, 115, 105, 122, 101], vT, vU y52.Kind, vS y52.Word, vI y52.Num, vU y52.Color.Red, vU y52.Color.Green, vU y52.Color.Blue, vU y52.Color.Alpha, vO, .slice g16.a 3 g16.c, vT]) none [] (((Hb).add (hv 43 (by decide) (by decide) 52 rfl)).add (hv 44 (by decide) (by decide) 53 rfl)) rfl (by kernel_rfl) (fun q e => by cases e)) fun _ _ hq => ⟨gL [], fun _ _ => hq.1, (hS.below hq.2.below).sel [0] rfl⟩
  ·intro o ho a w yg29 M Hb hv hO hS
   obtain rfl := Option.some.inj ho
   exact Stp.mono (o_evs [(vG [vU y53.Kind, vS y53.Word, vI y53.Num, vU y53.Color.Red, vU y53.Color.Green, vU y53.Color.Blue, vU y53.Color.Alpha])] (vG [vU y53.Kind, vS y53.Word, vI y53.Num, vU y53.Color.Red, vU y53.Color.Green, vU y53.Color.Blue, vU y53.Color.Alpha]) (some (rB 74 [vS [110, 111, 114, 109, 97, 108]] (vG [vU y53.Kind, vS y53.Word, vI y53.Num, vU y53.Color.Red, vU y53.Color.Green, vU y53.Color.Blue, vU y53.Color.Alpha]))) [] Hb rfl (by subst hy53; kernel_rfl) (fun q e => by cases e; exact ((by rw [hy53]; exact (r25_word_ok _).b)))) fun _ _ hq => ⟨gL [], fun _ _ => hq.1, (hS.below hq.2.below).sel [] rfl⟩
  ·intro o ho a w yg29 M Hb hv hO hS0
   obtain rfl := Option.some.inj ho
   have H : Fr 77 ([] ++ [(1, [], vP b5), (2, [], .slice g10.a 2 g10.c), (3, [], .slice g16.a 3 g16.c), (4, [], vP b24)]) _ := Hb
   obtain ⟨X, hX⟩ : ∃ X, X = fpl [] := ⟨_, rfl⟩
   have hS : SH M X w [] w := by rw [hX]; exact hS0
   have hd := hS.hand [] [] rfl rfl
   refine Stp.mono (o_lit (T := tS) (E := 9) (zv := vN) [vS [110, 111, 114, 109, 97, 108]] ([[110, 111, 114, 109, 97, 108]] : List Str) [gL []] _ H hd rfl (by kernel_rfl) (by kernel_rfl) (by kernel_rfl) (by kernel_rfl) (by kernel_rfl) (by kernel_rfl) (by kernel_rfl) rfl (InnL.cons trivial InnL.nil)) ?_
   rintro v w2 hq
   obtain ⟨g54, rfl, hq⟩ := hq
   replace hS : SH M X w [eO 9 tS ([[110, 111, 114, 109, 97, 108]] : List Str) g54] _ := hS.join [] [] rfl rfl hq
   clear hq
   rw [hX] at hS
   exact ⟨gL [g54], fun _ _ => rfl, hS.sel [0] rfl⟩
  ·intro o ho a w yg29 M Hb hv hO hS0
   obtain rfl := Option.some.inj ho
   have H : Fr 77 ([] ++ [(1, [], vP b5), (2, [], .slice g10.a 2 g10.c), (3, [], .slice g16.a 3 g16.c), (4, [], vP b24)]) _ := Hb
   obtain ⟨X, hX⟩ : ∃ X, X = fpl [] := ⟨_, rfl⟩
   have hS : SH M X w [] w := by rw [hX]; exact hS0
   have hd := hS.hand [] [] rfl rfl
   refine Stp.mono (o_lit0 (T := (tI .u8)) (E := 5) hd (by kernel_rfl) (by kernel_rfl)) ?_
   rintro v w2 hq
   obtain ⟨g56, rfl, hq⟩ := hq
   replace hS : SH M X w [eO 5 (tI .u8) ([] : List Int) g56] _ := hS.join [] [] rfl rfl hq
   clear hq
   rw [hX] at hS
   exact ⟨gL [g56], fun _ _ => rfl, hS.sel [0] rfl⟩
  ·intro o ho a w yg29 M Hb hv hO hS
   obtain rfl := Option.some.inj ho
   exact Stp.mono (o_evs [] (.slice g16.a 3 g16.c) none [] Hb rfl (by kernel_rfl) (fun q e => by cases e)) fun _ _ hq => ⟨gL [], fun _ _ => hq.1, (hS.below hq.2.below).sel [0] rfl⟩
  ·intro o ho a w yg29 M Hb hv hO hS0
   obtain rfl := Option.some.inj ho
   have H : Fr 77 ([(58, [], .slice g16.a 3 g16.c), (57, [], .slice (yg29 48 0).a 0 (yg29 48 0).c)] ++ [(1, [], vP b5), (2, [], .slice g10.a 2 g10.c), (3, [], .slice g16.a 3 g16.c), (4, [], vP b24)]) _ := ((Hb).add (hv 48 (by decide) (by decide) 57 rfl)).add (hv 49 (by decide) (by decide) 58 rfl)
   obtain ⟨X, hX⟩ : ∃ X, X = fpl [eO 5 (tI .u8) ([] : List Int) (yg29 48 0), eO 5 (tI .u8) ([2, 3, 4] : List Int) g16] := ⟨_, rfl⟩
   have hS : SH M X w [eO 5 (tI .u8) ([] : List Int) (yg29 48 0), eO 5 (tI .u8) ([2, 3, 4] : List Int) g16] w := by rw [hX]; exact hS0
   have hd := hS.hand [0, 1] [] rfl rfl
   refine Stp.mono (o_app2 (T := (tI .u8)) (zv := vU 0) (g1 := (yg29 48 0)) (g2 := g16) (l1 := ([] : List Int)) (l2 := ([2, 3, 4] : List Int)) q59 hq59.symm H hd rfl rfl rfl rfl rfl rfl rfl (by kernel_rfl) (by kernel_rfl) rfl rfl ho58) ?_
   rintro v w2 hq
   obtain ⟨g60, rfl, hq⟩ := hq
   replace hS : SH M X w [eO 5 (tI .u8) q59 g60, eO 5 (tI .u8) ([2, 3, 4] : List Int) g16] _ := hS.join [0, 1] [] rfl rfl hq
   clear hq
   rw [hX] at hS
   exact ⟨gL [g60], fun _ _ => rfl, hS.sel [0, 1] rfl⟩
  ·intro o ho a w yg29 M Hb hv hO hS0
   obtain rfl := Option.some.inj ho
   have H : Fr 77 ([] ++ [(1, [], vP b5), (2, [], .slice g10.a 2 g10.c), (3, [], .slice g16.a 3 g16.c), (4, [], vP b24)]) _ := Hb
   obtain ⟨X, hX⟩ : ∃ X, X = fpl [] := ⟨_, rfl⟩
   have hS : SH M X w [] w := by rw [hX]; exact hS0
   have hd := hS.hand [] [] rfl rfl
   refine Stp.mono (o_lit (T := (tI .u8)) (E := 5) (zv := vU 0) [vU 5] ([5] : List Int) [gL []] _ H hd rfl (by kernel_rfl) (by kernel_rfl) (by kernel_rfl) (by kernel_rfl) (by kernel_rfl) (by kernel_rfl) (by kernel_rfl) rfl (InnL.cons trivial InnL.nil)) ?_
   rintro v w2 hq
   obtain ⟨g61, rfl, hq⟩ := hq
   replace hS : SH M X w [eO 5 (tI .u8) ([5] : List Int) g61] _ := hS.join [] [] rfl rfl hq
   clear hq
   rw [hX] at hS
   exact ⟨gL [g61], fun _ _ => rfl, hS.sel [0] rfl⟩
  ·intro o ho a w yg29 M Hb hv hO hS0
   obtain rfl := Option.some.inj ho
   have H : Fr 77 ([(60, [], .slice (yg29 51 0).a 1 (yg29 51 0).c), (59, [], .slice (yg29 50 0).a q59.length (yg29 50 0).c)] ++ [(1, [], vP b5), (2, [], .slice g10.a 2 g10.c), (3, [], .slice g16.a 3 g16.c), (4, [], vP b24)]) _ := ((Hb).add (hv 50 (by decide) (by decide) 59 rfl)).add (hv 51 (by decide) (by decide) 60 rfl)
   obtain ⟨X, hX⟩ : ∃ X, X = fpl [eO 5 (tI .u8) q59 (yg29 50 0), eO 5 (tI .u8) ([5] : List Int) (yg29 51 0)] := ⟨_, rfl⟩
   have hS : SH M X w [eO 5 (tI .u8) q59 (yg29 50 0), eO 5 (tI .u8) ([5] : List Int) (yg29 51 0)] w := by rw [hX]; exact hS0
   have hd := hS.hand [0, 1] [] rfl rfl
   refine Stp.mono (o_app2 (T := (tI .u8)) (zv := vU 0) (g1 := (yg29 50 0)) (g2 := (yg29 51 0)) (l1 := q59) (l2 := ([5] : List Int)) q64 hq64.symm H hd rfl rfl rfl rfl rfl rfl rfl (by kernel_rfl) (by kernel_rfl) rfl rfl ho63) ?_
   rintro v w2 hq
   obtain ⟨g65, rfl, hq⟩ := hq
   replace hS : SH M X w [eO 5 (tI .u8) q64 g65, eO 5 (tI .u8) ([5] : List Int) (yg29 51 0)] _ := hS.join [0, 1] [] rfl rfl hq
   clear hq
   rw [hX] at hS
   exact ⟨gL [g65], fun _ _ => rfl, hS.sel [0, 1] rfl⟩
  ·intro o ho a w yg29 M Hb hv hO hS
   obtain rfl := Option.some.inj ho
   exact Stp.mono (o_evs [] (vG [vS [108, 105, 110, 101, 45, 104, 101, 105, 103, 104, 116], vT, vU y53.Kind, vS y53.Word, vI y53.Num, vU y53.Color.Red, vU y53.Color.Green, vU y53.Color.Blue, vU y53.Color.Alpha, .slice (yg29 47 0).a 1 (yg29 47 0).c, .slice (yg29 52 0).a q64.length (yg29 52 0).c, vT]) none [] ((((Hb).add (hv 46 (by decide) (by decide) 55 rfl)).add (hv 47 (by decide) (by decide) 56 rfl)).add (hv 52 (by decide) (by decide) 61 rfl)) rfl (by kernel_rfl) (fun q e => by cases e)) fun _ _ hq => ⟨gL [], fun _ _ => hq.1, (hS.below hq.2.below).sel [0, 1] rfl⟩
  ·intro o ho a w yg29 M Hb hv hO hS
   obtain rfl := Option.some.inj ho
   exact Stp.mono (o_evs [(vG [vU y66.Kind, vS y66.Word, vI y66.Num, vU y66.Color.Red, vU y66.Color.Green, vU y66.Color.Blue, vU y66.Color.Alpha])] (vG [vU y66.Kind, vS y66.Word, vI y66.Num, vU y66.Color.Red, vU y66.Color.Green, vU y66.Color.Blue, vU y66.Color.Alpha]) (some (rB 74 [vS [108, 101, 102, 116]] (vG [vU y66.Kind, vS y66.Word, vI y66.Num, vU y66.Color.Red, vU y66.Color.Green, vU y66.Color.Blue, vU y66.Color.Alpha]))) [] Hb rfl (by subst hy66; kernel_rfl) (fun q e => by cases e; exact ((by rw [hy66]; exact (r25_word_ok _).b)))) fun _ _ hq => ⟨gL [], fun _ _ => hq.1, (hS.below hq.2.below).sel [] rfl⟩
  ·intro o ho a w yg29 M Hb hv hO hS0
   obtain rfl := Option.some.inj ho
   have H : Fr 77 ([] ++ [(1, [], vP b5), (2, [], .slice g10.a 2 g10.c), (3, [], .slice g16.a 3 g16.c), (4, [], vP b24)]) _ := Hb
   obtain ⟨X, hX⟩ : ∃ X, X = fpl [] := ⟨_, rfl⟩
   have hS : SH M X w [] w := by rw [hX]; exact hS0
   have hd := hS.hand [] [] rfl rfl
   refine Stp.mono (o_lit (T := tS) (E := 9) (zv := vN) [vS [99, 101, 110, 116, 101, 114], vS [106, 117, 115, 116, 105, 102, 121], vS [108, 101, 102, 116], vS [114, 105, 103, 104, 116]] ([[99, 101, 110, 116, 101, 114], [106, 117, 115, 116, 105, 102, 121], [108, 101, 102, 116], [114, 105, 103, 104, 116]] : List Str) [gL [], gL [], gL [], gL []] _ H hd rfl (by kernel_rfl) (by kernel_rfl) (by kernel_rfl) (by kernel_rfl) (by kernel_rfl) (by kernel_rfl) (by kernel_rfl) rfl (InnL.cons trivial (InnL.cons trivial (InnL.cons trivial (InnL.cons trivial InnL.nil))))) ?_
   rintro v w2 hq
   obtain ⟨g67, rfl, hq⟩ := hq
   replace hS : SH M X w [eO 9 tS ([[99, 101, 110, 116, 101, 114], [106, 117, 115, 116, 105, 102, 121], [108, 101, 102, 116], [114, 105, 103, 104, 116]] : List Str) g67] _ := hS.join [] [] rfl rfl hq
   clear hq
   rw [hX] at hS
   exact ⟨gL [g67], fun _ _ => rfl, hS.sel [0] rfl⟩
  ·intro o ho a w yg29 M Hb hv hO hS
   obtain rfl := Option.some.inj ho
   exact Stp.mono (o_evs [] (vG [vS [116, 101, 120, 116, 45, 97, 108, 105, 103, 110], vT, vU y66.Kind, vS y66.Word, vI y66.Num, vU y66.Color.Red, vU y66.Color.Green, vU y66.Color.Blue, vU y66.Color.Alpha, .slice (yg29 55 0).a 4 (yg29 55 0).c, vO, vF]) none [] (((Hb).add (hv 54 (by decide) (by decide) 63 rfl)).add (hv 55 (by decide) (by decide) 64 rfl)) rfl (by kernel_rfl) (fun q e => by cases e)) fun _ _ hq => ⟨gL [], fun _ _ => hq.1, (hS.below hq.2.below).sel [0] rfl⟩
  ·intro o ho a w yg29 M Hb hv hO hS
   obtain rfl := Option.some.inj ho
   exact Stp.mono (o_evs [] (vG [vU 5, vN, vI 1000, vU 0, vU 0, vU 0, vU 0]) none [] Hb rfl (by kernel_rfl) (fun q e => by cases e)) fun _ _ hq => ⟨gL [], fun _ _ => hq.1, (hS.below hq.2.below).sel [] rfl⟩
  ·intro o ho a w yg29 M Hb hv hO hS0
   obtain rfl := Option.some.inj ho
   have H : Fr 77 ([] ++ [(1, [], vP b5), (2, [], .slice g10.a 2 g10.c), (3, [], .slice g16.a 3 g16.c), (4, [], vP b24)]) _ := Hb
   obtain ⟨X, hX⟩ : ∃ X, X = fpl [] := ⟨_, rfl⟩
   have hS : SH M X w [] w := by rw [hX]; exact hS0
   have hd := hS.hand [] [] rfl rfl
   refine Stp.mono (o_lit (T := (tI .u8)) (E := 5) (zv := vU 0) [vU 5] ([5] : List Int) [gL []] _ H hd rfl (by kernel_rfl) (by kernel_rfl) (by kernel_rfl) (by kernel_rfl) (by kernel_rfl) (by kernel_rfl) (by kernel_rfl) rfl (InnL.cons trivial InnL.nil)) ?_
   rintro v w2 hq
   obtain ⟨g69, rfl, hq⟩ := hq
   replace hS : SH M X w [eO 5 (tI .u8) ([5] : List Int) g69] _ := hS.join [] [] rfl rfl hq
   clear hq
   rw [hX] at hS
   exact ⟨gL [g69], fun _ _ => rfl, hS.sel [0] rfl⟩
  ·intro o ho a w yg29 M Hb hv hO hS
   obtain rfl := Option.some.inj ho
   exact Stp.mono (o_evs [] (vG [vS [111, 112, 97, 99, 105, 116, 121], vF, vU 5, vN, vI 1000, vU 0, vU 0, vU 0, vU 0, vO, .slice (yg29 58 0).a 1 (yg29 58 0).c, vF]) none [] (((Hb).add (hv 57 (by decide) (by decide) 66 rfl)).add (hv 58 (by decide) (by decide) 67 rfl)) rfl (by kernel_rfl) (fun q e => by cases e)) fun _ _ hq => ⟨gL [], fun _ _ => hq.1, (hS.below hq.2.below).sel [0] rfl⟩
  ·intro o ho a w yg29 M Hb hv hO hS
   obtain rfl := Option.some.inj ho
   exact Stp.mono (o_evs [(vG [vU 1, vS [97, 117, 116, 111], vI 0, vU 0, vU 0, vU 0, vU 0])] (vG [vU 1, vS [97, 117, 116, 111], vI 0, vU 0, vU 0, vU 0, vU 0]) (some (fun wz => V.atN b24 0 [vU 1, vS [97, 117, 116, 111], vI 0, vU 0, vU 0, vU 0, vU 0] 0 wz)) [] Hb rfl (by kernel_rfl) (fun q e => by cases e; exact ((hS.bk 0 rfl).atD rfl))) fun _ _ hq => ⟨gL [], fun _ _ => hq.1, (hS.below hq.2.below).sel [0] rfl⟩
  ·intro o ho a w yg29 M Hb hv hO hS0
   obtain rfl := Option.some.inj ho
   have H : Fr 77 ([] ++ [(1, [], vP b5), (2, [], .slice g10.a 2 g10.c), (3, [], .slice g16.a 3 g16.c), (4, [], vP b24)]) _ := Hb
   obtain ⟨X, hX⟩ : ∃ X, X = fpl [] := ⟨_, rfl⟩
   have hS : SH M X w [] w := by rw [hX]; exact hS0
   have hd := hS.hand [] [] rfl rfl
   refine Stp.mono (o_lit (T := tS) (E := 9) (zv := vN) [vS [97, 117, 116, 111]] ([[97, 117, 116, 111]] : List Str) [gL []] _ H hd rfl (by kernel_rfl) (by kernel_rfl) (by kernel_rfl) (by kernel_rfl) (by kernel_rfl) (by kernel_rfl) (by kernel_rfl) rfl (InnL.cons trivial InnL.nil)) ?_
   rintro v w2 hq
   obtain ⟨g71, rfl, hq⟩ := hq
   replace hS : SH M X w [eO 9 tS ([[97, 117, 116, 111]] : List Str) g71] _ := hS.join [] [] rfl rfl hq
   clear hq
   rw [hX] at hS
   exact ⟨gL [g71], fun _ _ => rfl, hS.sel [0] rfl⟩
  ·intro o ho a w yg29 M Hb hv hO hS0
   obtain rfl := Option.some.inj ho
   have H : Fr 77 ([] ++ [(1, [], vP b5), (2, [], .slice g10.a 2 g10.c), (3, [], .slice g16.a 3 g16.c), (4, [], vP b24)]) _ := Hb
   obtain ⟨X, hX⟩ : ∃ X, X = fpl [] := ⟨_, rfl⟩
   have hS : SH M X w [] w := by rw [hX]; exact hS0
   have hd := hS.hand [] [] rfl rfl
   refine Stp.mono (o_lit (T := (tI .u8)) (E := 5) (zv := vU 0) [vU 6] ([6] : List Int) [gL []] _ H hd rfl (by kernel_rfl) (by kernel_rfl) (by kernel_rfl) (by kernel_rfl) (by kernel_rfl) (by kernel_rfl) (by kernel_rfl) rfl (InnL.cons trivial InnL.nil)) ?_
   rintro v w2 hq
   obtain ⟨g73, rfl, hq⟩ := hq
   replace hS : SH M X w [eO 5 (tI .u8) ([6] : List Int) g73] _ := hS.join [] [] rfl rfl hq
   clear hq
   rw [hX] at hS
   exact ⟨gL [g73], fun _ _ => rfl, hS.sel [0] rfl⟩
  ·intro o ho a w yg29 M Hb hv hO hS
   obtain rfl := Option.some.inj ho
   exact Stp.mono (o_evs [] (vG [vS [122, 45, 105, 110, 100, 101, 120], vF, vU 1, vS [97, 117, 116, 111], vI 0, vU 0, vU 0, vU 0, vU 0, .slice (yg29 61 0).a 1 (yg29 61 0).c, .slice (yg29 62 0).a 1 (yg29 62 0).c, vF]) none [] ((((Hb).add (hv 60 (by decide) (by decide) 69 rfl)).add (hv 61 (by decide) (by decide) 70 rfl)).add (hv 62 (by decide) (by decide) 71 rfl)) rfl (by kernel_rfl) (fun q e => by cases e)) fun _ _ hq => ⟨gL [], fun _ _ => hq.1, (hS.below hq.2.below).sel [0, 1] rfl⟩
  ·intro o ho a w yg29 M Hb hv hO hS
   obtain rfl := Option.some.inj ho
   exact Stp.mono (o_evs [] (vG [vU 6, vN, vI 0, vU 0, vU 0, vU 0, vU 0]) none [] Hb rfl (by kernel_rfl) (fun q e => by cases e)) fun _ _ hq => ⟨gL [], fun _ _ => hq.1, (hS.below hq.2.below).sel [] rfl⟩
  ·intro o ho a w yg29 M Hb hv hO hS0
   obtain rfl := Option.some.inj ho
   have H : Fr 77 ([] ++ [(1, [], vP b5), (2, [], .slice g10.a 2 g10.c), (3, [], .slice g16.a 3 g16.c), (4, [], vP b24)]) _ := Hb
   obtain ⟨X, hX⟩ : ∃ X, X = fpl [] := ⟨_, rfl⟩
   have hS : SH M X w [] w := by rw [hX]; exact hS0
   have hd := hS.hand [] [] rfl rfl
   refine Stp.mono (o_lit (T := (tI .u8)) (E := 5) (zv := vU 0) [vU 6] ([6] : List Int) [gL []] _ H hd rfl (by kernel_rfl) (by kernel_rfl) (by kernel_rfl) (by kernel_rfl) (by kernel_rfl) (by kernel_rfl) (by kernel_rfl) rfl (InnL.cons trivial InnL.nil)) ?_
   rintro v w2 hq
   obtain ⟨g75, rfl, hq⟩ := hq
   replace hS : SH M X w [eO 5 (tI .u8) ([6] : List Int) g75] _ := hS.join [] [] rfl rfl hq
   clear hq
   rw [hX] at hS
   exact ⟨gL [g75], fun _ _ => rfl, hS.sel [0] rfl⟩
  ·intro o ho a w yg29 M Hb hv hO hS
   obtain rfl := Option.some.inj ho
   exact Stp.mono (o_evs [] (vG [vS [111, 114, 100, 101, 114], vF, vU 6, vN, vI 0, vU 0, vU 0, vU 0, vU 0, vO, .slice (yg29 65 0).a 1 (yg29 65 0).c, vF]) none [] (((Hb).add (hv 64 (by decide) (by decide) 73 rfl)).add (hv 65 (by decide) (by decide) 74 rfl)) rfl (by kernel_rfl) (fun q e => by cases e)) fun _ _ hq => ⟨gL [], fun _ _ => hq.1, (hS.below hq.2.below).sel [0] rfl⟩
  ·intro o ho a w yg29 M Hb hv hO hS0
   obtain rfl := Option.some.inj ho
   have H : Fr 77 ([(75, [], vG [vS [111, 114, 100, 101, 114], vF, vU 6, vN, vI 0, vU 0, vU 0, vU 0, vU 0, vO, .slice (yg29 65 0).a 1 (yg29 65 0).c, vF]), (72, [], vG [vS [122, 45, 105, 110, 100, 101, 120], vF, vU 1, vS [97, 117, 116, 111], vI 0, vU 0, vU 0, vU 0, vU 0, .slice (yg29 61 0).a 1 (yg29 61 0).c, .slice (yg29 62 0).a 1 (yg29 62 0).c, vF]), (68, [], vG [vS [111, 112, 97, 99, 105, 116, 121], vF, vU 5, vN, vI 1000, vU 0, vU 0, vU 0, vU 0, vO, .slice (yg29 58 0).a 1 (yg29 58 0).c, vF]), (65, [], vG [vS [116, 101, 120, 116, 45, 97, 108, 105, 103, 110], vT, vU y66.Kind, vS y66.Word, vI y66.Num, vU y66.Color.Red, vU y66.Color.Green, vU y66.Color.Blue, vU y66.Color.Alpha, .slice (yg29 55 0).a 4 (yg29 55 0).c, vO, vF]), (62, [], vG [vS [108, 105, 110, 101, 45, 104, 101, 105, 103, 104, 116], vT, vU y53.Kind, vS y53.Word, vI y53.Num, vU y53.Color.Red, vU y53.Color.Green, vU y53.Color.Blue, vU y53.Color.Alpha, .slice (yg29 47 0).a 1 (yg29 47 0).c, .slice (yg29 52 0).a q64.length (yg29 52 0).c, vT]), (54, [], vG [vS [102, 111, 110, 116, 45, 115, 105, 122, 101], vT, vU y52.Kind, vS y52.Word, vI y52.Num, vU y52.Color.Red, vU y52.Color.Green, vU y52.Color.Blue, vU y52.Color.Alpha, vO, .slice g16.a 3 g16.c, vT]), (51, [], vG [vS [109, 97, 114, 103, 105, 110, 45, 108, 101, 102, 116], vF, vU y49.Kind, vS y49.Word, vI y49.Num, vU y49.Color.Red, vU y49.Color.Green, vU y49.Color.Blue, vU y49.Color.Alpha, .slice (yg29 40 0).a 1 (yg29 40 0).c, .slice g16.a 3 g16.c, vF]), (47, [], vG [vS [109, 97, 114, 103, 105, 110, 45, 98, 111, 116, 116, 111, 109], vF, vU y46.Kind, vS y46.Word, vI y46.Num, vU y46.Color.Red, vU y46.Color.Green, vU y46.Color.Blue, vU y46.Color.Alpha, .slice (yg29 36 0).a 1 (yg29 36 0).c, .slice g16.a 3 g16.c, vF]), (43, [], vG [vS [109, 97, 114, 103, 105, 110, 45, 114, 105, 103, 104, 116], vF, vU y43.Kind, vS y43.Word, vI y43.Num, vU y43.Color.Red, vU y43.Color.Green, vU y43.Color.Blue, vU y43.Color.Alpha, .slice (yg29 32 0).a 1 (yg29 32 0).c, .slice g16.a 3 g16.c, vF]), (39, [], vG [vS [109, 97, 114, 103, 105, 110, 45, 116, 111, 112], vF, vU y40.Kind, vS y40.Word, vI y40.Num, vU y40.Color.Red, vU y40.Color.Green, vU y40.Color.Blue, vU y40.Color.Alpha, .slice (yg29 28 0).a 1 (yg29 28 0).c, .slice g16.a 3 g16.c, vF]), (35, [], vG [vS [104, 101, 105, 103, 104, 116], vF, vU 1, vS [97, 117, 116, 111], vI 0, vU 0, vU 0, vU 0, vU 0, .slice (yg29 24 0).a 1 (yg29 24 0).c, .slice g16.a 3 g16.c, vT]), (31, [], vG [vS [119, 105, 100, 116, 104], vF, vU 1, vS [97, 117, 116, 111], vI 0, vU 0, vU 0, vU 0, vU 0, .slice (yg29 20 0).a 1 (yg29 20 0).c, .slice g16.a 3 g16.c, vT]), (27, [], vG [vS [118, 105, 115, 105, 98, 105, 108, 105, 116, 121], vT, vU y33.Kind, vS y33.Word, vI y33.Num, vU y33.Color.Red, vU y33.Color.Green, vU y33.Color.Blue, vU y33.Color.Alpha, .slice (yg29 17 0).a 3 (yg29 17 0).c, vO, vF]), (24, [], vG [vS [100, 105, 115, 112, 108, 97, 121], vF, vU y30.Kind, vS y30.Word, vI y30.Num, vU y30.Color.Red, vU y30.Color.Green, vU y30.Color.Blue, vU y30.Color.Alpha, .slice (yg29 14 0).a 5 (yg29 14 0).c, vO, vF]), (21, [], vG [vS [111, 117, 116, 108, 105, 110, 101, 45, 99, 111, 108, 111, 114], vF, vU 8, vN, vI 0, vU 0, vU 0, vU 0, vU 0, vO, .slice g10.a 2 g10.c, vF]), (18, [], vG [vS [98, 111, 114, 100, 101, 114, 45, 99, 111, 108, 111, 114], vF, vU 8, vN, vI 0, vU 0, vU 0, vU 0, vU 0, vO, .slice g10.a 2 g10.c, vF]), (15, [], vG [vS [98, 97, 99, 107, 103, 114, 111, 117, 110, 100, 45, 99, 111, 108, 111, 114], vF, vU 7, vN, vI 0, vU 0, vU 0, vU 0, vU 0, vO, .slice g10.a 2 g10.c, vF]), (12, [], vG [vS [99, 111, 108, 111, 114], vT, vU 7, vN, vI 0, vU 0, vU 0, vU 0, vU 255, vO, .slice g10.a 2 g10.c, vF])] ++ [(1, [], vP b5), (2, [], .slice g10.a 2 g10.c), (3, [], .slice g16.a 3 g16.c), (4, [], vP b24)]) _ := ((((((((((((((((((Hb).add (hv 3 (by decide) (by decide) 12 rfl)).add (hv 6 (by decide) (by decide) 15 rfl)).add (hv 9 (by decide) (by decide) 18 rfl)).add (hv 12 (by decide) (by decide) 21 rfl)).add (hv 15 (by decide) (by decide) 24 rfl)).add (hv 18 (by decide) (by decide) 27 rfl)).add (hv 22 (by decide) (by decide) 31 rfl)).add (hv 26 (by decide) (by decide) 35 rfl)).add (hv 30 (by decide) (by decide) 39 rfl)).add (hv 34 (by decide) (by decide) 43 rfl)).add (hv 38 (by decide) (by decide) 47 rfl)).add (hv 42 (by decide) (by decide) 51 rfl)).add (hv 45 (by decide) (by decide) 54 rfl)).add (hv 53 (by decide) (by decide) 62 rfl)).add (hv 56 (by decide) (by decide) 65 rfl)).add (hv 59 (by decide) (by decide) 68 rfl)).add (hv 63 (by decide) (by decide) 72 rfl)).add (hv 66 (by decide) (by decide) 75 rfl)
   obtain ⟨X, hX⟩ : ∃ X, X = fpl [eO 9 tS ([[98, 108, 111, 99, 107], [102, 108, 101, 120], [105, 110, 108, 105, 110, 101], [105, 110, 108, 105, 110, 101, 45, 98, 108, 111, 99, 107], [110, 111, 110, 101]] : List Str) (yg29 14 0), eO 9 tS ([[99, 111, 108, 108, 97, 112, 115, 101], [104, 105, 100, 100, 101, 110], [118, 105, 115, 105, 98, 108, 101]] : List Str) (yg29 17 0), eO 9 tS ([[97, 117, 116, 111]] : List Str) (yg29 20 0), eO 9 tS ([[97, 117, 116, 111]] : List Str) (yg29 24 0), eO 9 tS ([[97, 117, 116, 111]] : List Str) (yg29 28 0), eO 9 tS ([[97, 117, 116, 111]] : List Str) (yg29 32 0), eO 9 tS ([[97, 117, 116, 111]] : List Str) (yg29 36 0), eO 9 tS ([[97, 117, 116, 111]] : List Str) (yg29 40 0), eO 9 tS ([[110, 111, 114, 109, 97, 108]] : List Str) (yg29 47 0), eO 5 (tI .u8) q64 (yg29 52 0), eO 9 tS ([[99, 101, 110, 116, 101, 114], [106, 117, 115, 116, 105, 102, 121], [108, 101, 102, 116], [114, 105, 103, 104, 116]] : List Str) (yg29 55 0), eO 5 (tI .u8) ([5] : List Int) (yg29 58 0), eO 9 tS ([[97, 117, 116, 111]] : List Str) (yg29 61 0), eO 5 (tI .u8) ([6] : List Int) (yg29 62 0), eO 5 (tI .u8) ([6] : List Int) (yg29 65 0), eO 5 (tI .u8) ([2, 3, 4] : List Int) g16, eO 5 (tI .u8) ([7, 8] : List Int) g10] := ⟨_, rfl⟩
   have hS : SH M X w [eO 9 tS ([[98, 108, 111, 99, 107], [102, 108, 101, 120], [105, 110, 108, 105, 110, 101], [105, 110, 108, 105, 110, 101, 45, 98, 108, 111, 99, 107], [110, 111, 110, 101]] : List Str) (yg29 14 0), eO 9 tS ([[99, 111, 108, 108, 97, 112, 115, 101], [104, 105, 100, 100, 101, 110], [118, 105, 115, 105, 98, 108, 101]] : List Str) (yg29 17 0), eO 9 tS ([[97, 117, 116, 111]] : List Str) (yg29 20 0), eO 9 tS ([[97, 117, 116, 111]] : List Str) (yg29 24 0), eO 9 tS ([[97, 117, 116, 111]] : List Str) (yg29 28 0), eO 9 tS ([[97, 117, 116, 111]] : List Str) (yg29 32 0), eO 9 tS ([[97, 117, 116, 111]] : List Str) (yg29 36 0), eO 9 tS ([[97, 117, 116, 111]] : List Str) (yg29 40 0), eO 9 tS ([[110, 111, 114, 109, 97, 108]] : List Str) (yg29 47 0), eO 5 (tI .u8) q64 (yg29 52 0), eO 9 tS ([[99, 101, 110, 116, 101, 114], [106, 117, 115, 116, 105, 102, 121], [108, 101, 102, 116], [114, 105, 103, 104, 116]] : List Str) (yg29 55 0), eO 5 (tI .u8) ([5] : List Int) (yg29 58 0), eO 9 tS ([[97, 117, 116, 111]] : List Str) (yg29 61 0), eO 5 (tI .u8) ([6] : List Int) (yg29 62 0), eO 5 (tI .u8) ([6] : List Int) (yg29 65 0), eO 5 (tI .u8) ([2, 3, 4] : List Int) g16, eO 5 (tI .u8) ([7, 8] : List Int) g10] w := by rw [hX]; exact hS0
   replace hS : SH M X w [eI (tI .u8) ([7, 8] : List Int) g10, eO 9 tS ([[98, 108, 111, 99, 107], [102, 108, 101, 120], [105, 110, 108, 105, 110, 101], [105, 110, 108, 105, 110, 101, 45, 98, 108, 111, 99, 107], [110, 111, 110, 101]] : List Str) (yg29 14 0), eO 9 tS ([[99, 111, 108, 108, 97, 112, 115, 101], [104, 105, 100, 100, 101, 110], [118, 105, 115, 105, 98, 108, 101]] : List Str) (yg29 17 0), eO 9 tS ([[97, 117, 116, 111]] : List Str) (yg29 20 0), eO 9 tS ([[97, 117, 116, 111]] : List Str) (yg29 24 0), eO 9 tS ([[97, 117, 116, 111]] : List Str) (yg29 28 0), eO 9 tS ([[97, 117, 116, 111]] : List Str) (yg29 32 0), eO 9 tS ([[97, 117, 116, 111]] : List Str) (yg29 36 0), eO 9 tS ([[97, 117, 116, 111]] : List Str) (yg29 40 0), eO 9 tS ([[110, 111, 114, 109, 97, 108]] : List Str) (yg29 47 0), eO 5 (tI .u8) q64 (yg29 52 0), eO 9 tS ([[99, 101, 110, 116, 101, 114], [106, 117, 115, 116, 105, 102, 121], [108, 101, 102, 116], [114, 105, 103, 104, 116]] : List Str) (yg29 55 0), eO 5 (tI .u8) ([5] : List Int) (yg29 58 0), eO 9 tS ([[97, 117, 116, 111]] : List Str) (yg29 61 0), eO 5 (tI .u8) ([6] : List Int) (yg29 62 0), eO 5 (tI .u8) ([6] : List Int) (yg29 65 0), eO 5 (tI .u8) ([2, 3, 4] : List Int) g16] _ := SH.frz1 (hS.sel [16, 0, 1, 2, 3, 4, 5, 6, 7, 8, 9, 10, 11, 12, 13, 14, 15] rfl)
   replace hS : SH M X w [eI tS ([[98, 108, 111, 99, 107], [102, 108, 101, 120], [105, 110, 108, 105, 110, 101], [105, 110, 108, 105, 110, 101, 45, 98, 108, 111, 99, 107], [110, 111, 110, 101]] : List Str) (yg29 14 0), eI (tI .u8) ([7, 8] : List Int) g10, eO 9 tS ([[99, 111, 108, 108, 97, 112, 115, 101], [104, 105, 100, 100, 101, 110], [118, 105, 115, 105, 98, 108, 101]] : List Str) (yg29 17 0), eO 9 tS ([[97, 117, 116, 111]] : List Str) (yg29 20 0), eO 9 tS ([[97, 117, 116, 111]] : List Str) (yg29 24 0), eO 9 tS ([[97, 117, 116, 111]] : List Str) (yg29 28 0), eO 9 tS ([[97, 117, 116, 111]] : List Str) (yg29 32 0), eO 9 tS ([[97, 117, 116, 111]] : List Str) (yg29 36 0), eO 9 tS ([[97, 117, 116, 111]] : List Str) (yg29 40 0), eO 9 tS ([[110, 111, 114, 109, 97, 108]] : List Str) (yg29 47 0), eO 5 (tI .u8) q64 (yg29 52 0), eO 9 tS ([[99, 101, 110, 116, 101, 114], [106, 117, 115, 116, 105, 102, 121], [108, 101, 102, 116], [114, 105, 103, 104, 116]] : List Str) (yg29 55 0), eO 5 (tI .u8) ([5] : List Int) (yg29 58 0), eO 9 tS ([[97, 117, 116, 111]] : List Str) (yg29 61 0), eO 5 (tI .u8) ([6] : List Int) (yg29 62 0), eO 5 (tI .u8) ([6] : List Int) (yg29 65 0), eO 5 (tI .u8) ([2, 3, 4] : List Int) g16] _ := SH.frz1 (hS.sel [1, 0, 2, 3, 4, 5, 6, 7, 8, 9, 10, 11, 12, 13, 14, 15, 16] rfl)
   replace hS : SH M X w [eI tS ([[99, 111, 108, 108, 97, 112, 115, 101], [104, 105, 100, 100, 101, 110], [118, 105, 115, 105, 98, 108, 101]] : List Str) (yg29 17 0), eI tS ([[98, 108, 111, 99, 107], [102, 108, 101, 120], [105, 110, 108, 105, 110, 101], [105, 110, 108, 105, 110, 101, 45, 98, 108, 111, 99, 107], [110, 111, 110, 101]] : List Str) (yg29 14 0), eI (tI .u8) ([7, 8] : List Int) g10, eO 9 tS ([[97, 117, 116, 111]] : List Str) (yg29 20 0), eO 9 tS ([[97, 117, 116, 111]] : List Str) (yg29 24 0), eO 9 tS ([[97, 117, 116, 111]] : List Str) (yg29 28 0), eO 9 tS ([[97, 117, 116, 111]] : List Str) (yg29 32 0), eO 9 tS ([[97, 117, 116, 111]] : List Str) (yg29 36 0), eO 9 tS ([[97, 117, 116, 111]] : List Str) (yg29 40 0), eO 9 tS ([[110, 111, 114, 109, 97, 108]] : List Str) (yg29 47 0), eO 5 (tI .u8) q64 (yg29 52 0), eO 9 tS ([[99, 101, 110, 116, 101, 114], [106, 117, 115, 116, 105, 102, 121], [108, 101, 102, 116], [114, 105, 103, 104, 116]] : List Str) (yg29 55 0), eO 5 (tI .u8) ([5] : List Int) (yg29 58 0), eO 9 tS ([[97, 117, 116, 111]] : List Str) (yg29 61 0), eO 5 (tI .u8) ([6] : List Int) (yg29 62 0), eO 5 (tI .u8) ([6] : List Int) (yg29 65 0), eO 5 (tI .u8) ([2, 3, 4] : List Int) g16] _ := SH.frz1 (hS.sel [2, 0, 1, 3, 4, 5, 6, 7, 8, 9, 10, 11, 12, 13, 14, 15, 16] rfl)
   replace hS : SH M X w [eI tS ([[97, 117, 116, 111]] : List Str) (yg29 20 0), eI tS ([[99, 111, 108, 108, 97, 112, 115, 101], [104, 105, 100, 100, 101, 110], [118, 105, 115, 105, 98, 108, 101]] : List Str) (yg29 17 0), eI tS ([[98, 108, 111, 99, 107], [102, 108, 101, 120], [105, 110, 108, 105, 110, 101], [105, 110, 108, 105, 110, 101, 45, 98, 108, 111, 99, 107], [110, 111, 110, 101]] : List Str) (yg29 14 0), eI (tI .u8) ([7, 8] : List Int) g10, eO 9 tS ([[97, 117, 116, 111]] : List Str) (yg29 24 0), eO 9 tS ([[97, 117, 116, 111]] : List Str) (yg29 28 0), eO 9 tS ([[97, 117, 116, 111]] : List Str) (yg29 32 0), eO 9 tS ([[97, 117, 116, 111]] : List Str) (yg29 36 0), eO 9 tS ([[97, 117, 116, 111]] : List Str) (yg29 40 0), eO 9 tS ([[110, 111, 114, 109, 97, 108]] : List Str) (yg29 47 0), eO 5 (tI .u8) q64 (yg29 52 0), eO 9 tS ([[99, 101, 110, 116, 101, 114], [106, 117, 115, 116, 105, 102, 121], [108, 101, 102, 116], [114, 105, 103, 104, 116]] : List Str) (yg29 55 0), eO 5 (tI .u8) ([5] : List Int) (yg29 58 0), eO 9 tS ([[97, 117, 116, 111]] : List Str) (yg29 61 0), eO 5 (tI .u8) ([6] : List Int) (yg29 62 0), eO 5 (tI .u8) ([6] : List Int) (yg29 65 0), eO 5 (tI .u8) ([2, 3, 4] : List Int) g16] _ := SH.frz1 (hS.sel [3, 0, 1, 2, 4, 5, 6, 7, 8, 9, 10, 11, 12, 13, 14, 15, 16] rfl)
   replace hS : SH M X w [eI (tI .u8) ([2, 3, 4] : List Int) g16, eI tS ([[97, 117, 116, 111]] : List Str) (yg29 20 0), eI tS ([[99, 111, 108, 108, 97, 112, 115, 101], [104, 105, 100, 100, 101, 110], [118, 105, 115, 105, 98, 108, 101]] : List Str) (yg29 17 0), eI tS ([[98, 108, 111, 99, 107], [102, 108, 101, 120], [105, 110, 108, 105, 110, 101], [105, 110, 108, 105, 110, 101, 45, 98, 108, 111, 99, 107], [110, 111, 110, 101]] : List Str) (yg29 14 0), eI (tI .u8) ([7, 8] : List Int) g10, eO 9 tS ([[97, 117, 116, 111]] : List Str) (yg29 24 0), eO 9 tS ([[97, 117, 116, 111]] : List Str) (yg29 28 0), eO 9 tS ([[97, 117, 116, 111]] : List Str) (yg29 32 0), eO 9 tS ([[97, 117, 116, 111]] : List Str) (yg29 36 0), eO 9 tS ([[97, 117, 116, 111]] : List Str) (yg29 40 0), eO 9 tS ([[110, 111, 114, 109, 97, 108]] : List Str) (yg29 47 0), eO 5 (tI .u8) q64 (yg29 52 0), eO 9 tS ([[99, 101, 110, 116, 101, 114], [106, 117, 115, 116, 105, 102, 121], [108, 101, 102, 116], [114, 105, 103, 104, 116]] : List Str) (yg29 55 0), eO 5 (tI .u8) ([5] : List Int) (yg29 58 0), eO 9 tS ([[97, 117, 116, 111]] : List Str) (yg29 61 0), eO 5 (tI .u8) ([6] : List Int) (yg29 62 0), eO 5 (tI .u8) ([6] : List Int) (yg29 65 0)] _ := SH.frz1 (hS.sel [16, 0, 1, 2, 3, 4, 5, 6, 7, 8, 9, 10, 11, 12, 13, 14, 15] rfl)
   replace hS : SH M X w [eI tS ([[97, 117, 116, 111]] : List Str) (yg29 24 0), eI (tI .u8) ([2, 3, 4] : List Int) g16, eI tS ([[97, 117, 116, 111]] : List Str) (yg29 20 0), eI tS ([[99, 111, 108, 108, 97, 112, 115, 101], [104, 105, 100, 100, 101, 110], [118, 105, 115, 105, 98, 108, 101]] : List Str) (yg29 17 0), eI tS ([[98, 108, 111, 99, 107], [102, 108, 101, 120], [105, 110, 108, 105, 110, 101], [105, 110, 108, 105, 110, 101, 45, 98, 108, 111, 99, 107], [110, 111, 110, 101]] : List Str) (yg29 14 0), eI (tI .u8) ([7, 8] : List Int) g10, eO 9 tS ([[97, 117, 116, 111]] : List Str) (yg29 28 0), eO 9 tS ([[97, 117, 116, 111]] : List Str) (yg29 32 0), eO 9 tS ([[97, 117, 116, 111]] : List Str) (yg29 36 0), eO 9 tS ([[97, 117, 116, 111]] : List Str) (yg29 40 0), eO 9 tS ([[110, 111, 114, 109, 97, 108]] : List Str) (yg29 47 0), eO 5 (tI .u8) q64 (yg29 52 0), eO 9 tS ([[99, 101, 110, 116, 101, 114], [106, 117, 115, 116, 105, 102, 121], [108, 101, 102, 116], [114, 105, 103, 104, 116]] : List Str) (yg29 55 0), eO 5 (tI .u8) ([5] : List Int) (yg29 58 0), eO 9 tS ([[97, 117, 116, 111]] : List Str) (yg29 61 0), eO 5 (tI .u8) ([6] : List Int) (yg29 62 0), eO 5 (tI .u8) ([6] : List Int) (yg29 65 0)] _ := SH.frz1 (hS.sel [5, 0, 1, 2, 3, 4, 6, 7, 8, 9, 10, 11, 12, 13, 14, 15, 16] rfl)
   replace hS : SH M X w [eI tS ([[97, 117, 116, 111]] : List Str) (yg29 28 0), eI tS ([[97, 117, 116, 111]] : List Str) (yg29 24 0), eI (tI .u8) ([2, 3, 4] : List Int) g16, eI tS ([[97, 117, 116, 111]] : List Str) (yg29 20 0), eI tS ([[99, 111, 108, 108, 97, 112, 115, 101], [104, 105, 100, 100, 101, 110], [118, 105, 115, 105, 98, 108, 101]] : List Str) (yg29 17 0), eI tS ([[98, 108, 111, 99, 107], [102, 108, 101, 120], [105, 110, 108, 105, 110, 101], [105, 110, 108, 105, 110, 101, 45, 98, 108, 111, 99, 107], [110, 111, 110, 101]] : List Str) (yg29 14 0), eI (tI .u8) ([7, 8] : List Int) g10, eO 9 tS ([[97, 117, 116, 111]] : List Str) (yg29 32 0), eO 9 tS ([[97, 117, 116, 111]] : List Str) (yg29 36 0), eO 9 tS ([[97, 117, 116, 111]] : List Str) (yg29 40 0), eO 9 tS ([[110, 111, 114, 109, 97, 108]] : List Str) (yg29 47 0), eO 5 (tI .u8) q64 (yg29 52 0), eO 9 tS ([[99, 101, 110, 116, 101, 114], [106, 117, 115, 116, 105, 102, 121], [108, 101, 102, 116], [114, 105, 103, 104, 116]] : List Str) (yg29 55 0), eO 5 (tI .u8) ([5] : List Int) (yg29 58 0), eO 9 tS ([[97, 117, 116, 111]] : List Str) (yg29 61 0), eO 5 (tI .u8) ([6] : List Int) (yg29 62 0), eO 5 (tI .u8) ([6] : List Int) (yg29 65 0)] _ := SH.frz1 (hS.sel [6, 0, 1, 2, 3, 4, 5, 7, 8, 9, 10, 11, 12, 13, 14, 15, 16] rfl)
   replace hS : SH M X w [eI tS ([[97, 117, 116, 111]] : List Str) (yg29 32 0), eI tS ([[97, 117, 116, 111]] : List Str) (yg29 28 0), eI tS ([[97, 117, 116, 111]] : List Str) (yg29 24 0), eI (tI .u8) ([2, 3, 4] : List Int) g16, eI tS ([[97, 117, 116, 111]] : List Str) (yg29 20 0), eI tS ([[99, 111, 108, 108, 97, 112, 115, 101], [104, 105, 100, 100, 101, 110], [118, 105, 115, 105, 98, 108, 101]] : List Str) (yg29 17 0), eI tS ([[98, 108, 111, 99, 107], [102, 108, 101, 120], [105, 110, 108, 105, 110, 101], [105, 110, 108, 105, 110, 101, 45, 98, 108, 111, 99, 107], [110, 111, 110, 101]] : List Str) (yg29 14 0), eI (tI .u8) ([7, 8] : List Int) g10, eO 9 tS ([[97, 117, 116, 111]] : List Str) (yg29 36 0), eO 9 tS ([[97, 117, 116, 111]] : List Str) (yg29 40 0), eO 9 tS ([[110, 111, 114, 109, 97, 108]] : List Str) (yg29 47 0), eO 5 (tI .u8) q64 (yg29 52 0), eO 9 tS ([[99, 101, 110, 116, 101, 114], [106, 117, 115, 116, 105, 102, 121], [108, 101, 102, 116], [114, 105, 103, 104, 116]] : List Str) (yg29 55 0), eO 5 (tI .u8) ([5] : List Int) (yg29 58 0), eO 9 tS ([[97, 117, 116, 111]] : List Str) (yg29 61 0), eO 5 (tI .u8) ([6] : List Int) (yg29 62 0), eO 5 (tI .u8) ([6] : List Int) (yg29 65 0)] _ := SH.frz1 (hS.sel [7, 0, 1, 2, 3, 4, 5, 6, 8, 9, 10, 11, 12, 13, 14, 15, 16] rfl)
   replace hS : SH M X w [eI tS ([[97, 117, 116, 111]] : List Str) (yg29 36 0), eI tS ([[97, 117, 116, 111]] : List Str) (yg29 32 0), eI tS ([[97, 117, 116, 111]] : List Str) (yg29 28 0), eI tS ([[97, 117, 116, 111]] : List Str) (yg29 24 0), eI (tI .u8) ([2, 3, 4] : List Int) g16, eI tS ([[97, 117, 116, 111]] : List Str) (yg29 20 0), eI tS ([[99, 111, 108, 108, 97, 112, 115, 101], [104, 105, 100, 100, 101, 110], [118, 105, 115, 105, 98, 108, 101]] : List Str) (yg29 17 0), eI tS ([[98, 108, 111, 99, 107], [102, 108, 101, 120], [105, 110, 108, 105, 110, 101], [105, 110, 108, 105, 110, 101, 45, 98, 108, 111, 99, 107], [110, 111, 110, 101]] : List Str) (yg29 14 0), eI (tI .u8) ([7, 8] : List Int) g10, eO 9 tS ([[97, 117, 116, 111]] : List Str) (yg29 40 0), eO 9 tS ([[110, 111, 114, 109, 97, 108]] : List Str) (yg29 47 0), eO 5 (tI .u8) q64 (yg29 52 0), eO 9 tS ([[99, 101, 110, 116, 101, 114], [106, 117, 115, 116, 105, 102, 121], [108, 101, 102, 116], [114, 105, 103, 104, 116]] : List Str) (yg29 55 0), eO 5 (tI .u8) ([5] : List Int) (yg29 58 0), eO 9 tS ([[97, 117, 116, 111]] : List Str) (yg29 61 0), eO 5 (tI .u8) ([6] : List Int) (yg29 62 0), eO 5 (tI .u8) ([6] : List Int) (yg29 65 0)] _ := SH.frz1 (hS.sel [8, 0, 1, 2, 3, 4, 5, 6, 7, 9, 10, 11, 12, 13, 14, 15, 16] rfl)
   replace hS : SH M X w [eI tS ([[97, 117, 116, 111]] : List Str) (yg29 40 0), eI tS ([[97, 117, 116, 111]] : List Str) (yg29 36 0), eI tS ([[97, 117, 116, 111]] : List Str) (yg29 32 0), eI tS ([[97, 117, 116, 111]] : List Str) (yg29 28 0), eI tS ([[97, 117, 116, 111]] : List Str) (yg29 24 0), eI (tI .u8) ([2, 3, 4] : List Int) g16, eI tS ([[97, 117, 116, 111]] : List Str) (yg29 20 0), eI tS ([[99, 111, 108, 108, 97, 112, 115, 101], [104, 105, 100, 100, 101, 110], [118, 105, 115, 105, 98, 108, 101]] : List Str) (yg29 17 0), eI tS ([[98, 108, 111, 99, 107], [102, 108, 101, 120], [105, 110, 108, 105, 110, 101], [105, 110, 108, 105, 110, 101, 45, 98, 108, 111, 99, 107], [110, 111, 110, 101]] : List Str) (yg29 14 0), eI (tI .u8) ([7, 8] : List Int) g10, eO 9 tS ([[110, 111, 114, 109, 97, 108]] : List Str) (yg29 47 0), eO 5 (tI .u8) q64 (yg29 52 0), eO 9 tS ([[99, 101, 110, 116, 101, 114], [106, 117, 115, 116, 105, 102, 121], [108, 101, 102, 116], [114, 105, 103, 104, 116]] : List Str) (yg29 55 0), eO 5 (tI .u8) ([5] : List Int) (yg29 58 0), eO 9 tS ([[97, 117, 116, 111]] : List Str) (yg29 61 0), eO 5 (tI .u8) ([6] : List Int) (yg29 62 0), eO 5 (tI .u8) ([6] : List Int) (yg29 65 0)] _ := SH.frz1 (hS.sel [9, 0, 1, 2, 3, 4, 5, 6, 7, 8, 10, 11, 12, 13, 14, 15, 16] rfl)
   replace hS : SH M X w [eI tS ([[110, 111, 114, 109, 97, 108]] : List Str) (yg29 47 0), eI tS ([[97, 117, 116, 111]] : List Str) (yg29 40 0), eI tS ([[97, 117, 116, 111]] : List Str) (yg29 36 0), eI tS ([[97, 117, 116, 111]] : List Str) (yg29 32 0), eI tS ([[97, 117, 116, 111]] : List Str) (yg29 28 0), eI tS ([[97, 117, 116, 111]] : List Str) (yg29 24 0), eI (tI .u8) ([2, 3, 4] : List Int) g16, eI tS ([[97, 117, 116, 111]] : List Str) (yg29 20 0), eI tS ([[99, 111, 108, 108, 97, 112, 115, 101], [104, 105, 100, 100, 101, 110], [118, 105, 115, 105, 98, 108, 101]] : List Str) (yg29 17 0), eI tS ([[98, 108, 111, 99, 107], [102, 108, 101, 120], [105, 110, 108, 105, 110, 101], [105, 110, 108, 105, 110, 101, 45, 98, 108, 111, 99, 107], [110, 111, 110, 101]] : List Str) (yg29 14 0), eI (tI .u8) ([7, 8] : List Int) g10, eO 5 (tI .u8) q64 (yg29 52 0), eO 9 tS ([[99, 101, 110, 116, 101, 114], [106, 117, 115, 116, 105, 102, 121], [108, 101, 102, 116], [114, 105, 103, 104, 116]] : List Str) (yg29 55 0), eO 5 (tI .u8) ([5] : List Int) (yg29 58 0), eO 9 tS ([[97, 117, 116, 111]] : List Str) (yg29 61 0), eO 5 (tI .u8) ([6] : List Int) (yg29 62 0), eO 5 (tI .u8) ([6] : List Int) (yg29 65 0)] _ := SH.frz1 (hS.sel [10, 0, 1, 2, 3, 4, 5, 6, 7, 8, 9, 11, 12, 13, 14, 15, 16] rfl)
   replace hS : SH M X w [eI (tI .u8) q64 (yg29 52 0), eI tS ([[110, 111, 114, 109, 97, 108]] : List Str) (yg29 47 0), eI tS ([[97, 117, 116, 111]] : List Str) (yg29 40 0), eI tS ([[97, 117, 116, 111]] : List Str) (yg29 36 0), eI tS ([[97, 117, 116, 111]] : List Str) (yg29 32 0), eI tS ([[97, 117, 116, 111]] : List Str) (yg29 28 0), eI tS ([[97, 117, 116, 111]] : List Str) (yg29 24 0), eI (tI .u8) ([2, 3, 4] : List Int) g16, eI tS ([[97, 117, 116, 111]] : List Str) (yg29 20 0), eI tS ([[99, 111, 108, 108, 97, 112, 115, 101], [104, 105, 100, 100, 101, 110], [118, 105, 115, 105, 98, 108, 101]] : List Str) (yg29 17 0), eI tS ([[98, 108, 111, 99, 107], [102, 108, 101, 120], [105, 110, 108, 105, 110, 101], [105, 110, 108, 105, 110, 101, 45, 98, 108, 111, 99, 107], [110, 111, 110, 101]] : List Str) (yg29 14 0), eI (tI .u8) ([7, 8] : List Int) g10, eO 9 tS ([[99, 101, 110, 116, 101, 114], [106, 117, 115, 116, 105, 102, 121], [108, 101, 102, 116], [114, 105, 103, 104, 116]] : List Str) (yg29 55 0), eO 5 (tI .u8) ([5] : List Int) (yg29 58 0), eO 9 tS ([[97, 117, 116, 111]] : List Str) (yg29 61 0), eO 5 (tI .u8) ([6] : List Int) (yg29 62 0), eO 5 (tI .u8) ([6] : List Int) (yg29 65 0)] _ := SH.frz1 (hS.sel [11, 0, 1, 2, 3, 4, 5, 6, 7, 8, 9, 10, 12, 13, 14, 15, 16] rfl)
   replace hS : SH M X w [eI tS ([[99, 101, 110, 116, 101, 114], [106, 117, 115, 116, 105, 102, 121], [108, 101, 102, 116], [114, 105, 103, 104, 116]] : List Str) (yg29 55 0), eI (tI .u8) q64 (yg29 52 0), eI tS ([[110, 111, 114, 109, 97, 108]] : List Str) (yg29 47 0), eI tS ([[97, 117, 116, 111]] : List Str) (yg29 40 0), eI tS ([[97, 117, 116, 111]] : List Str) (yg29 36 0), eI tS ([[97, 117, 116, 111]] : List Str) (yg29 32 0), eI tS ([[97, 117, 116, 111]] : List Str) (yg29 28 0), eI tS ([[97, 117, 116, 111]] : List Str) (yg29 24 0), eI (tI .u8) ([2, 3, 4] : List Int) g16, eI tS ([[97, 117, 116, 111]] : List Str) (yg29 20 0), eI tS ([[99, 111, 108, 108, 97, 112, 115, 101], [104, 105, 100, 100, 101, 110], [118, 105, 115, 105, 98, 108, 101]] : List Str) (yg29 17 0), eI tS ([[98, 108, 111, 99, 107], [102, 108, 101, 120], [105, 110, 108, 105, 110, 101], [105, 110, 108, 105, 110, 101, 45, 98, 108, 111, 99, 107], [110, 111, 110, 101]] : List Str) (yg29 14 0), eI (tI .u8) ([7, 8] : List Int) g10, eO 5 (tI .u8) ([5] : List Int) (yg29 58 0), eO 9 tS ([[97, 117, 116, 111]] : List Str) (yg29 61 0), eO 5 (tI .u8) ([6] : List Int) (yg29 62 0), eO 5 (tI .u8) ([6] : List Int) (yg29 65 0)] _ := SH.frz1 (hS.sel [12, 0, 1, 2, 3, 4, 5, 6, 7, 8, 9, 10, 11, 13, 14, 15, 16] rfl)
   replace hS : SH M X w [eI (tI .u8) ([5] : List Int) (yg29 58 0), eI tS ([[99, 101, 110, 116, 101, 114], [106, 117, 115, 116, 105, 102, 121], [108, 101, 102, 116], [114, 105, 103, 104, 116]] : List Str) (yg29 55 0), eI (tI .u8) q64 (yg29 52 0), eI tS ([[110, 111, 114, 109, 97, 108]] : List Str) (yg29 47 0), eI tS ([[97, 117, 116, 111]] : List Str) (yg29 40 0), eI tS ([[97, 117, 116, 111]] : List Str) (yg29 36 0), eI tS ([[97, 117, 116, 111]] : List Str) (yg29 32 0), eI tS ([[97, 117, 116, 111]] : List Str) (yg29 28 0), eI tS ([[97, 117, 116, 111]] : List Str) (yg29 24 0), eI (tI .u8) ([2, 3, 4] : List Int) g16, eI tS ([[97, 117, 116, 111]] : List Str) (yg29 20 0), eI tS ([[99, 111, 108, 108, 97, 112, 115, 101], [104, 105, 100, 100, 101, 110], [118, 105, 115, 105, 98, 108, 101]] : List Str) (yg29 17 0), eI tS ([[98, 108, 111, 99, 107], [102, 108, 101, 120], [105, 110, 108, 105, 110, 101], [105, 110, 108, 105, 110, 101, 45, 98, 108, 111, 99, 107], [110, 111, 110, 101]] : List Str) (yg29 14 0), eI (tI .u8) ([7, 8] : List Int) g10, eO 9 tS ([[97, 117, 116, 111]] : List Str) (yg29 61 0), eO 5 (tI .u8) ([6] : List Int) (yg29 62 0), eO 5 (tI .u8) ([6] : List Int) (yg29 65 0)] _ := SH.frz1 (hS.sel [13, 0, 1, 2, 3, 4, 5, 6, 7, 8, 9, 10, 11, 12, 14, 15, 16] rfl)
   replace hS : SH M X w [eI tS ([[97, 117, 116, 111]] : List Str) (yg29 61 0), eI (tI .u8) ([5] : List Int) (yg29 58 0), eI tS ([[99, 101, 110, 116, 101, 114], [106, 117, 115, 116, 105, 102, 121], [108, 101, 102, 116], [114, 105, 103, 104, 116]] : List Str) (yg29 55 0), eI (tI .u8) q64 (yg29 52 0), eI tS ([[110, 111, 114, 109, 97, 108]] : List Str) (yg29 47 0), eI tS ([[97, 117, 116, 111]] : List Str) (yg29 40 0), eI tS ([[97, 117, 116, 111]] : List Str) (yg29 36 0), eI tS ([[97, 117, 116, 111]] : List Str) (yg29 32 0), eI tS ([[97, 117, 116, 111]] : List Str) (yg29 28 0), eI tS ([[97, 117, 116, 111]] : List Str) (yg29 24 0), eI (tI .u8) ([2, 3, 4] : List Int) g16, eI tS ([[97, 117, 116, 111]] : List Str) (yg29 20 0), eI tS ([[99, 111, 108, 108, 97, 112, 115, 101], [104, 105, 100, 100, 101, 110], [118, 105, 115, 105, 98, 108, 101]] : List Str) (yg29 17 0), eI tS ([[98, 108, 111, 99, 107], [102, 108, 101, 120], [105, 110, 108, 105, 110, 101], [105, 110, 108, 105, 110, 101, 45, 98, 108, 111, 99, 107], [110, 111, 110, 101]] : List Str) (yg29 14 0), eI (tI .u8) ([7, 8] : List Int) g10, eO 5 (tI .u8) ([6] : List Int) (yg29 62 0), eO 5 (tI .u8) ([6] : List Int) (yg29 65 0)] _ := SH.frz1 (hS.sel [14, 0, 1, 2, 3, 4, 5, 6, 7, 8, 9, 10, 11, 12, 13, 15, 16] rfl)
   replace hS : SH M X w [eI (tI .u8) ([6] : List Int) (yg29 62 0), eI tS ([[97, 117, 116, 111]] : List Str) (yg29 61 0), eI (tI .u8) ([5] : List Int) (yg29 58 0), eI tS ([[99, 101, 110, 116, 101, 114], [106, 117, 115, 116, 105, 102, 121], [108, 101, 102, 116], [114, 105, 103, 104, 116]] : List Str) (yg29 55 0), eI (tI .u8) q64 (yg29 52 0), eI tS ([[110, 111, 114, 109, 97, 108]] : List Str) (yg29 47 0), eI tS ([[97, 117, 116, 111]] : List Str) (yg29 40 0), eI tS ([[97, 117, 116, 111]] : List Str) (yg29 36 0), eI tS ([[97, 117, 116, 111]] : List Str) (yg29 32 0), eI tS ([[97, 117, 116, 111]] : List Str) (yg29 28 0), eI tS ([[97, 117, 116, 111]] : List Str) (yg29 24 0), eI (tI .u8) ([2, 3, 4] : List Int) g16, eI tS ([[97, 117, 116, 111]] : List Str) (yg29 20 0), eI tS ([[99, 111, 108, 108, 97, 112, 115, 101], [104, 105, 100, 100, 101, 110], [118, 105, 115, 105, 98, 108, 101]] : List Str) (yg29 17 0), eI tS ([[98, 108, 111, 99, 107], [102, 108, 101, 120], [105, 110, 108, 105, 110, 101], [105, 110, 108, 105, 110, 101, 45, 98, 108, 111, 99, 107], [110, 111, 110, 101]] : List Str) (yg29 14 0), eI (tI .u8) ([7, 8] : List Int) g10, eO 5 (tI .u8) ([6] : List Int) (yg29 65 0)] _ := SH.frz1 (hS.sel [15, 0, 1, 2, 3, 4, 5, 6, 7, 8, 9, 10, 11, 12, 13, 14, 16] rfl)
   replace hS : SH M X w [eI (tI .u8) ([6] : List Int) (yg29 65 0), eI (tI .u8) ([6] : List Int) (yg29 62 0), eI tS ([[97, 117, 116, 111]] : List Str) (yg29 61 0), eI (tI .u8) ([5] : List Int) (yg29 58 0), eI tS ([[99, 101, 110, 116, 101, 114], [106, 117, 115, 116, 105, 102, 121], [108, 101, 102, 116], [114, 105, 103, 104, 116]] : List Str) (yg29 55 0), eI (tI .u8) q64 (yg29 52 0), eI tS ([[110, 111, 114, 109, 97, 108]] : List Str) (yg29 47 0), eI tS ([[97, 117, 116, 111]] : List Str) (yg29 40 0), eI tS ([[97, 117, 116, 111]] : List Str) (yg29 36 0), eI tS ([[97, 117, 116, 111]] : List Str) (yg29 32 0), eI tS ([[97, 117, 116, 111]] : List Str) (yg29 28 0), eI tS ([[97, 117, 116, 111]] : List Str) (yg29 24 0), eI (tI .u8) ([2, 3, 4] : List Int) g16, eI tS ([[97, 117, 116, 111]] : List Str) (yg29 20 0), eI tS ([[99, 111, 108, 108, 97, 112, 115, 101], [104, 105, 100, 100, 101, 110], [118, 105, 115, 105, 98, 108, 101]] : List Str) (yg29 17 0), eI tS ([[98, 108, 111, 99, 107], [102, 108, 101, 120], [105, 110, 108, 105, 110, 101], [105, 110, 108, 105, 110, 101, 45, 98, 108, 111, 99, 107], [110, 111, 110, 101]] : List Str) (yg29 14 0), eI (tI .u8) ([7, 8] : List Int) g10] _ := SH.frz1 (hS.sel [16, 0, 1, 2, 3, 4, 5, 6, 7, 8, 9, 10, 11, 12, 13, 14, 15] rfl)
   have hd := hS.hand [16, 15, 14, 13, 12, 11, 10, 9, 8, 7, 6, 5, 4, 3, 2, 1, 0] [0, 1, 2, 3, 4, 5, 6, 7, 8, 9, 10, 11, 12, 13, 14, 15, 16] rfl rfl
   refine Stp.mono (o_lit (T := tyProp) (E := 77) (zv := vG [vN, vF, vU 0, vN, vI 0, vU 0, vU 0, vU 0, vU 0, vO, vO, vF]) [vS [99, 111, 108, 111, 114], vT, vU 7, vN, vI 0, vU 0, vU 0, vU 0, vU 255, vO, .slice g10.a 2 g10.c, vF, vS [98, 97, 99, 107, 103, 114, 111, 117, 110, 100, 45, 99, 111, 108, 111, 114], vF, vU 7, vN, vI 0, vU 0, vU 0, vU 0, vU 0, vO, .slice g10.a 2 g10.c, vF, vS [98, 111, 114, 100, 101, 114, 45, 99, 111, 108, 111, 114], vF, vU 8, vN, vI 0, vU 0, vU 0, vU 0, vU 0, vO, .slice g10.a 2 g10.c, vF, vS [111, 117, 116, 108, 105, 110, 101, 45, 99, 111, 108, 111, 114], vF, vU 8, vN, vI 0, vU 0, vU 0, vU 0, vU 0, vO, .slice g10.a 2 g10.c, vF, vS [100, 105, 115, 112, 108, 97, 121], vF, vU y30.Kind, vS y30.Word, vI y30.Num, vU y30.Color.Red, vU y30.Color.Green, vU y30.Color.Blue, vU y30.Color.Alpha, .slice (yg29 14 0).a 5 (yg29 14 0).c, vO, vF, vS [118, 105, 115, 105, 98, 105, 108, 105, 116, 121], vT, vU y33.Kind, vS y33.Word, vI y33.Num, vU y33.Color.Red, vU y33.Color.Green, vU y33.Color.Blue, vU y33.Color.Alpha, .slice (yg29 17 0).a 3 (yg29 17 0).c, vO, vF, vS [119, 105, 100, 116, 104], vF, vU 1, vS [97, 117, 116, 111], vI 0, vU 0, vU 0, vU 0, vU 0, .slice (yg29 20 0).a 1 (yg29 20 0).c, .slice g16.a 3 g16.c, vT, vS [104, 101, 105, 103, 104, 116], vF, vU 1, vS [97, 117, 116, 111], vI 0, vU 0, vU 0, vU 0, vU 0, .slice (yg29 24 0).a 1 (yg29 24 0).c, .slice g16.a 3 g16.c, vT, vS [109, 97, 114, 103, 105, 110, 45, 116, 111, 112], vF, vU y40.Kind, vS y40.Word, vI y40.Num, vU y40.Color.Red, vU y40.Color.Green, vU y40.Color.Blue, vU y40.Color.Alpha, .slice (yg29 28 0).a 1 (yg29 28 0).c, .slice g16.a 3 g16.c, vF, vS [109, 97, 114, 103, 105, 110, 45, 114, 105, 103, 104, 116], vF, vU y43.Kind, vS y43.Word, vI y43.Num, vU y43.Color.Red, vU y43.Color.Green, vU y43.Color.Blue, vU y43.Color.Alpha, .slice (yg29 32 0).a 1 (yg29 32 0).c, .slice g16.a 3 g16.c, vF, vS [109, 97, 114, 103, 105, 110, 45, 98, 111, 116, 116, 111, 109], vF, vU y46.Kind, vS y46.Word, vI y46.Num, vU y46.Color.Red, vU y46.Color.Green, vU y46.Color.Blue, vU y46.Color.Alpha, .slice (yg29 36 0).a 1 (yg29 36 0).c, .slice g16.a 3 g16.c, vF, vS [109, 97, 114, 103, 105, 110, 45, 108, 101, 102, 116], vF, vU y49.Kind, vS y49.Word, vI y49.Num, vU y49.Color.Red, vU y49.Color.Green, vU y49.Color.Blue, vU y49.Color.Alpha, .slice (yg29 40 0).a 1 (yg29 40 0).c, .slice g16.a 3 g16.c, vF, vS [102, 111, 110, 116, 45, 115, 105, 122, 101], vT, vU y52.Kind, vS y52.Word, vI y52.Num, vU y52.Color.Red, vU y52.Color.Green, vU y52.Color.Blue, vU y52.Color.Alpha, vO, .slice g16.a 3 g16.c, vT, vS [108, 105, 110, 101, 45, 104, 101, 105, 103, 104, 116], vT, vU y53.Kind, vS y53.Word, vI y53.Num, vU y53.Color.Red, vU y53.Color.Green, vU y53.Color.Blue, vU y53.Color.Alpha, .slice (yg29 47 0).a 1 (yg29 47 0).c, .slice (yg29 52 0).a q64.length (yg29 52 0).c, vT, vS [116, 101, 120, 116, 45, 97, 108, 105, 103, 110], vT, vU y66.Kind, vS y66.Word, vI y66.Num, vU y66.Color.Red, vU y66.Color.Green, vU y66.Color.Blue, vU y66.Color.Alpha, .slice (yg29 55 0).a 4 (yg29 55 0).c, vO, vF, vS [111, 112, 97, 99, 105, 116, 121], vF, vU 5, vN, vI 1000, vU 0, vU 0, vU 0, vU 0, vO, .slice (yg29 58 0).a 1 (yg29 58 0).c, vF, vS [122, 45, 105, 110, 100, 101, 120], vF, vU 1, vS [97, 117, 116, 111], vI 0, vU 0, vU 0, vU 0, vU 0, .slice (yg29 61 0).a 1 (yg29 61 0).c, .slice (yg29 62 0).a 1 (yg29 62 0).c, vF, vS [111, 114, 100, 101, 114], vF, vU 6, vN, vI 0, vU 0, vU 0, vU 0, vU 0, vO, .slice (yg29 65 0).a 1 (yg29 65 0).c, vF] ([(TProp.mk [99, 111, 108, 111, 114] true (TVal.mk 7 [] 0 (TColor.mk 0 0 0 255)) [] ([7, 8] : List Int) false), (TProp.mk [98, 97, 99, 107, 103, 114, 111, 117, 110, 100, 45, 99, 111, 108, 111, 114] false (TVal.mk 7 [] 0 (TColor.mk 0 0 0 0)) [] ([7, 8] : List Int) false), (TProp.mk [98, 111, 114, 100, 101, 114, 45, 99, 111, 108, 111, 114] false (TVal.mk 8 [] 0 (TColor.mk 0 0 0 0)) [] ([7, 8] : List Int) false), (TProp.mk [111, 117, 116, 108, 105, 110, 101, 45, 99, 111, 108, 111, 114] false (TVal.mk 8 [] 0 (TColor.mk 0 0 0 0)) [] ([7, 8] : List Int) false), (TProp.mk [100, 105, 115, 112, 108, 97, 121] false y30 ([[98, 108, 111, 99, 107], [102, 108, 101, 120], [105, 110, 108, 105, 110, 101], [105, 110, 108, 105, 110, 101, 45, 98, 108, 111, 99, 107], [110, 111, 110, 101]] : List Str) [] false), (TProp.mk [118, 105, 115, 105, 98, 105, 108, 105, 116, 121] true y33 ([[99, 111, 108, 108, 97, 112, 115, 101], [104, 105, 100, 100, 101, 110], [118, 105, 115, 105, 98, 108, 101]] : List Str) [] false), (TProp.mk [119, 105, 100, 116, 104] false (TVal.mk 1 [97, 117, 116, 111] 0 (TColor.mk 0 0 0 0)) ([[97, 117, 116, 111]] : List Str) ([2, 3, 4] : List Int) true), (TProp.mk [104, 101, 105, 103, 104, 116] false (TVal.mk 1 [97, 117, 116, 111] 0 (TColor.mk 0 0 0 0)) ([[97, 117, 116, 111]] : List Str) ([2, 3, 4] : List Int) true), (TProp.mk [109, 97, 114, 103, 105, 110, 45, 116, 111, 112] false y40 ([[97, 117, 116, 111]] : List Str) ([2, 3, 4] : List Int) false), (TProp.mk [109, 97, 114, 103, 105, 110, 45, 114, 105, 103, 104, 116] false y43 ([[97, 117, 116, 111]] : List Str) ([2, 3, 4] : List Int) false), (TProp.mk [109, 97, 114, 103, 105, 110, 45, 98, 111, 116, 116, 111, 109] false y46 ([[97, 117, 116, 111]] : List Str) ([2, 3, 4] : List Int) false), (TProp.mk [109, 97, 114, 103, 105, 110, 45, 108, 101, 102, 116] false y49 ([[97, 117, 116, 111]] : List Str) ([2, 3, 4] : List Int) false), (TProp.mk [102, 111, 110, 116, 45, 115, 105, 122, 101] true y52 [] ([2, 3, 4] : List Int) true), (TProp.mk [108, 105, 110, 101, 45, 104, 101, 105, 103, 104, 116] true y53 ([[110, 111, 114, 109, 97, 108]] : List Str) q64 true), (TProp.mk [116, 101, 120, 116, 45, 97, 108, 105, 103, 110] true y66 ([[99, 101, 110, 116, 101, 114], [106, 117, 115, 116, 105, 102, 121], [108, 101, 102, 116], [114, 105, 103, 104, 116]] : List Str) [] false), (TProp.mk [111, 112, 97, 99, 105, 116, 121] false (TVal.mk 5 [] 1000 (TColor.mk 0 0 0 0)) [] ([5] : List Int) false), (TProp.mk [122, 45, 105, 110, 100, 101, 120] false (TVal.mk 1 [97, 117, 116, 111] 0 (TColor.mk 0 0 0 0)) ([[97, 117, 116, 111]] : List Str) ([6] : List Int) false), (TProp.mk [111, 114, 100, 101, 114] false (TVal.mk 6 [] 0 (TColor.mk 0 0 0 0)) [] ([6] : List Int) false)] : List TProp) [gL [Gh.nil, g10], gL [Gh.nil, g10], gL [Gh.nil, g10], gL [Gh.nil, g10], gL [(yg29 14 0), Gh.nil], gL [(yg29 17 0), Gh.nil], gL [(yg29 20 0), g16], gL [(yg29 24 0), g16], gL [(yg29 28 0), g16], gL [(yg29 32 0), g16], gL [(yg29 36 0), g16], gL [(yg29 40 0), g16], gL [Gh.nil, g16], gL [(yg29 47 0), (yg29 52 0)], gL [(yg29 55 0), Gh.nil], gL [Gh.nil, (yg29 58 0)], gL [(yg29 61 0), (yg29 62 0)], gL [Gh.nil, (yg29 65 0)]] _ H hd rfl (by kernel_rfl) (by kernel_rfl) (by kernel_rfl) (by kernel_rfl) (by kernel_rfl) (by kernel_rfl) (by kernel_rfl) rfl (InnL.cons (tyProp_mk SlG.nil (hd.im 0 rfl)) (InnL.cons (tyProp_mk SlG.nil (hd.im 0 rfl)) (InnL.cons (tyProp_mk SlG.nil (hd.im 0 rfl)) (InnL.cons (tyProp_mk SlG.nil (hd.im 0 rfl)) (InnL.cons (tyProp_mk (hd.im 1 rfl) SlG.nil) (InnL.cons (tyProp_mk (hd.im 2 rfl) SlG.nil) (InnL.cons (tyProp_mk (hd.im 3 rfl) (hd.im 4 rfl)) (InnL.cons (tyProp_mk (hd.im 5 rfl) (hd.im 4 rfl)) (InnL.cons (tyProp_mk (hd.im 6 rfl) (hd.im 4 rfl)) (InnL.cons (tyProp_mk (hd.im 7 rfl) (hd.im 4 rfl)) (InnL.cons (tyProp_mk (hd.im 8 rfl) (hd.im 4 rfl)) (InnL.cons (tyProp_mk (hd.im 9 rfl) (hd.im 4 rfl)) (InnL.cons (tyProp_mk SlG.nil (hd.im 4 rfl)) (InnL.cons (tyProp_mk (hd.im 10 rfl) (hd.im 11 rfl)) (InnL.cons (tyProp_mk (hd.im 12 rfl) SlG.nil) (InnL.cons (tyProp_mk SlG.nil (hd.im 13 rfl)) (InnL.cons (tyProp_mk (hd.im 14 rfl) (hd.im 15 rfl)) (InnL.cons (tyProp_mk SlG.nil (hd.im 16 rfl)) InnL.nil))))))))))))))))))) ?_
   rintro v w2 hq
   obtain ⟨g77, rfl, hq⟩ := hq
   replace hS : SH M X w [eO 77 tyProp ([(TProp.mk [99, 111, 108, 111, 114] true (TVal.mk 7 [] 0 (TColor.mk 0 0 0 255)) [] ([7, 8] : List Int) false), (TProp.mk [98, 97, 99, 107, 103, 114, 111, 117, 110, 100, 45, 99, 111, 108, 111, 114] false (TVal.mk 7 [] 0 (TColor.mk 0 0 0 0)) [] ([7, 8] : List Int) false), (TProp.mk [98, 111, 114, 100, 101, 114, 45, 99, 111, 108, 111, 114] false (TVal.mk 8 [] 0 (TColor.mk 0 0 0 0)) [] ([7, 8] : List Int) false), (TProp.mk [111, 117, 116, 108, 105, 110, 101, 45, 99, 111, 108, 111, 114] false (TVal.mk 8 [] 0 (TColor.mk 0 0 0 0)) [] ([7, 8] : List Int) false), (TProp.mk [100, 105, 115, 112, 108, 97, 121] false y30 ([[98, 108, 111, 99, 107], [102, 108, 101, 120], [105, 110, 108, 105, 110, 101], [105, 110, 108, 105, 110, 101, 45, 98, 108, 111, 99, 107], [110, 111, 110, 101]] : List Str) [] false), (TProp.mk [118, 105, 115, 105, 98, 105, 108, 105, 116, 121] true y33 ([[99, 111, 108, 108, 97, 112, 115, 101], [104, 105, 100, 100, 101, 110], [118, 105, 115, 105, 98, 108, 101]] : List Str) [] false), (TProp.mk [119, 105, 100, 116, 104] false (TVal.mk 1 [97, 117, 116, 111] 0 (TColor.mk 0 0 0 0)) ([[97, 117, 116, 111]] : List Str) ([2, 3, 4] : List Int) true), (TProp.mk [104, 101, 105, 103, 104, 116] false (TVal.mk 1 [97, 117, 116, 111] 0 (TColor.mk 0 0 0 0)) ([[97, 117, 116, 111]] : List Str) ([2, 3, 4] : List Int) true), (TProp.mk [109, 97, 114, 103, 105, 110, 45, 116, 111, 112] false y40 ([[97, 117, 116, 111]] : List Str) ([2, 3, 4] : List Int) false), (TProp.mk [109, 97, 114, 103, 105, 110, 45, 114, 105, 103, 104, 116] false y43 ([[97, 117, 116, 111]] : List Str) ([2, 3, 4] : List Int) false), (TProp.mk [109, 97, 114, 103, 105, 110, 45, 98, 111, 116, 116, 111, 109] false y46 ([[97, 117, 116, 111]] : List Str) ([2, 3, 4] : List Int) false), (TProp.mk [109, 97, 114, 103, 105, 110, 45, 108, 101, 102, 116] false y49 ([[97, 117, 116, 111]] : List Str) ([2, 3, 4] : List Int) false), (TProp.mk [102, 111, 110, 116, 45, 115, 105, 122, 101] true y52 [] ([2, 3, 4] : List Int) true), (TProp.mk [108, 105, 110, 101, 45, 104, 101, 105, 103, 104, 116] true y53 ([[110, 111, 114, 109, 97, 108]] : List Str) q64 true), (TProp.mk [116, 101, 120, 116, 45, 97, 108, 105, 103, 110] true y66 ([[99, 101, 110, 116, 101, 114], [106, 117, 115, 116, 105, 102, 121], [108, 101, 102, 116], [114, 105, 103, 104, 116]] : List Str) [] false), (TProp.mk [111, 112, 97, 99, 105, 116, 121] false (TVal.mk 5 [] 1000 (TColor.mk 0 0 0 0)) [] ([5] : List Int) false), (TProp.mk [122, 45, 105, 110, 100, 101, 120] false (TVal.mk 1 [97, 117, 116, 111] 0 (TColor.mk 0 0 0 0)) ([[97, 117, 116, 111]] : List Str) ([6] : List Int) false), (TProp.mk [111, 114, 100, 101, 114] false (TVal.mk 6 [] 0 (TColor.mk 0 0 0 0)) [] ([6] : List Int) false)] : List TProp) g77, eI (tI .u8) ([6] : List Int) (yg29 65 0), eI (tI .u8) ([6] : List Int) (yg29 62 0), eI tS ([[97, 117, 116, 111]] : List Str) (yg29 61 0), eI (tI .u8) ([5] : List Int) (yg29 58 0), eI tS ([[99, 101, 110, 116, 101, 114], [106, 117, 115, 116, 105, 102, 121], [108, 101, 102, 116], [114, 105, 103, 104, 116]] : List Str) (yg29 55 0), eI (tI .u8) q64 (yg29 52 0), eI tS ([[110, 111, 114, 109, 97, 108]] : List Str) (yg29 47 0), eI tS ([[97, 117, 116, 111]] : List Str) (yg29 40 0), eI tS ([[97, 117, 116, 111]] : List Str) (yg29 36 0), eI tS ([[97, 117, 116, 111]] : List Str) (yg29 32 0), eI tS ([[97, 117, 116, 111]] : List Str) (yg29 28 0), eI tS ([[97, 117, 116, 111]] : List Str) (yg29 24 0), eI (tI .u8) ([2, 3, 4] : List Int) g16, eI tS ([[97, 117, 116, 111]] : List Str) (yg29 20 0), eI tS ([[99, 111, 108, 108, 97, 112, 115, 101], [104, 105, 100, 100, 101, 110], [118, 105, 115, 105, 98, 108, 101]] : List Str) (yg29 17 0), eI tS ([[98, 108, 111, 99, 107], [102, 108, 101, 120], [105, 110, 108, 105, 110, 101], [105, 110, 108, 105, 110, 101, 45, 98, 108, 111, 99, 107], [110, 111, 110, 101]] : List Str) (yg29 14 0), eI (tI .u8) ([7, 8] : List Int) g10] _ := hS.join [16, 15, 14, 13, 12, 11, 10, 9, 8, 7, 6, 5, 4, 3, 2, 1, 0] [0, 1, 2, 3, 4, 5, 6, 7, 8, 9, 10, 11, 12, 13, 14, 15, 16] rfl rfl hq
   clear hq
   rw [hX] at hS
   exact ⟨gL [g77, g16, g10], fun _ _ => rfl, hS.sel [0, 1, 2, 3, 4, 5, 6, 7, 8, 9, 10, 11, 12, 13, 14, 15, 16, 17] rfl⟩
  ·intro o ho a w yg29 M Hb hv hO hS
   obtain rfl := Option.some.inj ho
   exact Stp.mono (o_evs [] (.slice (yg29 67 0).a 18 (yg29 67 0).c) none [] ((Hb).add (hv 67 (by decide) (by decide) 76 rfl)) rfl (by kernel_rfl) (fun q e => by cases e)) fun _ _ hq => ⟨gL [], fun _ _ => hq.1, (hS.below hq.2.below).sel [0, 1, 2, 3, 4, 5, 6, 7, 8, 9, 10, 11, 12, 13, 14, 15, 16, 17] rfl⟩
 have H81 : Fr 77 [(0, [], .slice (yg29 67 0).a 18 (yg29 67 0).c)] _ := (FrG.add (FrG.keep (ks := []) H80 (by kernel_rfl)) (hv 68 0 rfl))
 replace hS : SH M X w [eO 5 (tI .u8) ([5] : List Int) (yg29 51 0), eO 77 tyProp ([(TProp.mk [99, 111, 108, 111, 114] true (TVal.mk 7 [] 0 (TColor.mk 0 0 0 255)) [] ([7, 8] : List Int) false), (TProp.mk [98, 97, 99, 107, 103, 114, 111, 117, 110, 100, 45, 99, 111, 108, 111, 114] false (TVal.mk 7 [] 0 (TColor.mk 0 0 0 0)) [] ([7, 8] : List Int) false), (TProp.mk [98, 111, 114, 100, 101, 114, 45, 99, 111, 108, 111, 114] false (TVal.mk 8 [] 0 (TColor.mk 0 0 0 0)) [] ([7, 8] : List Int) false), (TProp.mk [111, 117, 116, 108, 105, 110, 101, 45, 99, 111, 108, 111, 114] false (TVal.mk 8 [] 0 (TColor.mk 0 0 0 0)) [] ([7, 8] : List Int) false), (TProp.mk [100, 105, 115, 112, 108, 97, 121] false y30 ([[98, 108, 111, 99, 107], [102, 108, 101, 120], [105, 110, 108, 105, 110, 101], [105, 110, 108, 105, 110, 101, 45, 98, 108, 111, 99, 107], [110, 111, 110, 101]] : List Str) [] false), (TProp.mk [118, 105, 115, 105, 98, 105, 108, 105, 116, 121] true y33 ([[99, 111, 108, 108, 97, 112, 115, 101], [104, 105, 100, 100, 101, 110], [118, 105, 115, 105, 98, 108, 101]] : List Str) [] false), (TProp.mk [119, 105, 100, 116, 104] false (TVal.mk 1 [97, 117, 116, 111] 0 (TColor.mk 0 0 0 0)) ([[97, 117, 116, 111]] : List Str) ([2, 3, 4] : List Int) true), (TProp.mk [104, 101, 105, 103, 104, 116] false (TVal.mk 1 [97, 117, 116, 111] 0 (TColor.mk 0 0 0 0)) ([[97, 117, 116, 111]] : List Str) ([2, 3, 4] : List Int) true), (TProp.mk [109, 97, 114, 103, 105, 110, 45, 116, 111, 112] false y40 ([[97, 117, 116, 111]] : List Str) ([2, 3, 4] : List Int) false), (TProp.mk [109, 97, 114, 103, 105, 110, 45, 114, 105, 103, 104, 116] false y43 ([[97, 117, 116, 111]] : List Str) ([2, 3, 4] : List Int) false), (TProp.mk [109, 97, 114, 103, 105, 110, 45, 98, 111, 116, 116, 111, 109] false y46 ([[97, 117, 116, 111]] : List Str) ([2, 3, 4] : List Int) false), (TProp.mk [109, 97, 114, 103, 105, 110, 45, 108, 101, 102, 116] false y49 ([[97, 117, 116, 111]] : List Str) ([2, 3, 4] : List Int) false), (TProp.mk [102, 111, 110, 116, 45, 115, 105, 122, 101] true y52 [] ([2, 3, 4] : List Int) true), (TProp.mk [108, 105, 110, 101, 45, 104, 101, 105, 103, 104, 116] true y53 ([[110, 111, 114, 109, 97, 108]] : List Str) q64 true), (TProp.mk [116, 101, 120, 116, 45, 97, 108, 105, 103, 110] true y66 ([[99, 101, 110, 116, 101, 114], [106, 117, 115, 116, 105, 102, 121], [108, 101, 102, 116], [114, 105, 103, 104, 116]] : List Str) [] false), (TProp.mk [111, 112, 97, 99, 105, 116, 121] false (TVal.mk 5 [] 1000 (TColor.mk 0 0 0 0)) [] ([5] : List Int) false), (TProp.mk [122, 45, 105, 110, 100, 101, 120] false (TVal.mk 1 [97, 117, 116, 111] 0 (TColor.mk 0 0 0 0)) ([[97, 117, 116, 111]] : List Str) ([6] : List Int) false), (TProp.mk [111, 114, 100, 101, 114] false (TVal.mk 6 [] 0 (TColor.mk 0 0 0 0)) [] ([6] : List Int) false)] : List TProp) (yg29 67 0), eI (tI .u8) ([6] : List Int) (yg29 65 0), eI (tI .u8) ([6] : List Int) (yg29 62 0), eI tS ([[97, 117, 116, 111]] : List Str) (yg29 61 0), eI (tI .u8) ([5] : List Int) (yg29 58 0), eI tS ([[99, 101, 110, 116, 101, 114], [106, 117, 115, 116, 105, 102, 121], [108, 101, 102, 116], [114, 105, 103, 104, 116]] : List Str) (yg29 55 0), eI (tI .u8) q64 (yg29 52 0), eI tS ([[110, 111, 114, 109, 97, 108]] : List Str) (yg29 47 0), eI tS ([[97, 117, 116, 111]] : List Str) (yg29 40 0), eI tS ([[97, 117, 116, 111]] : List Str) (yg29 36 0), eI tS ([[97, 117, 116, 111]] : List Str) (yg29 32 0), eI tS ([[97, 117, 116, 111]] : List Str) (yg29 28 0), eI tS ([[97, 117, 116, 111]] : List Str) (yg29 24 0), eI (tI .u8) ([2, 3, 4] : List Int) (yg29 67 1), eI tS ([[97, 117, 116, 111]] : List Str) (yg29 20 0), eI tS ([[99, 111, 108, 108, 97, 112, 115, 101], [104, 105, 100, 100, 101, 110], [118, 105, 115, 105, 98, 108, 101]] : List Str) (yg29 17 0), eI tS ([[98, 108, 111, 99, 107], [102, 108, 101, 120], [105, 110, 108, 105, 110, 101], [105, 110, 108, 105, 110, 101, 45, 98, 108, 111, 99, 107], [110, 111, 110, 101]] : List Str) (yg29 14 0), eI (tI .u8) ([7, 8] : List Int) (yg29 67 2), eB b24 [vU 1, vS [97, 117, 116, 111], vI 0, vU 0, vU 0, vU 0, vU 0], eB b5 [vU 8, vN, vI 0, vU 0, vU 0, vU 0, vU 0]] _ := hS
 clear hv H80
 generalize yg29 67 0 = g82 at H81 hS
 generalize yg29 51 0 = g83 at H81 hS
 generalize yg29 65 0 = g84 at H81 hS
 generalize yg29 62 0 = g85 at H81 hS
 generalize yg29 61 0 = g86 at H81 hS
 generalize yg29 58 0 = g87 at H81 hS
 generalize yg29 55 0 = g88 at H81 hS
 generalize yg29 52 0 = g89 at H81 hS
 generalize yg29 47 0 = g90 at H81 hS
 generalize yg29 40 0 = g91 at H81 hS
 generalize yg29 36 0 = g92 at H81 hS
 generalize yg29 32 0 = g93 at H81 hS
 generalize yg29 28 0 = g94 at H81 hS
 generalize yg29 24 0 = g95 at H81 hS
 generalize yg29 67 1 = g96 at H81 hS
 generalize yg29 20 0 = g97 at H81 hS
 generalize yg29 17 0 = g98 at H81 hS
 generalize yg29 14 0 = g99 at H81 hS
 generalize yg29 67 2 = g100 at H81 hS
 replace hS : SH M X w [eO 77 tyProp ([(TProp.mk [99, 111, 108, 111, 114] true (TVal.mk 7 [] 0 (TColor.mk 0 0 0 255)) [] ([7, 8] : List Int) false), (TProp.mk [98, 97, 99, 107, 103, 114, 111, 117, 110, 100, 45, 99, 111, 108, 111, 114] false (TVal.mk 7 [] 0 (TColor.mk 0 0 0 0)) [] ([7, 8] : List Int) false), (TProp.mk [98, 111, 114, 100, 101, 114, 45, 99, 111, 108, 111, 114] false (TVal.mk 8 [] 0 (TColor.mk 0 0 0 0)) [] ([7, 8] : List Int) false), (TProp.mk [111, 117, 116, 108, 105, 110, 101, 45, 99, 111, 108, 111, 114] false (TVal.mk 8 [] 0 (TColor.mk 0 0 0 0)) [] ([7, 8] : List Int) false), (TProp.mk [100, 105, 115, 112, 108, 97, 121] false y30 ([[98, 108, 111, 99, 107], [102, 108, 101, 120], [105, 110, 108, 105, 110, 101], [105, 110, 108, 105, 110, 101, 45, 98, 108, 111, 99, 107], [110, 111, 110, 101]] : List Str) [] false), (TProp.mk [118, 105, 115, 105, 98, 105, 108, 105, 116, 121] true y33 ([[99, 111, 108, 108, 97, 112, 115, 101], [104, 105, 100, 100, 101, 110], [118, 105, 115, 105, 98, 108, 101]] : List Str) [] false), (TProp.mk [119, 105, 100, 116, 104] false (TVal.mk 1 [97, 117, 116, 111] 0 (TColor.mk 0 0 0 0)) ([[97, 117, 116, 111]] : List Str) ([2, 3, 4] : List Int) true), (TProp.mk [104, 101, 105, 103, 104, 116] false (TVal.mk 1 [97, 117, 116, 111] 0 (TColor.mk 0 0 0 0)) ([[97, 117, 116, 111]] : List Str) ([2, 3, 4] : List Int) true), (TProp.mk [109, 97, 114, 103, 105, 110, 45, 116, 111, 112] false y40 ([[97, 117, 116, 111]] : List Str) ([2, 3, 4] : List Int) false), (TProp.mk [109, 97, 114, 103, 105, 110, 45, 114, 105, 103, 104, 116] false y43 ([[97, 117, 116, 111]] : List Str) ([2, 3, 4] : List Int) false), (TProp.mk [109, 97, 114, 103, 105, 110, 45, 98, 111, 116, 116, 111, 109] false y46 ([[97, 117, 116, 111]] : List Str) ([2, 3, 4] : List Int) false), (TProp.mk [109, 97, 114, 103, 105, 110, 45, 108, 101, 102, 116] false y49 ([[97, 117, 116, 111]] : List Str) ([2, 3, 4] : List Int) false), (TProp.mk [102, 111, 110, 116, 45, 115, 105, 122, 101] true y52 [] ([2, 3, 4] : List Int) true), (TProp.mk [108, 105, 110, 101, 45, 104, 101, 105, 103, 104, 116] true y53 ([[110, 111, 114, 109, 97, 108]] : List Str) q64 true), (TProp.mk [116, 101, 120, 116, 45, 97, 108, 105, 103, 110] true y66 ([[99, 101, 110, 116, 101, 114], [106, 117, 115, 116, 105, 102, 121], [108, 101, 102, 116], [114, 105, 103, 104, 116]] : List Str) [] false), (TProp.mk [111, 112, 97, 99, 105, 116, 121] false (TVal.mk 5 [] 1000 (TColor.mk 0 0 0 0)) [] ([5] : List Int) false), (TProp.mk [122, 45, 105, 110, 100, 101, 120] false (TVal.mk 1 [97, 117, 116, 111] 0 (TColor.mk 0 0 0 0)) ([[97, 117, 116, 111]] : List Str) ([6] : List Int) false), (TProp.mk [111, 114, 100, 101, 114] false (TVal.mk 6 [] 0 (TColor.mk 0 0 0 0)) [] ([6] : List Int) false)] : List TProp) g82] _ := hS.sel [1] rfl
 refine w_ret ?_
 obtain rfl := someE hm
 exact retR1 H81 rfl rfl ⟨_, rfl, g82, rfl, (hS.sel [0] rfl)⟩
theorem r25_Table_ok   (r : List TProp) (hm : r25_Table = some r) (M : Av) (w : World) (hS : S0 M [] w) : DoesX Tryz.prog 52 ⟨[]⟩ w (fun v w' => ∃ (g901 : Gh), v = vL g901 r ∧ SH M (fpl []) w [eO 77 tyProp r g901] w') := ⟨Tryz.call52 _, r25_Table_w M    r hm w hS⟩

theorem r25_Find_w  (M : Av) (m : Nat) (s : Str) (r : Int × Int) (hm : r25_Find m s = some r) (w : World) (hS : S0 M [] w) : Calls Tryz.prog 51 ⟨[vS s]⟩ w (fun e w' => ∃ v, e = .returned v ∧ v = vW [vI r.1, vI r.2] ∧ SH M (fpl []) w [] w') := by
 rw [r25_Find] at hm
 have hS0 : SH M (fpl []) w [] w := hS
 generalize hX : fpl [] = X at hS0 ⊢
 clear hS hX
 have hS := hS0
 clear hS0
 refine calls_entryP Tryz.func51 rfl Tryz.ntmps51 rfl fun _ H => ?_
 refine s_reg [] [0] [(0, [], vS s)] [] H (by kernel_rfl) trivial fun _ _ H2 hb => ?_
 replace hS := hS.below hb
 clear H hb
 refine w_seq ?_
 refine wl_start ?_
 obtain ⟨y3, hy3, hm⟩ := bindE hm
 have hd := hS.hand [] [] rfl rfl
 refine m_stp [6, 0] [(0, [], vS s)] H2 rfl rfl rfl rfl (o_callx H2 rfl rfl (r25_Table_ok _ hy3 _ _ hd)) (fun _ => rfl) fun _ _ v H7 hq => ?_
 clear H2 hd
 obtain ⟨g4, rfl, hq⟩ := hq
 replace hS : SH M X w [eO 77 tyProp y3 g4] _ := hS.join [] [] rfl rfl hq
 clear hq
 refine wl_batch 1 2 [] [0, 4] [(0, [], vS s), (4, [], vL g4 y3)] [] H7 (by decide) (by kernel_rfl) trivial fun _ _ H9 hb => ?_
 replace hS := hS.below hb
 clear H7 hb
 refine wl_end rfl ?_
 obtain ⟨z10, hz, hm_z10⟩ := bindE hm
 refine w_cut (fun a' w' => ∃ s_z10 : Unit, z10 = Sum.inr s_z10 ∧ Fr 21 [] a' ∧ SH M X w [eO 77 tyProp y3 g4] w') ?_ ?_
 ·replace hm := hz
  refine s_reg [] [0, 4, 5] [(0, [], vS s), (4, [], vL g4 y3), (5, [], vI 0)] [] H9 (by kernel_rfl) trivial fun _ _ H12 hb => ?_
  replace hS := hS.below hb
  clear H9 hb
  refine w_block ?_
  refine w_loop (fun kk a' w' => ∃ (v13 : Int), r25_Find_L1 m s y3 kk v13 = some _ ∧ Fr 21 [(0, [], vS s), (4, [], vL g4 y3), (5, [], vI v13)] a' ∧ SH M X w [eO 77 tyProp y3 g4] w') ⟨_, 0, hm, FrG.keep (ks := [0, 4, 5]) H12 (by kernel_rfl), hS⟩ ?_
  clear hm H12 hS
  rintro kk _ _ ⟨v13, hm, H, hS⟩
  cases kk with
  | zero => exact noneE hm
  | succ kk =>
   rw [r25_Find_L1] at hm
   refine w_seq ?_
   refine s_reg [] [0, 4, 5, 10] [(0, [], vS s), (4, [], vL g4 y3), (5, [], vI v13), (10, [], vB (decide (v13 < (ln y3))))] [] H (by kernel_rfl) trivial fun _ _ H15 hb => ?_
   replace hS := hS.below hb
   clear H hb
   refine w_if H15 rfl (fun hc => ?_) (fun hc => ?c24)
   case c24 =>
    replace hm := bF hc hm
    refine w_exit rfl ?_
    obtain rfl := someE hm
    exact ⟨_, rfl, FrG.keep (ks := []) H15 (by kernel_rfl), hS⟩
   replace hm := bT hc hm
   refine w_skip ?_
   refine w_seq ?_
   refine w_block ?_
   obtain ⟨ho16, hm⟩ := chkE hm
   refine s_reg [(vS (gi y3 v13).Name)] [0, 4, 5, 19] [(0, [], vS s), (4, [], vL g4 y3), (5, [], vI v13), (19, [], vB (((gi y3 v13).Name) == s))] [fun _ => oka g4.a ∧ 0 ≤ v13 ∧ v13 < ln y3, fun wz => V.at1 ⟨ab g4.a, ao g4.a + (v13).toNat * 12, none⟩ (vS (gi y3 v13).Name) wz] H15 (by kernel_rfl) ⟨((hS.osl 0 rfl).oki ho16), ((hS.osl 0 rfl).at1 ho16 0 rfl), trivial⟩ fun _ _ H18 hb => ?_
   replace hS := hS.below hb
   clear H15 hb
   refine w_if H18 rfl (fun hc => ?_) (fun hc => ?c23)
   case c23 =>
    replace hm := bF hc hm
    refine w_skip ?_
    refine w_reg [] [0, 4, 5] [(0, [], vS s), (4, [], vL g4 y3), (5, [], vI (w64 (v13 + 1)))] [] H18 (by kernel_rfl) trivial fun _ _ H22 hb => ?_
    replace hS := hS.below hb
    clear H18 hb
    exact ⟨_, Nat.lt_succ_self _, w64 (v13 + 1), hm, FrG.keep (ks := [0, 4, 5]) H22 (by kernel_rfl), hS⟩
   replace hm := bT hc hm
   refine s_reg [] [2, 3] [(2, [], vI v13), (3, [], vI 0)] [] H18 (by kernel_rfl) trivial fun _ _ H20 hb => ?_
   replace hS := hS.below hb
   clear H18 hb
   refine w_ret ?_
   obtain rfl := someE hm
   have hm := hm_z10
   obtain rfl := someE hm
   exact retR2 H20 rfl rfl rfl ⟨_, rfl, rfl, (hS.sel [] rfl)⟩
 ·rintro _ _ ⟨s_z10, hz, H, hS⟩
  subst hz
  replace hm := sumR hm_z10
  replace hS : SH M X w [] _ := hS.sel [] rfl
  refine s_reg [] [2, 3] [(2, [], vI 0), (3, [], vI 6)] [] H (by kernel_rfl) trivial fun _ _ H27 hb => ?_
  replace hS := hS.below hb
  clear H hb
  refine w_ret ?_
  obtain rfl := someE hm
  exact retR2 H27 rfl rfl rfl ⟨_, rfl, rfl, (hS.sel [] rfl)⟩
theorem r25_Find_ok  (m : Nat) (s : Str) (r : Int × Int) (hm : r25_Find m s = some r) : Ret Tryz.prog 51 ⟨[vS s]⟩ (vW [vI r.1, vI r.2]) := retP_of (Tryz.call51 _) (fun w h => r25_Find_w F0 m   s r hm w h)

theorem r25_Inherited_w  (M : Av) (m : Nat) (s : Str) (r : Bool × Int) (hm : r25_Inherited m s = some r) (w : World) (hS : S0 M [] w) : Calls Tryz.prog 28 ⟨[vS s]⟩ w (fun e w' => ∃ v, e = .returned v ∧ v = vW [vB r.1, vI r.2] ∧ SH M (fpl []) w [] w') := by
 rw [r25_Inherited] at hm
 have hS0 : SH M (fpl []) w [] w := hS
 generalize hX : fpl [] = X at hS0 ⊢
 clear hS hX
 have hS := hS0
 clear hS0
 refine calls_entryP Tryz.func28 rfl Tryz.ntmps28 rfl fun _ H => ?_
 refine s_reg [] [0] [(0, [], vS s)] [] H (by kernel_rfl) trivial fun _ _ H2 hb => ?_
 replace hS := hS.below hb
 clear H hb
 refine w_seq ?_
 obtain ⟨y3, hy3, hm⟩ := bindE hm
 refine s_reg [(vB y3)] [0, 7] [(0, [], vS s), (7, [], vB y3)] [rB 50 [vS s] (vB y3)] H2 (by kernel_rfl) ⟨((r25_Custom_ok _ _ hy3).b), trivial⟩ fun _ _ H5 hb => ?_
 replace hS := hS.below hb
 clear H2 hb
 refine w_if H5 rfl (fun hc => ?c24) (fun hc => ?_)
 case c24 =>
  replace hm := bT hc hm
  refine s_reg [] [2, 3] [(2, [], vT), (3, [], vI 0)] [] H5 (by kernel_rfl) trivial fun _ _ H7 hb => ?_
  replace hS := hS.below hb
  clear H5 hb
  refine w_ret ?_
  obtain rfl := someE hm
  exact retR2 H7 rfl rfl rfl ⟨_, rfl, rfl, (hS.sel [] rfl)⟩
 replace hm := bF hc hm
 refine w_skip ?_
 obtain ⟨y8, hy8, hm⟩ := bindE hm
 refine s_reg [(vW [vI y8.1, vI y8.2])] [4, 5] [(4, [], vI y8.1), (5, [], vI y8.2)] [rB 51 [vS s] (vW [vI y8.1, vI y8.2])] H5 (by kernel_rfl) ⟨((r25_Find_ok m _ _ hy8).b), trivial⟩ fun _ _ H10 hb => ?_
 replace hS := hS.below hb
 clear H5 hb
 refine w_seq ?_
 refine s_reg [] [4, 5, 14] [(4, [], vI y8.1), (5, [], vI y8.2), (14, [], vB (y8.2 != 0))] [] H10 (by kernel_rfl) trivial fun _ _ H12 hb => ?_
 replace hS := hS.below hb
 clear H10 hb
 refine w_if H12 rfl (fun hc => ?c23) (fun hc => ?_)
 case c23 =>
  replace hm := bT hc hm
  refine s_reg [] [2, 3] [(2, [], vF), (3, [], vI y8.2)] [] H12 (by kernel_rfl) trivial fun _ _ H14 hb => ?_
  replace hS := hS.below hb
  clear H12 hb
  refine w_ret ?_
  obtain rfl := someE hm
  exact retR2 H14 rfl rfl rfl ⟨_, rfl, rfl, (hS.sel [] rfl)⟩
 replace hm := bF hc hm
 refine w_skip ?_
 refine w_seq ?_
 refine wl_start ?_
 obtain ⟨y15, hy15, hm⟩ := bindE hm
 have hd := hS.hand [] [] rfl rfl
 refine m_stp [16, 4] [(4, [], vI y8.1)] H12 rfl rfl rfl rfl (o_callx H12 rfl rfl (r25_Table_ok _ hy15 _ _ hd)) (fun _ => rfl) fun _ _ v H19 hq => ?_
 clear H12 hd
 obtain ⟨g16, rfl, hq⟩ := hq
 replace hS : SH M X w [eO 77 tyProp y15 g16] _ := hS.join [] [] rfl rfl hq
 clear hq
 obtain ⟨ho20, hm⟩ := chkE hm
 refine wl_batch 1 7 [(vB ((gi y15 y8.1).Inherited))] [2, 3] [(2, [], vB ((gi y15 y8.1).Inherited)), (3, [], vI 0)] [fun _ => oka g16.a ∧ 0 ≤ y8.1 ∧ y8.1 < ln y15, fun wz => V.at1 ⟨ab g16.a, ao g16.a + (y8.1).toNat * 12 + 1, none⟩ (vB ((gi y15 y8.1).Inherited)) wz] H19 (by decide) (by kernel_rfl) ⟨((hS.osl 0 rfl).oki ho20), ((hS.osl 0 rfl).at1 ho20 1 rfl), trivial⟩ fun _ _ H22 hb => ?_
 replace hS := hS.below hb
 clear H19 hb
 refine wl_end rfl ?_
 replace hS : SH M X w [] _ := hS.sel [] rfl
 refine w_ret ?_
 obtain rfl := someE hm
 exact retR2 H22 rfl rfl rfl ⟨_, rfl, rfl, (hS.sel [] rfl)⟩
theorem r25_Inherited_ok  (m : Nat) (s : Str) (r : Bool × Int) (hm : r25_Inherited m s = some r) : Ret Tryz.prog 28 ⟨[vS s]⟩ (vW [vB r.1, vI r.2]) := retP_of (Tryz.call28 _) (fun w h => r25_Inherited_w F0 m   s r hm w h)

def r04_shaped_S (rec_ : (List TValue) → Int → Option (Bool)) : Prop := ∀ (g_v_ : Gh) (M : Av) (v_ : List TValue) (closer : Int) (r : Bool), rec_ v_ closer = some r → ∀ w, S0 M [eI tyValue v_ g_v_] w → Calls Tryz.prog 85 ⟨[vL g_v_ v_, vU closer]⟩ w (fun e w' => ∃ v, e = .returned v ∧ v = vB r ∧ SH M (fpl [eI tyValue v_ g_v_]) w [] w')
theorem r04_shaped_w (m : Nat) : ∀ (k : Nat), r04_shaped_S (r04_shaped_r m  k) := by
 intro k
 induction k with
 | zero => intro g_v_ M v_ closer r hm; exact noneE hm
 | succ k ih =>
  intro g_v_ M v_ closer r hm w hS
  rw [r04_shaped_r] at hm
  have hS0 : SH M (fpl [eI tyValue v_ g_v_]) w [eI tyValue v_ g_v_] w := hS
  generalize hX : fpl [eI tyValue v_ g_v_] = X at hS0 ⊢
  clear hS hX
  have hS := hS0
  clear hS0
  refine calls_entryP Tryz.func85 rfl Tryz.ntmps85 rfl fun _ H => ?_
  refine s_reg [] [0, 1] [(0, [], vL g_v_ v_), (1, [], vU closer)] [] H (by kernel_rfl) trivial fun _ _ H2 hb => ?_
  replace hS := hS.below hb
  clear H hb
  obtain ⟨z3, hz, hm_z3⟩ := bindE hm
  refine w_cut (fun a' w' => ∃ s_z3 : Unit, z3 = Sum.inr s_z3 ∧ Fr 59 [] a' ∧ SH M X w [eI tyValue v_ g_v_] w') ?_ ?_
  ·replace hm := hz
   refine s_reg [] [0, 1, 5] [(0, [], vL g_v_ v_), (1, [], vU closer), (5, [], vI 0)] [] H2 (by kernel_rfl) trivial fun _ _ H5 hb => ?_
   replace hS := hS.below hb
   clear H2 hb
   refine w_block ?_
   refine w_loop (fun kk a' w' => ∃ (v6 : Int), r04_shaped_L1 m v_ closer (r04_shaped_r m k) kk v6 = some _ ∧ Fr 59 [(0, [], vL g_v_ v_), (1, [], vU closer), (5, [], vI v6)] a' ∧ SH M X w [eI tyValue v_ g_v_] w') ⟨_, 0, hm, FrG.keep (ks := [0, 1, 5]) H5 (by kernel_rfl), hS⟩ ?_
   clear hm H5 hS
   rintro kk _ _ ⟨v6, hm, H, hS⟩
   cases kk with
   | zero => exact noneE hm
   | succ kk =>
    rw [r04_shaped_L1] at hm
    refine w_seq ?_
    refine s_reg [] [0, 1, 5, 10] [(0, [], vL g_v_ v_), (1, [], vU closer), (5, [], vI v6), (10, [], vB (decide (v6 < (ln v_))))] [] H (by kernel_rfl) trivial fun _ _ H8 hb => ?_
    replace hS := hS.below hb
    clear H hb
    refine w_if H8 rfl (fun hc => ?_) (fun hc => ?c24)
    case c24 =>
     replace hm := bF hc hm
     refine w_exit rfl ?_
     obtain rfl := someE hm
     exact ⟨_, rfl, FrG.keep (ks := []) H8 (by kernel_rfl), hS⟩
    replace hm := bT hc hm
    refine w_skip ?_
    refine w_seq ?_
    refine w_block ?_
    obtain ⟨ho9, hm⟩ := chkE hm
    refine s_reg [(vU ((gi v_ v6).Token.Kind)), (vU (r04_Closer ((gi v_ v6).Token.Kind)))] [0, 1, 5, 6] [(0, [], vL g_v_ v_), (1, [], vU closer), (5, [], vI v6), (6, [], vU (r04_Closer ((gi v_ v6).Token.Kind)))] [fun _ => oka g_v_.a ∧ 0 ≤ v6 ∧ v6 < ln v_, fun wz => V.at1 ⟨ab g_v_.a, ao g_v_.a + (v6).toNat * 6, none⟩ (vU ((gi v_ v6).Token.Kind)) wz, rB 66 [vU ((gi v_ v6).Token.Kind)] (vU (r04_Closer ((gi v_ v6).Token.Kind)))] H8 (by kernel_rfl) ⟨((hS.im 0 rfl).oki ho9), ((hS.im 0 rfl).at1 ho9 0 rfl), ((r04_Closer_ok _).b), trivial⟩ fun _ _ H11 hb => ?_
    replace hS := hS.below hb
    clear H8 hb
    obtain ⟨x12, hx12, hm⟩ := letE hm
    obtain ⟨x13, hx13, hm⟩ := letE hm
    obtain ⟨x14, hx14, hm⟩ := letE hm
    obtain ⟨y15, hy15, hm⟩ := bindE hm
    obtain ⟨x16, hx16, hm⟩ := letE hm
    refine s_reg [(.slice (g_v_.s (v6).toNat 0).a (((gi v_ v6).List_).length) (g_v_.s (v6).toNat 0).c), (vU ((gi v_ v6).Token.Kind)), (.slice (g_v_.s (v6).toNat 0).a (((gi v_ v6).List_).length) (g_v_.s (v6).toNat 0).c), (vB y15)] [0, 1, 5, 58] [(0, [], vL g_v_ v_), (1, [], vU closer), (5, [], vI v6), (58, [], vB x16)] [fun _ => (x12 = true ∧ True → oka g_v_.a ∧ 0 ≤ v6 ∧ v6 < ln v_), fun wz => (x12 = true ∧ True → V.at1 ⟨ab g_v_.a, ao g_v_.a + (v6).toNat * 6 + 5, none⟩ (.slice (g_v_.s (v6).toNat 0).a (((gi v_ v6).List_).length) (g_v_.s (v6).toNat 0).c) wz), fun _ => ((closer != 0) = true ∧ x13 = false ∧ True → oka g_v_.a ∧ 0 ≤ v6 ∧ v6 < ln v_), fun wz => ((closer != 0) = true ∧ x13 = false ∧ True → V.at1 ⟨ab g_v_.a, ao g_v_.a + (v6).toNat * 6, none⟩ (vU ((gi v_ v6).Token.Kind)) wz), fun _ => (((r04_Closer ((gi v_ v6).Token.Kind)) != 0) = true ∧ x14 = false ∧ True → oka g_v_.a ∧ 0 ≤ v6 ∧ v6 < ln v_), fun wz => (((r04_Closer ((gi v_ v6).Token.Kind)) != 0) = true ∧ x14 = false ∧ True → V.at1 ⟨ab g_v_.a, ao g_v_.a + (v6).toNat * 6 + 5, none⟩ (.slice (g_v_.s (v6).toNat 0).a (((gi v_ v6).List_).length) (g_v_.s (v6).toNat 0).c) wz), fun wz => (((r04_Closer ((gi v_ v6).Token.Kind)) != 0) = true ∧ x14 = false ∧ True → RetB Tryz.prog 85 ⟨[.slice (g_v_.s (v6).toNat 0).a (((gi v_ v6).List_).length) (g_v_.s (v6).toNat 0).c, vU (r04_Closer ((gi v_ v6).Token.Kind))]⟩ (vB y15) wz)] H11 (by subst hx12 hx13 hx14 hx16; kernel_rfl) ⟨fun hg => (hS.im 0 rfl).oki ho9, fun hg => (hS.im 0 rfl).at1 ho9 5 rfl, fun hg => (hS.im 0 rfl).oki ho9, fun hg => (hS.im 0 rfl).at1 ho9 0 rfl, fun hg => (hS.im 0 rfl).oki ho9, fun hg => (hS.im 0 rfl).at1 ho9 5 rfl, fun hg => retB_of (s0im s0nil (tyValue_i0 ((hS.im 0 rfl).el ho9))) (Tryz.call85 _) (fun w' h' => ih ((g_v_.s (v6).toNat 0)) F0 _ _ _ (bT (hg.1) (bF (hg.2.1) hy15)) w' h'), trivial⟩ fun _ _ H18 hb => ?_
    replace hS := hS.below hb
    clear H11 hb
    refine w_if H18 rfl (fun hc => ?_) (fun hc => ?c23)
    case c23 =>
     replace hm := bF hc hm
     refine w_skip ?_
     refine w_reg [] [0, 1, 5] [(0, [], vL g_v_ v_), (1, [], vU closer), (5, [], vI (w64 (v6 + 1)))] [] H18 (by kernel_rfl) trivial fun _ _ H22 hb => ?_
     replace hS := hS.below hb
     clear H18 hb
     exact ⟨_, Nat.lt_succ_self _, w64 (v6 + 1), hm, FrG.keep (ks := [0, 1, 5]) H22 (by kernel_rfl), hS⟩
    replace hm := bT hc hm
    refine s_reg [] [4] [(4, [], vF)] [] H18 (by kernel_rfl) trivial fun _ _ H20 hb => ?_
    replace hS := hS.below hb
    clear H18 hb
    refine w_ret ?_
    obtain rfl := someE hm
    have hm := hm_z3
    obtain rfl := someE hm
    exact retR1 H20 rfl rfl ⟨_, rfl, rfl, (hS.sel [] rfl)⟩
  ·rintro _ _ ⟨s_z3, hz, H, hS⟩
   subst hz
   replace hm := sumR hm_z3
   replace hS : SH M X w [] _ := hS.sel [] rfl
   refine s_reg [] [4] [(4, [], vT)] [] H (by kernel_rfl) trivial fun _ _ H27 hb => ?_
   replace hS := hS.below hb
   clear H hb
   refine w_ret ?_
   obtain rfl := someE hm
   exact retR1 H27 rfl rfl ⟨_, rfl, rfl, (hS.sel [] rfl)⟩
theorem r04_shaped_ok {g_v_ : Gh} (m : Nat) (v_ : List TValue) (closer : Int) (r : Bool) (hm : r04_shaped m v_ closer = some r) (w : World) (hL : S0 F0 [eI tyValue v_ g_v_] w ∧ fpl [eI tyValue v_ g_v_] = []) : RetB Tryz.prog 85 ⟨[vL g_v_ v_, vU closer]⟩ (vB r) w := retB_of hL (Tryz.call85 _) (fun w' h => r04_shaped_w m   m g_v_ F0 v_ closer r hm w' h)

theorem r04_Check_w {g_v_ : Gh} (M : Av) (m : Nat) (v_ : List TValue) (r : Int) (hm : r04_Check m v_ = some r) (w : World) (hS : S0 M [eI tyValue v_ g_v_] w) : Calls Tryz.prog 67 ⟨[vL g_v_ v_]⟩ w (fun e w' => ∃ v, e = .returned v ∧ v = vI r ∧ SH M (fpl [eI tyValue v_ g_v_]) w [] w') := by
 rw [r04_Check] at hm
 have hS0 : SH M (fpl [eI tyValue v_ g_v_]) w [eI tyValue v_ g_v_] w := hS
 generalize hX : fpl [eI tyValue v_ g_v_] = X at hS0 ⊢
 clear hS hX
 have hS := hS0
 clear hS0
 refine calls_entryP Tryz.func67 rfl Tryz.ntmps67 rfl fun _ H => ?_
 refine s_reg [] [0] [(0, [], vL g_v_ v_)] [] H (by kernel_rfl) trivial fun _ _ H2 hb => ?_
 replace hS := hS.below hb
 clear H hb
 refine w_seq ?_
 obtain ⟨y3, hy3, hm⟩ := bindE hm
 refine s_reg [(vI y3)] [0, 5] [(0, [], vL g_v_ v_), (5, [], vB (decide (16 < y3)))] [rB 42 [vL g_v_ v_] (vI y3)] H2 (by kernel_rfl) ⟨(r04_Deep_ok (g_v_ := g_v_) m _ _ hy3 _ (s0im s0nil (hS.im 0 rfl))), trivial⟩ fun _ _ H5 hb => ?_
 replace hS := hS.below hb
 clear H2 hb
 refine w_if H5 rfl (fun hc => ?c28) (fun hc => ?_)
 case c28 =>
  replace hm := bT hc hm
  refine s_reg [] [2] [(2, [], vI 20)] [] H5 (by kernel_rfl) trivial fun _ _ H7 hb => ?_
  replace hS := hS.below hb
  clear H5 hb
  replace hS : SH M X w [] _ := hS.sel [] rfl
  refine w_ret ?_
  obtain rfl := someE hm
  exact retR1 H7 rfl rfl ⟨_, rfl, rfl, (hS.sel [] rfl)⟩
 replace hm := bF hc hm
 refine w_skip ?_
 refine w_seq ?_
 refine w_seq ?_
 refine wl_start ?_
 refine wl_batch 0 1 [] [0, 6] [(0, [], vL g_v_ v_), (6, [], vL g_v_ v_)] [] H5 (by decide) (by kernel_rfl) trivial fun _ _ H9 hb => ?_
 replace hS := hS.below hb
 clear H5 hb
 obtain ⟨y10, hy10, hm⟩ := bindE hm
 have hd := hS.hand [0] [0] rfl rfl
 refine m_stp [7, 0] [(0, [], vL g_v_ v_)] H9 rfl rfl rfl rfl (o_callx H9 rfl rfl (r04_Tokens_ok (g_v_ := g_v_) m _ _ hy10 _ _ hd)) (fun _ => rfl) fun _ _ v H14 hq => ?_
 clear H9 hd
 obtain ⟨g11, rfl, hq⟩ := hq
 replace hS : SH M X w [eO 61 tyToken y10 g11, eI tyValue v_ g_v_] _ := hS.join [0] [0] rfl rfl hq
 clear hq
 refine wl_batch 2 4 [] [0, 9] [(0, [], vL g_v_ v_), (9, [], vB (decide (1500 < (ln y10))))] [] H14 (by decide) (by kernel_rfl) trivial fun _ _ H16 hb => ?_
 replace hS := hS.below hb
 clear H14 hb
 refine wl_end rfl ?_
 replace hS : SH M X w [eI tyValue v_ g_v_] _ := hS.sel [1] rfl
 refine w_if H16 rfl (fun hc => ?c27) (fun hc => ?_)
 case c27 =>
  replace hm := bT hc hm
  refine s_reg [] [2] [(2, [], vI 4)] [] H16 (by kernel_rfl) trivial fun _ _ H18 hb => ?_
  replace hS := hS.below hb
  clear H16 hb
  replace hS : SH M X w [] _ := hS.sel [] rfl
  refine w_ret ?_
  obtain rfl := someE hm
  exact retR1 H18 rfl rfl ⟨_, rfl, rfl, (hS.sel [] rfl)⟩
 replace hm := bF hc hm
 refine w_skip ?_
 refine w_seq ?_
 obtain ⟨y19, hy19, hm⟩ := bindE hm
 refine s_reg [(vB y19)] [12] [(12, [], vB (!y19))] [rB 85 [vL g_v_ v_, vU 0] (vB y19)] H16 (by kernel_rfl) ⟨(r04_shaped_ok (g_v_ := g_v_) m _ _ _ hy19 _ (s0im s0nil (hS.im 0 rfl))), trivial⟩ fun _ _ H21 hb => ?_
 replace hS := hS.below hb
 clear H16 hb
 replace hS : SH M X w [] _ := hS.sel [] rfl
 refine w_if H21 rfl (fun hc => ?c26) (fun hc => ?_)
 case c26 =>
  replace hm := bT hc hm
  refine s_reg [] [2] [(2, [], vI 8)] [] H21 (by kernel_rfl) trivial fun _ _ H23 hb => ?_
  replace hS := hS.below hb
  clear H21 hb
  refine w_ret ?_
  obtain rfl := someE hm
  exact retR1 H23 rfl rfl ⟨_, rfl, rfl, (hS.sel [] rfl)⟩
 replace hm := bF hc hm
 refine w_skip ?_
 refine s_reg [] [2] [(2, [], vI 0)] [] H21 (by kernel_rfl) trivial fun _ _ H25 hb => ?_
 replace hS := hS.below hb
 clear H21 hb
 refine w_ret ?_
 obtain rfl := someE hm
 exact retR1 H25 rfl rfl ⟨_, rfl, rfl, (hS.sel [] rfl)⟩
theorem r04_Check_ok {g_v_ : Gh} (m : Nat) (v_ : List TValue) (r : Int) (hm : r04_Check m v_ = some r) (w : World) (hL : S0 F0 [eI tyValue v_ g_v_] w ∧ fpl [eI tyValue v_ g_v_] = []) : RetB Tryz.prog 67 ⟨[vL g_v_ v_]⟩ (vI r) w := retB_of hL (Tryz.call67 _) (fun w' h => r04_Check_w F0 m   v_ r hm w' h)

theorem r27_longs_w  (M : Av) (name_ : Str) (r : List Str) (hm : r27_longs name_ = some r) (w : World) (hS : S0 M [] w) : Calls Tryz.prog 97 ⟨[vS name_]⟩ w (fun e w' => ∃ v, e = .returned v ∧ ∃ (g901 : Gh), v = vL g901 r ∧ SH M (fpl []) w [eO 9 tS r g901] w') := by
 rw [r27_longs] at hm
 have hS0 : SH M (fpl []) w [] w := hS
 generalize hX : fpl [] = X at hS0 ⊢
 clear hS hX
 have hS := hS0
 clear hS0
 refine calls_entryP Tryz.func97 rfl Tryz.ntmps97 rfl fun _ H => ?_
 refine s_reg [] [0] [(0, [], vS name_)] [] H (by kernel_rfl) trivial fun _ _ H2 hb => ?_
 replace hS := hS.below hb
 clear H hb
 refine w_seq ?_
 refine s_reg [] [0, 3] [(0, [], vS name_), (3, [], vS name_)] [] H2 (by kernel_rfl) trivial fun _ _ H4 hb => ?_
 replace hS := hS.below hb
 clear H2 hb
 refine w_block ?_
 refine s_reg [] [0, 3, 4] [(0, [], vS name_), (3, [], vS name_), (4, [], vB (name_ == [109, 97, 114, 103, 105, 110]))] [] H4 (by kernel_rfl) trivial fun _ _ H6 hb => ?_
 replace hS := hS.below hb
 clear H4 hb
 refine w_if H6 rfl (fun hc => ?c38) (fun hc => ?_)
 case c38 =>
  replace hm := bT hc hm
  refine w_seq ?_
  refine wl_start ?_
  have hd := hS.hand [] [] rfl rfl
  refine m_stp [6] [] H6 rfl rfl rfl rfl (o_lit (T := tS) (E := 9) (zv := vN) [vS [109, 97, 114, 103, 105, 110, 45, 116, 111, 112], vS [109, 97, 114, 103, 105, 110, 45, 114, 105, 103, 104, 116], vS [109, 97, 114, 103, 105, 110, 45, 98, 111, 116, 116, 111, 109], vS [109, 97, 114, 103, 105, 110, 45, 108, 101, 102, 116]] ([[109, 97, 114, 103, 105, 110, 45, 116, 111, 112], [109, 97, 114, 103, 105, 110, 45, 114, 105, 103, 104, 116], [109, 97, 114, 103, 105, 110, 45, 98, 111, 116, 116, 111, 109], [109, 97, 114, 103, 105, 110, 45, 108, 101, 102, 116]] : List Str) [gL [], gL [], gL [], gL []] _ H6 hd rfl (by kernel_rfl) (by kernel_rfl) (by kernel_rfl) (by kernel_rfl) (by kernel_rfl) (by kernel_rfl) (by kernel_rfl) rfl (InnL.cons trivial (InnL.cons trivial (InnL.cons trivial (InnL.cons trivial InnL.nil))))) (fun _ => rfl) fun _ _ v H10 hq => ?_
  clear H6 hd
  obtain ⟨g7, rfl, hq⟩ := hq
  replace hS : SH M X w [eO 9 tS ([[109, 97, 114, 103, 105, 110, 45, 116, 111, 112], [109, 97, 114, 103, 105, 110, 45, 114, 105, 103, 104, 116], [109, 97, 114, 103, 105, 110, 45, 98, 111, 116, 116, 111, 109], [109, 97, 114, 103, 105, 110, 45, 108, 101, 102, 116]] : List Str) g7] _ := hS.join [] [] rfl rfl hq
  clear hq
  refine wl_batch 1 2 [] [2] [(2, [], .slice g7.a 4 g7.c)] [] H10 (by decide) (by kernel_rfl) trivial fun _ _ H12 hb => ?_
  replace hS := hS.below hb
  clear H10 hb
  refine wl_end rfl ?_
  refine w_ret ?_
  obtain rfl := someE hm
  exact retR1 H12 rfl rfl ⟨_, rfl, g7, rfl, (hS.sel [0] rfl)⟩
 replace hm := bF hc hm
 obtain ⟨z13, hz, hm⟩ := bindE hm
 refine w_cut (fun a' w' => Fr 14 [(0, [], vS name_), (7, [], vB z13)] a' ∧ SH M X w [] w') ?_ ?_
 ·replace hm := hz
  refine s_reg [] [0, 3, 7] [(0, [], vS name_), (3, [], vS name_), (7, [], vB (name_ == [98, 111, 114, 100, 101, 114]))] [] H6 (by kernel_rfl) trivial fun _ _ H15 hb => ?_
  replace hS := hS.below hb
  clear H6 hb
  refine w_if H15 rfl (fun hc => ?c23) (fun hc => ?_)
  case c23 =>
   replace hm := bT hc hm
   refine w_skip ?_
   obtain rfl := someE hm
   exact ⟨FrG.keep (ks := [0, 7]) H15 (by kernel_rfl), hS⟩
  replace hm := bF hc hm
  obtain ⟨x16, hx16, hm⟩ := letE hm
  refine s_reg [] [0, 3, 7] [(0, [], vS name_), (3, [], vS name_), (7, [], vB x16)] [] H15 (by subst hx16; kernel_rfl) trivial fun _ _ H18 hb => ?_
  replace hS := hS.below hb
  clear H15 hb
  refine w_if H18 rfl (fun hc => ?c22) (fun hc => ?_)
  case c22 =>
   replace hm := bT hc hm
   refine w_skip ?_
   obtain rfl := someE hm
   exact ⟨FrG.keep (ks := [0, 7]) H18 (by kernel_rfl), hS⟩
  replace hm := bF hc hm
  obtain ⟨x19, hx19, hm⟩ := letE hm
  refine w_reg [] [0, 7] [(0, [], vS name_), (7, [], vB x19)] [] H18 (by subst hx19; kernel_rfl) trivial fun _ _ H21 hb => ?_
  replace hS := hS.below hb
  clear H18 hb
  obtain rfl := someE hm
  exact ⟨FrG.keep (ks := [0, 7]) H21 (by kernel_rfl), hS⟩
 ·rintro _ _ ⟨H, hS⟩
  refine w_if H rfl (fun hc => ?_) (fun hc => ?c36)
  case c36 =>
   replace hm := bF hc hm
   refine w_skip ?_
   refine s_reg [] [2] [(2, [], vO)] [] H (by kernel_rfl) trivial fun _ _ H34 hb => ?_
   replace hS := hS.below hb
   clear H hb
   refine w_ret ?_
   obtain rfl := someE hm
   replace hS : SH M X w [eO 9 tS ([] : List Str) (.nil)] _ := hS.addNil 9 tS
   exact retR1 H34 rfl rfl ⟨_, rfl, Gh.nil, rfl, (hS.sel [0] rfl)⟩
  replace hm := bT hc hm
  refine w_seq ?_
  refine wl_start ?_
  obtain ⟨ho24, hm⟩ := chkE hm
  refine wl_batch 0 2 [] [12] [(12, [], vS (name_ ++ [45, 99, 111, 108, 111, 114]))] [fun _ => ln name_ + ln [45, 99, 111, 108, 111, 114] ≤ 9223372036854775807] H (by decide) (by kernel_rfl) ⟨ho24, trivial⟩ fun _ _ H26 hb => ?_
  replace hS := hS.below hb
  clear H hb
  have hd := hS.hand [] [] rfl rfl
  refine m_stp [13] [] H26 rfl rfl rfl rfl (o_lit (T := tS) (E := 9) (zv := vN) [vS (name_ ++ [45, 99, 111, 108, 111, 114])] ([name_ ++ [45, 99, 111, 108, 111, 114]] : List Str) [gL []] _ H26 hd rfl (by kernel_rfl) (by kernel_rfl) (by kernel_rfl) (by kernel_rfl) (by kernel_rfl) (by kernel_rfl) (by kernel_rfl) rfl (InnL.cons trivial InnL.nil)) (fun _ => rfl) fun _ _ v H30 hq => ?_
  clear H26 hd
  obtain ⟨g27, rfl, hq⟩ := hq
  replace hS : SH M X w [eO 9 tS ([name_ ++ [45, 99, 111, 108, 111, 114]] : List Str) g27] _ := hS.join [] [] rfl rfl hq
  clear hq
  refine wl_batch 3 4 [] [2] [(2, [], .slice g27.a 1 g27.c)] [] H30 (by decide) (by kernel_rfl) trivial fun _ _ H32 hb => ?_
  replace hS := hS.below hb
  clear H30 hb
  refine wl_end rfl ?_
  refine w_ret ?_
  obtain rfl := someE hm
  exact retR1 H32 rfl rfl ⟨_, rfl, g27, rfl, (hS.sel [0] rfl)⟩
theorem r27_longs_ok  (name_ : Str) (r : List Str) (hm : r27_longs name_ = some r) (M : Av) (w : World) (hS : S0 M [] w) : DoesX Tryz.prog 97 ⟨[vS name_]⟩ w (fun v w' => ∃ (g901 : Gh), v = vL g901 r ∧ SH M (fpl []) w [eO 9 tS r g901] w') := ⟨Tryz.call97 _, r27_longs_w M   name_ r hm w hS⟩

theorem r27_Longs_w  (M : Av) (m : Nat) (name_ : Str) (r : (List Str) × Int) (hm : r27_Longs m name_ = some r) (w : World) (hS : S0 M [] w) : Calls Tryz.prog 86 ⟨[vS name_]⟩ w (fun e w' => ∃ v, e = .returned v ∧ ∃ (g901 : Gh), v = vW [vL g901 r.1, vI r.2] ∧ SH M (fpl []) w [eO 9 tS r.1 g901] w') := by
 rw [r27_Longs] at hm
 have hS0 : SH M (fpl []) w [] w := hS
 generalize hX : fpl [] = X at hS0 ⊢
 clear hS hX
 have hS := hS0
 clear hS0
 refine calls_entryP Tryz.func86 rfl Tryz.ntmps86 rfl fun _ H => ?_
 refine s_reg [] [0] [(0, [], vS name_)] [] H (by kernel_rfl) trivial fun _ _ H2 hb => ?_
 replace hS := hS.below hb
 clear H hb
 refine w_seq ?_
 refine w_seq ?_
 refine wl_start ?_
 refine wl_batch 0 1 [] [0, 7] [(0, [], vS name_), (7, [], vS name_)] [] H2 (by decide) (by kernel_rfl) trivial fun _ _ H4 hb => ?_
 replace hS := hS.below hb
 clear H2 hb
 obtain ⟨y5, hy5, hm⟩ := bindE hm
 have hd := hS.hand [] [] rfl rfl
 refine m_stp [8, 0] [(0, [], vS name_)] H4 rfl rfl rfl rfl (o_callx H4 rfl rfl (r27_longs_ok _ _ hy5 _ _ hd)) (fun _ => rfl) fun _ _ v H9 hq => ?_
 clear H4 hd
 obtain ⟨g6, rfl, hq⟩ := hq
 replace hS : SH M X w [eO 9 tS y5 g6] _ := hS.join [] [] rfl rfl hq
 clear hq
 refine wl_batch 2 3 [] [0, 4] [(0, [], vS name_), (4, [], vL g6 y5)] [] H9 (by decide) (by kernel_rfl) trivial fun _ _ H11 hb => ?_
 replace hS := hS.below hb
 clear H9 hb
 refine wl_end rfl ?_
 refine s_reg [] [0, 4, 11] [(0, [], vS name_), (4, [], vL g6 y5), (11, [], vB (decide (0 < (ln y5))))] [] H11 (by kernel_rfl) trivial fun _ _ H13 hb => ?_
 replace hS := hS.below hb
 clear H11 hb
 refine w_if H13 rfl (fun hc => ?c33) (fun hc => ?_)
 case c33 =>
  replace hm := bT hc hm
  refine s_reg [] [2, 3] [(2, [], vL g6 y5), (3, [], vI 0)] [] H13 (by kernel_rfl) trivial fun _ _ H15 hb => ?_
  replace hS := hS.below hb
  clear H13 hb
  refine w_ret ?_
  obtain rfl := someE hm
  exact retR2 H15 rfl rfl rfl ⟨_, rfl, g6, rfl, (hS.sel [0] rfl)⟩
 replace hm := bF hc hm
 refine w_skip ?_
 refine w_seq ?_
 obtain ⟨y16, hy16, hm⟩ := bindE hm
 refine s_reg [(vW [vB y16.1, vI y16.2])] [0, 6] [(0, [], vS name_), (6, [], vI y16.2)] [rB 28 [vS name_] (vW [vB y16.1, vI y16.2])] H13 (by kernel_rfl) ⟨((r25_Inherited_ok 64 _ _ hy16).b), trivial⟩ fun _ _ H18 hb => ?_
 replace hS := hS.below hb
 clear H13 hb
 replace hS : SH M X w [] _ := hS.sel [] rfl
 refine s_reg [] [0, 19] [(0, [], vS name_), (19, [], vB (y16.2 != 0))] [] H18 (by kernel_rfl) trivial fun _ _ H20 hb => ?_
 replace hS := hS.below hb
 clear H18 hb
 refine w_if H20 rfl (fun hc => ?c32) (fun hc => ?_)
 case c32 =>
  replace hm := bT hc hm
  refine s_reg [] [2, 3] [(2, [], vO), (3, [], vI 6)] [] H20 (by kernel_rfl) trivial fun _ _ H22 hb => ?_
  replace hS := hS.below hb
  clear H20 hb
  refine w_ret ?_
  obtain rfl := someE hm
  replace hS : SH M X w [eO 9 tS ([] : List Str) (.nil)] _ := hS.addNil 9 tS
  exact retR2 H22 rfl rfl rfl ⟨_, rfl, Gh.nil, rfl, (hS.sel [0] rfl)⟩
 replace hm := bF hc hm
 refine w_skip ?_
 refine w_seq ?_
 refine wl_start ?_
 refine wl_batch 0 1 [] [20] [(20, [], vS name_)] [] H20 (by decide) (by kernel_rfl) trivial fun _ _ H25 hb => ?_
 replace hS := hS.below hb
 clear H20 hb
 have hd := hS.hand [] [] rfl rfl
 refine m_stp [21] [] H25 rfl rfl rfl rfl (o_lit (T := tS) (E := 9) (zv := vN) [vS name_] ([name_] : List Str) [gL []] _ H25 hd rfl (by kernel_rfl) (by kernel_rfl) (by kernel_rfl) (by kernel_rfl) (by kernel_rfl) (by kernel_rfl) (by kernel_rfl) rfl (InnL.cons trivial InnL.nil)) (fun _ => rfl) fun _ _ v H29 hq => ?_
 clear H25 hd
 obtain ⟨g26, rfl, hq⟩ := hq
 replace hS : SH M X w [eO 9 tS ([name_] : List Str) g26] _ := hS.join [] [] rfl rfl hq
 clear hq
 refine wl_batch 2 4 [] [2, 3] [(2, [], .slice g26.a 1 g26.c), (3, [], vI 0)] [] H29 (by decide) (by kernel_rfl) trivial fun _ _ H31 hb => ?_
 replace hS := hS.below hb
 clear H29 hb
 refine wl_end rfl ?_
 refine w_ret ?_
 obtain rfl := someE hm
 exact retR2 H31 rfl rfl rfl ⟨_, rfl, g26, rfl, (hS.sel [0] rfl)⟩
theorem r27_Longs_ok  (m : Nat) (name_ : Str) (r : (List Str) × Int) (hm : r27_Longs m name_ = some r) (M : Av) (w : World) (hS : S0 M [] w) : DoesX Tryz.prog 86 ⟨[vS name_]⟩ w (fun v w' => ∃ (g901 : Gh), v = vW [vL g901 r.1, vI r.2] ∧ SH M (fpl []) w [eO 9 tS r.1 g901] w') := ⟨Tryz.call86 _, r27_Longs_w M m   name_ r hm w hS⟩

theorem r29_whole_w {g_x__0 : Gh} (M : Av) (m : Nat) (x_ : TLong) (r : Bool) (hm : r29_whole m x_ = some r) (w : World) (hS : S0 M [eI tyValue x_.Value g_x__0] w) : Calls Tryz.prog 68 ⟨[vG [vS x_.Name, vL g_x__0 x_.Value, vS x_.Whole]]⟩ w (fun e w' => ∃ v, e = .returned v ∧ v = vB r ∧ SH M (fpl [eI tyValue x_.Value g_x__0]) w [] w') := by
 rw [r29_whole] at hm
 have hS0 : SH M (fpl [eI tyValue x_.Value g_x__0]) w [eI tyValue x_.Value g_x__0] w := hS
 generalize hX : fpl [eI tyValue x_.Value g_x__0] = X at hS0 ⊢
 clear hS hX
 have hS := hS0
 clear hS0
 refine calls_entryP Tryz.func68 rfl Tryz.ntmps68 rfl fun _ H => ?_
 refine w_seq ?_
 refine wl_start ?_
 have hd := hS.hand [] [0] rfl rfl
 refine m_stp [1] [] H rfl rfl rfl rfl (o_box [vS x_.Name, vL g_x__0 x_.Value, vS x_.Whole] H hd rfl rfl) (fun _ => rfl) fun _ _ v H3 hq => ?_
 clear H hd
 obtain ⟨b1, rfl, hq⟩ := hq
 replace hS : SH M X w [eB b1 [vS x_.Name, vL g_x__0 x_.Value, vS x_.Whole], eI tyValue x_.Value g_x__0] _ := hS.join [] [0] rfl rfl hq
 clear hq
 refine wl_batch 1 2 [] [1] [(1, [], vP b1)] [] H3 (by decide) (by kernel_rfl) trivial fun _ _ H5 hb => ?_
 replace hS := hS.below hb
 clear H3 hb
 refine wl_end rfl ?_
 refine w_seq ?_
 refine s_reg [(vS x_.Whole)] [1, 8] [(1, [], vP b1), (8, [], vB (x_.Whole == []))] [rA b1 2 (vS x_.Whole)] H5 (by kernel_rfl) ⟨((hS.bk 0 rfl).at1 rfl), trivial⟩ fun _ _ H7 hb => ?_
 replace hS := hS.below hb
 clear H5 hb
 refine w_if H7 rfl (fun hc => ?c44) (fun hc => ?_)
 case c44 =>
  replace hm := bT hc hm
  refine s_reg [] [2] [(2, [], vT)] [] H7 (by kernel_rfl) trivial fun _ _ H9 hb => ?_
  replace hS := hS.below hb
  clear H7 hb
  replace hS : SH M X w [] _ := hS.sel [] rfl
  refine w_ret ?_
  obtain rfl := someE hm
  exact retR1 H9 rfl rfl ⟨_, rfl, rfl, (hS.sel [] rfl)⟩
 replace hm := bF hc hm
 refine w_skip ?_
 refine w_seq ?_
 refine s_reg [(vS x_.Whole), (vS x_.Name)] [1, 13] [(1, [], vP b1), (13, [], vB (x_.Whole == x_.Name))] [rA b1 2 (vS x_.Whole), rA b1 0 (vS x_.Name)] H7 (by kernel_rfl) ⟨((hS.bk 0 rfl).at1 rfl), ((hS.bk 0 rfl).at1 rfl), trivial⟩ fun _ _ H11 hb => ?_
 replace hS := hS.below hb
 clear H7 hb
 refine w_if H11 rfl (fun hc => ?c43) (fun hc => ?_)
 case c43 =>
  replace hm := bT hc hm
  refine s_reg [] [2] [(2, [], vF)] [] H11 (by kernel_rfl) trivial fun _ _ H13 hb => ?_
  replace hS := hS.below hb
  clear H11 hb
  replace hS : SH M X w [] _ := hS.sel [] rfl
  refine w_ret ?_
  obtain rfl := someE hm
  exact retR1 H13 rfl rfl ⟨_, rfl, rfl, (hS.sel [] rfl)⟩
 replace hm := bF hc hm
 refine w_skip ?_
 refine w_seq ?_
 refine wl_start ?_
 refine wl_batch 0 2 [(vS x_.Whole)] [1, 16] [(1, [], vP b1), (16, [], vS x_.Whole)] [rA b1 2 (vS x_.Whole)] H11 (by decide) (by kernel_rfl) ⟨((hS.bk 0 rfl).at1 rfl), trivial⟩ fun _ _ H15 hb => ?_
 replace hS := hS.below hb
 clear H11 hb
 obtain ⟨y16, hy16, hm⟩ := bindE hm
 have hd := hS.hand [] [0, 1] rfl rfl
 refine m_stp [17, 1] [(1, [], vP b1)] H15 rfl rfl rfl rfl (o_callx H15 rfl rfl (r27_Longs_ok 64 _ _ hy16 _ _ hd)) (fun _ => rfl) fun _ _ v H20 hq => ?_
 clear H15 hd
 obtain ⟨g17, rfl, hq⟩ := hq
 replace hS : SH M X w [eO 9 tS y16.1 g17, eB b1 [vS x_.Name, vL g_x__0 x_.Value, vS x_.Whole], eI tyValue x_.Value g_x__0] _ := hS.join [] [0, 1] rfl rfl hq
 clear hq
 refine wl_batch 3 8 [] [1, 3, 4] [(1, [], vP b1), (3, [], vL g17 y16.1), (4, [], vI y16.2)] [] H20 (by decide) (by kernel_rfl) trivial fun _ _ H22 hb => ?_
 replace hS := hS.below hb
 clear H20 hb
 refine wl_end rfl ?_
 obtain ⟨z23, hz, hm_z23⟩ := bindE hm
 refine w_cut (fun a' w' => ∃ s_z23 : Unit, z23 = Sum.inr s_z23 ∧ Fr 37 [] a' ∧ SH M X w [eO 9 tS y16.1 g17, eB b1 [vS x_.Name, vL g_x__0 x_.Value, vS x_.Whole], eI tyValue x_.Value g_x__0] w') ?_ ?_
 ·replace hm := hz
  refine s_reg [] [1, 3, 4, 5] [(1, [], vP b1), (3, [], vL g17 y16.1), (4, [], vI y16.2), (5, [], vI 0)] [] H22 (by kernel_rfl) trivial fun _ _ H25 hb => ?_
  replace hS := hS.below hb
  clear H22 hb
  refine w_block ?_
  refine w_loop (fun kk a' w' => ∃ (v26 : Int), r29_whole_L1 m x_ y16 kk v26 = some _ ∧ Fr 37 [(1, [], vP b1), (3, [], vL g17 y16.1), (4, [], vI y16.2), (5, [], vI v26)] a' ∧ SH M X w [eO 9 tS y16.1 g17, eB b1 [vS x_.Name, vL g_x__0 x_.Value, vS x_.Whole], eI tyValue x_.Value g_x__0] w') ⟨_, 0, hm, FrG.keep (ks := [1, 3, 4, 5]) H25 (by kernel_rfl), hS⟩ ?_
  clear hm H25 hS
  rintro kk _ _ ⟨v26, hm, H, hS⟩
  cases kk with
  | zero => exact noneE hm
  | succ kk =>
   rw [r29_whole_L1] at hm
   refine w_seq ?_
   obtain ⟨x27, hx27, hm⟩ := letE hm
   refine s_reg [] [1, 3, 4, 5, 27] [(1, [], vP b1), (3, [], vL g17 y16.1), (4, [], vI y16.2), (5, [], vI v26), (27, [], vB x27)] [] H (by subst hx27; kernel_rfl) trivial fun _ _ H29 hb => ?_
   replace hS := hS.below hb
   clear H hb
   refine w_if H29 rfl (fun hc => ?_) (fun hc => ?c38)
   case c38 =>
    replace hm := bF hc hm
    refine w_exit rfl ?_
    obtain rfl := someE hm
    exact ⟨_, rfl, FrG.keep (ks := []) H29 (by kernel_rfl), hS⟩
   replace hm := bT hc hm
   refine w_skip ?_
   refine w_seq ?_
   refine w_block ?_
   obtain ⟨ho30, hm⟩ := chkE hm
   refine s_draw [(vS (gi y16.1 v26)), (vS x_.Name)] [1, 3, 4, 5, 36] [(1, [], vP b1), (3, [], vL g17 y16.1), (4, [], vI y16.2), (5, [], vI v26), (36, [], vB ((gi y16.1 v26) == x_.Name))] [fun _ => oka g17.a ∧ 0 ≤ v26 ∧ v26 < ln y16.1, fun wz => V.at1 ⟨ab g17.a, ao g17.a + (v26).toNat * 1, none⟩ (vS (gi y16.1 v26)) wz, rA b1 0 (vS x_.Name)] H29 (by kernel_rfl) (by kernel_rfl) (by kernel_rfl) ⟨((hS.osl 0 rfl).oki ho30), ((hS.osl 0 rfl).at1 ho30 0 rfl), ((hS.bk 1 rfl).at1 rfl), trivial⟩ fun _ _ H32 hb => ?_
   replace hS := hS.below hb
   clear H29 hb
   refine w_if H32 rfl (fun hc => ?_) (fun hc => ?c37)
   case c37 =>
    replace hm := bF hc hm
    refine w_skip ?_
    refine w_reg [] [1, 3, 4, 5] [(1, [], vP b1), (3, [], vL g17 y16.1), (4, [], vI y16.2), (5, [], vI (w64 (v26 + 1)))] [] H32 (by kernel_rfl) trivial fun _ _ H36 hb => ?_
    replace hS := hS.below hb
    clear H32 hb
    exact ⟨_, Nat.lt_succ_self _, w64 (v26 + 1), hm, FrG.keep (ks := [1, 3, 4, 5]) H36 (by kernel_rfl), hS⟩
   replace hm := bT hc hm
   refine s_reg [] [2] [(2, [], vT)] [] H32 (by kernel_rfl) trivial fun _ _ H34 hb => ?_
   replace hS := hS.below hb
   clear H32 hb
   refine w_ret ?_
   obtain rfl := someE hm
   have hm := hm_z23
   obtain rfl := someE hm
   exact retR1 H34 rfl rfl ⟨_, rfl, rfl, (hS.sel [] rfl)⟩
 ·rintro _ _ ⟨s_z23, hz, H, hS⟩
  subst hz
  replace hm := sumR hm_z23
  replace hS : SH M X w [] _ := hS.sel [] rfl
  refine s_reg [] [2] [(2, [], vF)] [] H (by kernel_rfl) trivial fun _ _ H41 hb => ?_
  replace hS := hS.below hb
  clear H hb
  refine w_ret ?_
  obtain rfl := someE hm
  exact retR1 H41 rfl rfl ⟨_, rfl, rfl, (hS.sel [] rfl)⟩
theorem r29_whole_ok {g_x__0 : Gh} (m : Nat) (x_ : TLong) (r : Bool) (hm : r29_whole m x_ = some r) (w : World) (hL : S0 F0 [eI tyValue x_.Value g_x__0] w ∧ fpl [eI tyValue x_.Value g_x__0] = []) : RetB Tryz.prog 68 ⟨[vG [vS x_.Name, vL g_x__0 x_.Value, vS x_.Whole]]⟩ (vB r) w := retB_of hL (Tryz.call68 _) (fun w' h => r29_whole_w F0 m   x_ r hm w' h)

theorem r29_in_w  (M : Av) (n_ : Int) (r : Bool) (hm : r29_in n_ = r) (w : World) (hS : S0 M [] w) : Calls Tryz.prog 69 ⟨[vI n_]⟩ w (fun e w' => ∃ v, e = .returned v ∧ v = vB r ∧ SH M (fpl []) w [] w') := by
 rw [r29_in] at hm
 have hS0 : SH M (fpl []) w [] w := hS
 generalize hX : fpl [] = X at hS0 ⊢
 clear hS hX
 have hS := hS0
 clear hS0
 refine calls_entryP Tryz.func69 rfl Tryz.ntmps69 rfl fun _ H => ?_
 refine s_reg [] [0] [(0, [], vI n_)] [] H (by kernel_rfl) trivial fun _ _ H2 hb => ?_
 replace hS := hS.below hb
 clear H hb
 obtain ⟨x3, hx3, hm⟩ := letE hm
 refine s_reg [] [2] [(2, [], vB x3)] [] H2 (by subst hx3; kernel_rfl) trivial fun _ _ H5 hb => ?_
 replace hS := hS.below hb
 clear H2 hb
 refine w_ret ?_
 subst hm
 exact retR1 H5 rfl rfl ⟨_, rfl, rfl, (hS.sel [] rfl)⟩
theorem r29_in_ok  (n_ : Int) : Ret Tryz.prog 69 ⟨[vI n_]⟩ (vB (r29_in n_)) := retP_of (Tryz.call69 _) (fun w h => r29_in_w F0   n_ _ rfl w h)

theorem r29_Check_w {g_d__0 : Gh} (M : Av) (m : Nat) (d_ : TDeclared) (r : Int) (hm : r29_Check m d_ = some r) (w : World) (hS : S0 M [eI tyValue d_.Long.Value g_d__0] w) : Calls Tryz.prog 43 ⟨[vG [vS d_.Long.Name, vL g_d__0 d_.Long.Value, vS d_.Long.Whole, vB d_.Important, vU d_.Origin, vB d_.Attached, vI d_.Layer, vI d_.Weight.e0, vI d_.Weight.e1, vI d_.Weight.e2, vI d_.Order]]⟩ w (fun e w' => ∃ v, e = .returned v ∧ v = vI r ∧ SH M (fpl [eI tyValue d_.Long.Value g_d__0]) w [] w') := by
 rw [r29_Check] at hm
 have hS0 : SH M (fpl [eI tyValue d_.Long.Value g_d__0]) w [eI tyValue d_.Long.Value g_d__0] w := hS
 generalize hX : fpl [eI tyValue d_.Long.Value g_d__0] = X at hS0 ⊢
 clear hS hX
 have hS := hS0
 clear hS0
 refine calls_entryP Tryz.func43 rfl Tryz.ntmps43 rfl fun _ H => ?_
 refine w_seq ?_
 refine wl_start ?_
 have hd := hS.hand [] [0] rfl rfl
 refine m_stp [1] [] H rfl rfl rfl rfl (o_box [vS d_.Long.Name, vL g_d__0 d_.Long.Value, vS d_.Long.Whole, vB d_.Important, vU d_.Origin, vB d_.Attached, vI d_.Layer, vI d_.Weight.e0, vI d_.Weight.e1, vI d_.Weight.e2, vI d_.Order] H hd rfl rfl) (fun _ => rfl) fun _ _ v H3 hq => ?_
 clear H hd
 obtain ⟨b1, rfl, hq⟩ := hq
 replace hS : SH M X w [eB b1 [vS d_.Long.Name, vL g_d__0 d_.Long.Value, vS d_.Long.Whole, vB d_.Important, vU d_.Origin, vB d_.Attached, vI d_.Layer, vI d_.Weight.e0, vI d_.Weight.e1, vI d_.Weight.e2, vI d_.Order], eI tyValue d_.Long.Value g_d__0] _ := hS.join [] [0] rfl rfl hq
 clear hq
 refine wl_batch 1 2 [] [1] [(1, [], vP b1)] [] H3 (by decide) (by kernel_rfl) trivial fun _ _ H5 hb => ?_
 replace hS := hS.below hb
 clear H3 hb
 refine wl_end rfl ?_
 refine w_seq ?_
 obtain ⟨y6, hy6, hm⟩ := bindE hm
 refine s_reg [(vS d_.Long.Name), (vW [vB y6.1, vI y6.2])] [1, 4] [(1, [], vP b1), (4, [], vI y6.2)] [rA b1 0 (vS d_.Long.Name), rB 28 [vS d_.Long.Name] (vW [vB y6.1, vI y6.2])] H5 (by kernel_rfl) ⟨((hS.bk 0 rfl).at1 rfl), ((r25_Inherited_ok 64 _ _ hy6).b), trivial⟩ fun _ _ H8 hb => ?_
 replace hS := hS.below hb
 clear H5 hb
 obtain ⟨y9, hy9, hm⟩ := bindE hm
 obtain ⟨y10, hy10, hm⟩ := bindE hm
 obtain ⟨x11, hx11, hm⟩ := letE hm
 refine s_reg [(vL g_d__0 d_.Long.Value), (vI y9), (vG [vS d_.Long.Name, vL g_d__0 d_.Long.Value, vS d_.Long.Whole]), (vB y10)] [1, 26] [(1, [], vP b1), (26, [], vB x11)] [fun wz => ((y6.2 != 0) = false ∧ True → V.at1 ⟨b1, 1, none⟩ (vL g_d__0 d_.Long.Value) wz), fun wz => ((y6.2 != 0) = false ∧ True → RetB Tryz.prog 67 ⟨[vL g_d__0 d_.Long.Value]⟩ (vI y9) wz), fun wz => ((cond (y6.2 != 0) true (y9 != 0)) = false ∧ True → V.atN b1 0 [vS d_.Long.Name, vL g_d__0 d_.Long.Value, vS d_.Long.Whole] 0 wz), fun wz => ((cond (y6.2 != 0) true (y9 != 0)) = false ∧ True → RetB Tryz.prog 68 ⟨[vG [vS d_.Long.Name, vL g_d__0 d_.Long.Value, vS d_.Long.Whole]]⟩ (vB y10) wz)] H8 (by subst hx11; kernel_rfl) ⟨fun hg => (hS.bk 0 rfl).at1 rfl, fun hg => r04_Check_ok (g_v_ := g_d__0) m _ _ (bF (hg.1) hy9) _ (s0im s0nil (hS.im 1 rfl)), fun hg => (hS.bk 0 rfl).atD rfl, fun hg => r29_whole_ok (g_x__0 := g_d__0) m _ _ (bF (hg.1) hy10) _ (s0im s0nil (hS.im 1 rfl)), trivial⟩ fun _ _ H13 hb => ?_
 replace hS := hS.below hb
 clear H8 hb
 refine w_if H13 rfl (fun hc => ?c32) (fun hc => ?_)
 case c32 =>
  replace hm := bT hc hm
  refine s_reg [] [2] [(2, [], vI 8)] [] H13 (by kernel_rfl) trivial fun _ _ H15 hb => ?_
  replace hS := hS.below hb
  clear H13 hb
  replace hS : SH M X w [] _ := hS.sel [] rfl
  refine w_ret ?_
  obtain rfl := someE hm
  exact retR1 H15 rfl rfl ⟨_, rfl, rfl, (hS.sel [] rfl)⟩
 replace hm := bF hc hm
 refine w_skip ?_
 refine w_seq ?_
 obtain ⟨x16, hx16, hm⟩ := letE hm
 obtain ⟨x17, hx17, hm⟩ := letE hm
 obtain ⟨x18, hx18, hm⟩ := letE hm
 refine s_reg [(vU d_.Origin), (vU d_.Origin), (vI d_.Layer), (vB (r29_in d_.Layer)), (vI d_.Order), (vB (r29_in d_.Order)), (vI d_.Weight.e0), (vB (r29_in d_.Weight.e0)), (vI d_.Weight.e1), (vB (r29_in d_.Weight.e1)), (vI d_.Weight.e2), (vB (r29_in d_.Weight.e2))] [1, 67] [(1, [], vP b1), (67, [], vB (cond x18 true (!(r29_in d_.Weight.e2))))] [rA b1 4 (vU d_.Origin), fun wz => ((decide (d_.Origin < 1)) = false ∧ True → V.at1 ⟨b1, 4, none⟩ (vU d_.Origin) wz), fun wz => (x16 = false ∧ True → V.at1 ⟨b1, 6, none⟩ (vI d_.Layer) wz), fun wz => (x16 = false ∧ True → RetB Tryz.prog 69 ⟨[vI d_.Layer]⟩ (vB (r29_in d_.Layer)) wz), fun wz => ((cond x16 true (!(r29_in d_.Layer))) = false ∧ True → V.at1 ⟨b1, 10, none⟩ (vI d_.Order) wz), fun wz => ((cond x16 true (!(r29_in d_.Layer))) = false ∧ True → RetB Tryz.prog 69 ⟨[vI d_.Order]⟩ (vB (r29_in d_.Order)) wz), fun _ => (x17 = false ∧ True → 0 ≤ (0 : Int) ∧ (0 : Int) < 3), fun wz => (x17 = false ∧ True → V.at1 ⟨b1, 7, none⟩ (vI d_.Weight.e0) wz), fun wz => (x17 = false ∧ True → RetB Tryz.prog 69 ⟨[vI d_.Weight.e0]⟩ (vB (r29_in d_.Weight.e0)) wz), fun _ => ((cond x17 true (!(r29_in d_.Weight.e0))) = false ∧ True → 0 ≤ (1 : Int) ∧ (1 : Int) < 3), fun wz => ((cond x17 true (!(r29_in d_.Weight.e0))) = false ∧ True → V.at1 ⟨b1, 8, none⟩ (vI d_.Weight.e1) wz), fun wz => ((cond x17 true (!(r29_in d_.Weight.e0))) = false ∧ True → RetB Tryz.prog 69 ⟨[vI d_.Weight.e1]⟩ (vB (r29_in d_.Weight.e1)) wz), fun _ => (x18 = false ∧ True → 0 ≤ (2 : Int) ∧ (2 : Int) < 3), fun wz => (x18 = false ∧ True → V.at1 ⟨b1, 9, none⟩ (vI d_.Weight.e2) wz), fun wz => (x18 = false ∧ True → RetB Tryz.prog 69 ⟨[vI d_.Weight.e2]⟩ (vB (r29_in d_.Weight.e2)) wz)] H13 (by subst hx16 hx17 hx18; kernel_rfl) ⟨((hS.bk 0 rfl).at1 rfl), fun hg => (hS.bk 0 rfl).at1 rfl, fun hg => (hS.bk 0 rfl).at1 rfl, fun hg => (r29_in_ok _).b, fun hg => (hS.bk 0 rfl).at1 rfl, fun hg => (r29_in_ok _).b, fun hg => (show 0 ≤ (0 : Int) ∧ (0 : Int) < 3 from by decide), fun hg => (hS.bk 0 rfl).at1 rfl, fun hg => (r29_in_ok _).b, fun hg => (show 0 ≤ (1 : Int) ∧ (1 : Int) < 3 from by decide), fun hg => (hS.bk 0 rfl).at1 rfl, fun hg => (r29_in_ok _).b, fun hg => (show 0 ≤ (2 : Int) ∧ (2 : Int) < 3 from by decide), fun hg => (hS.bk 0 rfl).at1 rfl, fun hg => (r29_in_ok _).b, trivial⟩ fun _ _ H20 hb => ?_
 replace hS := hS.below hb
 clear H13 hb
 refine w_if H20 rfl (fun hc => ?c31) (fun hc => ?_)
 case c31 =>
  replace hm := bT hc hm
  refine s_reg [] [2] [(2, [], vI 8)] [] H20 (by kernel_rfl) trivial fun _ _ H22 hb => ?_
  replace hS := hS.below hb
  clear H20 hb
  replace hS : SH M X w [] _ := hS.sel [] rfl
  refine w_ret ?_
  obtain rfl := someE hm
  exact retR1 H22 rfl rfl ⟨_, rfl, rfl, (hS.sel [] rfl)⟩
 replace hm := bF hc hm
 refine w_skip ?_
 refine w_seq ?_
 obtain ⟨x23, hx23, hm⟩ := letE hm
 refine s_reg [(vB d_.Attached), (vU d_.Origin), (vI d_.Layer), (vG [vI d_.Weight.e0, vI d_.Weight.e1, vI d_.Weight.e2])] [85] [(85, [], vB x23)] [rA b1 5 (vB d_.Attached), fun wz => (d_.Attached = true ∧ True → V.at1 ⟨b1, 4, none⟩ (vU d_.Origin) wz), fun wz => ((d_.Origin != 3) = false ∧ d_.Attached = true ∧ True → V.at1 ⟨b1, 6, none⟩ (vI d_.Layer) wz), fun wz => ((cond (d_.Origin != 3) true (d_.Layer != 0)) = false ∧ d_.Attached = true ∧ True → V.atN b1 7 [vI d_.Weight.e0, vI d_.Weight.e1, vI d_.Weight.e2] 0 wz)] H20 (by subst hx23; kernel_rfl) ⟨((hS.bk 0 rfl).at1 rfl), fun hg => (hS.bk 0 rfl).at1 rfl, fun hg => (hS.bk 0 rfl).at1 rfl, fun hg => (hS.bk 0 rfl).atD rfl, trivial⟩ fun _ _ H25 hb => ?_
 replace hS := hS.below hb
 clear H20 hb
 replace hS : SH M X w [] _ := hS.sel [] rfl
 refine w_if H25 rfl (fun hc => ?c30) (fun hc => ?_)
 case c30 =>
  replace hm := bT hc hm
  refine s_reg [] [2] [(2, [], vI 8)] [] H25 (by kernel_rfl) trivial fun _ _ H27 hb => ?_
  replace hS := hS.below hb
  clear H25 hb
  refine w_ret ?_
  obtain rfl := someE hm
  exact retR1 H27 rfl rfl ⟨_, rfl, rfl, (hS.sel [] rfl)⟩
 replace hm := bF hc hm
 refine w_skip ?_
 refine s_reg [] [2] [(2, [], vI 0)] [] H25 (by kernel_rfl) trivial fun _ _ H29 hb => ?_
 replace hS := hS.below hb
 clear H25 hb
 refine w_ret ?_
 obtain rfl := someE hm
 exact retR1 H29 rfl rfl ⟨_, rfl, rfl, (hS.sel [] rfl)⟩
theorem r29_Check_ok {g_d__0 : Gh} (m : Nat) (d_ : TDeclared) (r : Int) (hm : r29_Check m d_ = some r) (w : World) (hL : S0 F0 [eI tyValue d_.Long.Value g_d__0] w ∧ fpl [eI tyValue d_.Long.Value g_d__0] = []) : RetB Tryz.prog 43 ⟨[vG [vS d_.Long.Name, vL g_d__0 d_.Long.Value, vS d_.Long.Whole, vB d_.Important, vU d_.Origin, vB d_.Attached, vI d_.Layer, vI d_.Weight.e0, vI d_.Weight.e1, vI d_.Weight.e2, vI d_.Order]]⟩ (vI r) w := retB_of hL (Tryz.call43 _) (fun w' h => r29_Check_w F0 m   d_ r hm w' h)

theorem r29_All_w {g_l_ : Gh} (M : Av) (m : Nat) (l_ : List TDeclared) (r : Int) (hm : r29_All m l_ = some r) (w : World) (hS : S0 M [eI tyDeclared l_ g_l_] w) : Calls Tryz.prog 23 ⟨[vL g_l_ l_]⟩ w (fun e w' => ∃ v, e = .returned v ∧ v = vI r ∧ SH M (fpl [eI tyDeclared l_ g_l_]) w [] w') := by
 rw [r29_All] at hm
 have hS0 : SH M (fpl [eI tyDeclared l_ g_l_]) w [eI tyDeclared l_ g_l_] w := hS
 generalize hX : fpl [eI tyDeclared l_ g_l_] = X at hS0 ⊢
 clear hS hX
 have hS := hS0
 clear hS0
 refine calls_entryP Tryz.func23 rfl Tryz.ntmps23 rfl fun _ H => ?_
 refine s_reg [] [0] [(0, [], vL g_l_ l_)] [] H (by kernel_rfl) trivial fun _ _ H2 hb => ?_
 replace hS := hS.below hb
 clear H hb
 obtain ⟨z3, hz, hm_z3⟩ := bindE hm
 refine w_cut (fun a' w' => ∃ s_z3 : Unit, z3 = Sum.inr s_z3 ∧ Fr 19 [] a' ∧ SH M X w [eI tyDeclared l_ g_l_] w') ?_ ?_
 ·replace hm := hz
  refine s_reg [] [0, 3] [(0, [], vL g_l_ l_), (3, [], vI 0)] [] H2 (by kernel_rfl) trivial fun _ _ H5 hb => ?_
  replace hS := hS.below hb
  clear H2 hb
  refine w_block ?_
  refine w_loop (fun kk a' w' => ∃ (v6 : Int), r29_All_L1 m l_ kk v6 = some _ ∧ Fr 19 [(0, [], vL g_l_ l_), (3, [], vI v6)] a' ∧ SH M X w [eI tyDeclared l_ g_l_] w') ⟨_, 0, hm, FrG.keep (ks := [0, 3]) H5 (by kernel_rfl), hS⟩ ?_
  clear hm H5 hS
  rintro kk _ _ ⟨v6, hm, H, hS⟩
  cases kk with
  | zero => exact noneE hm
  | succ kk =>
   rw [r29_All_L1] at hm
   refine w_seq ?_
   refine s_reg [] [0, 3, 8] [(0, [], vL g_l_ l_), (3, [], vI v6), (8, [], vB (decide (v6 < (ln l_))))] [] H (by kernel_rfl) trivial fun _ _ H8 hb => ?_
   replace hS := hS.below hb
   clear H hb
   refine w_if H8 rfl (fun hc => ?_) (fun hc => ?c20)
   case c20 =>
    replace hm := bF hc hm
    refine w_exit rfl ?_
    obtain rfl := someE hm
    exact ⟨_, rfl, FrG.keep (ks := []) H8 (by kernel_rfl), hS⟩
   replace hm := bT hc hm
   refine w_skip ?_
   refine w_seq ?_
   refine w_block ?_
   obtain ⟨ho9, hm⟩ := chkE hm
   obtain ⟨y10, hy10, hm⟩ := bindE hm
   refine s_reg [(vG [vS (gi l_ v6).Long.Name, .slice (g_l_.s (v6).toNat 0).a (((gi l_ v6).Long.Value).length) (g_l_.s (v6).toNat 0).c, vS (gi l_ v6).Long.Whole, vB ((gi l_ v6).Important), vU ((gi l_ v6).Origin), vB ((gi l_ v6).Attached), vI ((gi l_ v6).Layer), vI ((gi l_ v6).Weight.e0), vI ((gi l_ v6).Weight.e1), vI ((gi l_ v6).Weight.e2), vI ((gi l_ v6).Order)]), (vI y10)] [0, 3, 4] [(0, [], vL g_l_ l_), (3, [], vI v6), (4, [], vI y10)] [fun _ => oka g_l_.a ∧ 0 ≤ v6 ∧ v6 < ln l_, fun wz => V.atN (ab g_l_.a) (ao g_l_.a + (v6).toNat * 11) [vS (gi l_ v6).Long.Name, .slice (g_l_.s (v6).toNat 0).a (((gi l_ v6).Long.Value).length) (g_l_.s (v6).toNat 0).c, vS (gi l_ v6).Long.Whole, vB ((gi l_ v6).Important), vU ((gi l_ v6).Origin), vB ((gi l_ v6).Attached), vI ((gi l_ v6).Layer), vI ((gi l_ v6).Weight.e0), vI ((gi l_ v6).Weight.e1), vI ((gi l_ v6).Weight.e2), vI ((gi l_ v6).Order)] 0 wz, rB 43 [vG [vS (gi l_ v6).Long.Name, .slice (g_l_.s (v6).toNat 0).a (((gi l_ v6).Long.Value).length) (g_l_.s (v6).toNat 0).c, vS (gi l_ v6).Long.Whole, vB ((gi l_ v6).Important), vU ((gi l_ v6).Origin), vB ((gi l_ v6).Attached), vI ((gi l_ v6).Layer), vI ((gi l_ v6).Weight.e0), vI ((gi l_ v6).Weight.e1), vI ((gi l_ v6).Weight.e2), vI ((gi l_ v6).Order)]] (vI y10)] H8 (by kernel_rfl) ⟨((hS.im 0 rfl).oki ho9), ((hS.im 0 rfl).atA ho9 0 rfl), (r29_Check_ok (g_d__0 := (g_l_.s (v6).toNat 0)) m _ _ hy10 _ (s0im s0nil (tyDeclared_i0 ((hS.im 0 rfl).el ho9)))), trivial⟩ fun _ _ H12 hb => ?_
   replace hS := hS.below hb
   clear H8 hb
   refine s_reg [] [0, 3, 4, 17] [(0, [], vL g_l_ l_), (3, [], vI v6), (4, [], vI y10), (17, [], vB (y10 != 0))] [] H12 (by kernel_rfl) trivial fun _ _ H14 hb => ?_
   replace hS := hS.below hb
   clear H12 hb
   refine w_if H14 rfl (fun hc => ?_) (fun hc => ?c19)
   case c19 =>
    replace hm := bF hc hm
    refine w_skip ?_
    refine w_reg [] [0, 3] [(0, [], vL g_l_ l_), (3, [], vI (w64 (v6 + 1)))] [] H14 (by kernel_rfl) trivial fun _ _ H18 hb => ?_
    replace hS := hS.below hb
    clear H14 hb
    exact ⟨_, Nat.lt_succ_self _, w64 (v6 + 1), hm, FrG.keep (ks := [0, 3]) H18 (by kernel_rfl), hS⟩
   replace hm := bT hc hm
   refine s_reg [] [2] [(2, [], vI y10)] [] H14 (by kernel_rfl) trivial fun _ _ H16 hb => ?_
   replace hS := hS.below hb
   clear H14 hb
   refine w_ret ?_
   obtain rfl := someE hm
   have hm := hm_z3
   obtain rfl := someE hm
   exact retR1 H16 rfl rfl ⟨_, rfl, rfl, (hS.sel [] rfl)⟩
 ·rintro _ _ ⟨s_z3, hz, H, hS⟩
  subst hz
  replace hm := sumR hm_z3
  replace hS : SH M X w [] _ := hS.sel [] rfl
  refine s_reg [] [2] [(2, [], vI 0)] [] H (by kernel_rfl) trivial fun _ _ H23 hb => ?_
  replace hS := hS.below hb
  clear H hb
  refine w_ret ?_
  obtain rfl := someE hm
  exact retR1 H23 rfl rfl ⟨_, rfl, rfl, (hS.sel [] rfl)⟩
theorem r29_All_ok {g_l_ : Gh} (m : Nat) (l_ : List TDeclared) (r : Int) (hm : r29_All m l_ = some r) (w : World) (hL : S0 F0 [eI tyDeclared l_ g_l_] w ∧ fpl [eI tyDeclared l_ g_l_] = []) : RetB Tryz.prog 23 ⟨[vL g_l_ l_]⟩ (vI r) w := retB_of hL (Tryz.call23 _) (fun w' h => r29_All_w F0 m   l_ r hm w' h)

def tyA7_int : Ty TA7_int where
  z := 7
  enc := fun x g => [vI x.e0, vI x.e1, vI x.e2, vI x.e3, vI x.e4, vI x.e5, vI x.e6]
  inn := fun _ _ _ _ => True
  len := fun _ _ => rfl
  one := fun _ _ => rfl
  kp := fun _ _ _ => trivial
  anti := fun _ _ => trivial
  fresh := fun _ => trivial
theorem r29_Ranked_w {g_d__0 : Gh} (M : Av) (d_ : TDeclared) (r : TA7_int) (hm : r29_Ranked d_ = r) (w : World) (hS : S0 M [eI tyValue d_.Long.Value g_d__0] w) : Calls Tryz.prog 70 ⟨[vG [vS d_.Long.Name, vL g_d__0 d_.Long.Value, vS d_.Long.Whole, vB d_.Important, vU d_.Origin, vB d_.Attached, vI d_.Layer, vI d_.Weight.e0, vI d_.Weight.e1, vI d_.Weight.e2, vI d_.Order]]⟩ w (fun e w' => ∃ v, e = .returned v ∧ v = vG [vI r.e0, vI r.e1, vI r.e2, vI r.e3, vI r.e4, vI r.e5, vI r.e6] ∧ SH M (fpl [eI tyValue d_.Long.Value g_d__0]) w [] w') := by
 rw [r29_Ranked] at hm
 have hS0 : SH M (fpl [eI tyValue d_.Long.Value g_d__0]) w [eI tyValue d_.Long.Value g_d__0] w := hS
 generalize hX : fpl [eI tyValue d_.Long.Value g_d__0] = X at hS0 ⊢
 clear hS hX
 have hS := hS0
 clear hS0
 refine calls_entryP Tryz.func70 rfl Tryz.ntmps70 rfl fun _ H => ?_
 refine w_seq ?_
 refine wl_start ?_
 have hd := hS.hand [] [0] rfl rfl
 refine m_stp [1] [] H rfl rfl rfl rfl (o_box [vS d_.Long.Name, vL g_d__0 d_.Long.Value, vS d_.Long.Whole, vB d_.Important, vU d_.Origin, vB d_.Attached, vI d_.Layer, vI d_.Weight.e0, vI d_.Weight.e1, vI d_.Weight.e2, vI d_.Order] H hd rfl rfl) (fun _ => rfl) fun _ _ v H3 hq => ?_
 clear H hd
 obtain ⟨b1, rfl, hq⟩ := hq
 replace hS : SH M X w [eB b1 [vS d_.Long.Name, vL g_d__0 d_.Long.Value, vS d_.Long.Whole, vB d_.Important, vU d_.Origin, vB d_.Attached, vI d_.Layer, vI d_.Weight.e0, vI d_.Weight.e1, vI d_.Weight.e2, vI d_.Order], eI tyValue d_.Long.Value g_d__0] _ := hS.join [] [0] rfl rfl hq
 clear hq
 have hd := hS.hand [] [0, 1] rfl rfl
 refine m_stp [2, 1] [(1, [], vP b1)] H3 rfl rfl rfl rfl (o_alloc [vI 0, vI 0, vI 0, vI 0, vI 0, vI 0, vI 0] (z := vG [vI 0, vI 0, vI 0, vI 0, vI 0, vI 0, vI 0]) hd (by kernel_rfl) rfl) (fun _ => rfl) fun _ _ v H6 hq => ?_
 clear H3 hd
 obtain ⟨b4, rfl, hq⟩ := hq
 replace hS : SH M X w [eB b4 [vI 0, vI 0, vI 0, vI 0, vI 0, vI 0, vI 0], eB b1 [vS d_.Long.Name, vL g_d__0 d_.Long.Value, vS d_.Long.Whole, vB d_.Important, vU d_.Origin, vB d_.Attached, vI d_.Layer, vI d_.Weight.e0, vI d_.Weight.e1, vI d_.Weight.e2, vI d_.Order], eI tyValue d_.Long.Value g_d__0] _ := hS.join [] [0, 1] rfl rfl hq
 clear hq
 refine wl_end rfl ?_
 refine w_seq ?_
 refine wl_start ?_
 refine wl_batch 0 17 [(vU d_.Origin), (vI d_.Layer), (vI d_.Weight.e0), (vI d_.Weight.e1), (vI d_.Weight.e2), (vI d_.Order)] [1, 2, 20] [(1, [], vP b1), (2, [], vP b4), (20, [], vG [vI (w64 d_.Origin), vI 0, vI d_.Layer, vI d_.Weight.e0, vI d_.Weight.e1, vI d_.Weight.e2, vI d_.Order])] [rA b1 4 (vU d_.Origin), rA b1 6 (vI d_.Layer), fun _ => 0 ≤ (0 : Int) ∧ (0 : Int) < 3, rA b1 7 (vI d_.Weight.e0), fun _ => 0 ≤ (1 : Int) ∧ (1 : Int) < 3, rA b1 8 (vI d_.Weight.e1), fun _ => 0 ≤ (2 : Int) ∧ (2 : Int) < 3, rA b1 9 (vI d_.Weight.e2), rA b1 10 (vI d_.Order)] H6 (by decide) (by kernel_rfl) ⟨((hS.bk 1 rfl).at1 rfl), ((hS.bk 1 rfl).at1 rfl), (show 0 ≤ (0 : Int) ∧ (0 : Int) < 3 from by decide), ((hS.bk 1 rfl).at1 rfl), (show 0 ≤ (1 : Int) ∧ (1 : Int) < 3 from by decide), ((hS.bk 1 rfl).at1 rfl), (show 0 ≤ (2 : Int) ∧ (2 : Int) < 3 from by decide), ((hS.bk 1 rfl).at1 rfl), ((hS.bk 1 rfl).at1 rfl), trivial⟩ fun _ _ H8 hb => ?_
 replace hS := hS.below hb
 clear H6 hb
 have hd := hS.hand [] [0, 1, 2] rfl rfl
 refine m_stp [3, 1, 2, 20] [(1, [], vP b1), (2, [], vP b4), (20, [], vG [vI (w64 d_.Origin), vI 0, vI d_.Layer, vI d_.Weight.e0, vI d_.Weight.e1, vI d_.Weight.e2, vI d_.Order])] H8 rfl rfl rfl rfl (o_alloc [vI 0, vI 0, vI 0, vI 0, vI 0, vI 0, vI 0] (z := vG [vI 0, vI 0, vI 0, vI 0, vI 0, vI 0, vI 0]) hd (by kernel_rfl) rfl) (fun _ => rfl) fun _ _ v H11 hq => ?_
 clear H8 hd
 obtain ⟨b9, rfl, hq⟩ := hq
 replace hS : SH M X w [eB b9 [vI 0, vI 0, vI 0, vI 0, vI 0, vI 0, vI 0], eB b4 [vI 0, vI 0, vI 0, vI 0, vI 0, vI 0, vI 0], eB b1 [vS d_.Long.Name, vL g_d__0 d_.Long.Value, vS d_.Long.Whole, vB d_.Important, vU d_.Origin, vB d_.Attached, vI d_.Layer, vI d_.Weight.e0, vI d_.Weight.e1, vI d_.Weight.e2, vI d_.Order], eI tyValue d_.Long.Value g_d__0] _ := hS.join [] [0, 1, 2] rfl rfl hq
 clear hq
 have hd := hS.hand [0] [1, 2, 3] rfl rfl
 refine m_stp0 [1, 2, 3] [(1, [], vP b1), (2, [], vP b4), (3, [], vP b9)] H11 rfl rfl rfl (o_store [vI (w64 d_.Origin), vI 0, vI d_.Layer, vI d_.Weight.e0, vI d_.Weight.e1, vI d_.Weight.e2, vI d_.Order] H11 hd rfl rfl (by kernel_rfl) rfl rfl rfl) rfl fun _ _ H13 hq => ?_
 clear H11 hd
 obtain ⟨_, hq⟩ := hq
 replace hS : SH M X w [eB b9 [vI (w64 d_.Origin), vI 0, vI d_.Layer, vI d_.Weight.e0, vI d_.Weight.e1, vI d_.Weight.e2, vI d_.Order], eB b4 [vI 0, vI 0, vI 0, vI 0, vI 0, vI 0, vI 0], eB b1 [vS d_.Long.Name, vL g_d__0 d_.Long.Value, vS d_.Long.Whole, vB d_.Important, vU d_.Origin, vB d_.Attached, vI d_.Layer, vI d_.Weight.e0, vI d_.Weight.e1, vI d_.Weight.e2, vI d_.Order], eI tyValue d_.Long.Value g_d__0] _ := hS.join [0] [1, 2, 3] rfl rfl hq
 clear hq
 refine wl_end rfl ?_
 obtain ⟨z14, hz, hm⟩ := letE hm
 refine w_cut (fun a' w' => Fr 36 [(1, [], vP b1), (2, [], vP b4), (3, [], vP b9)] a' ∧ SH M X w [eB b9 [vI (w64 d_.Origin), vI z14, vI d_.Layer, vI d_.Weight.e0, vI d_.Weight.e1, vI d_.Weight.e2, vI d_.Order], eB b4 [vI 0, vI 0, vI 0, vI 0, vI 0, vI 0, vI 0], eB b1 [vS d_.Long.Name, vL g_d__0 d_.Long.Value, vS d_.Long.Whole, vB d_.Important, vU d_.Origin, vB d_.Attached, vI d_.Layer, vI d_.Weight.e0, vI d_.Weight.e1, vI d_.Weight.e2, vI d_.Order], eI tyValue d_.Long.Value g_d__0] w') ?_ ?_
 ·replace hm := hz.symm
  refine s_reg [(vB d_.Attached)] [1, 2, 3, 22] [(1, [], vP b1), (2, [], vP b4), (3, [], vP b9), (22, [], vB d_.Attached)] [rA b1 5 (vB d_.Attached)] H13 (by kernel_rfl) ⟨((hS.bk 2 rfl).at1 rfl), trivial⟩ fun _ _ H16 hb => ?_
  replace hS := hS.below hb
  clear H13 hb
  refine w_if H16 rfl (fun hc => ?_) (fun hc => ?c21)
  case c21 =>
   replace hm := bF hc hm
   refine w_skip ?_
   subst hm
   exact ⟨FrG.keep (ks := [1, 2, 3]) H16 (by kernel_rfl), hS⟩
  replace hm := bT hc hm
  refine wl_start ?_
  refine wl_batch 0 1 [] [1, 2, 3, 23] [(1, [], vP b1), (2, [], vP b4), (3, [], vP b9), (23, [], vA b9 1)] [fun _ => 0 ≤ (1 : Int) ∧ (1 : Int) < 7] H16 (by decide) (by kernel_rfl) ⟨(show 0 ≤ (1 : Int) ∧ (1 : Int) < 7 from by decide), trivial⟩ fun _ _ H18 hb => ?_
  replace hS := hS.below hb
  clear H16 hb
  have hd := hS.hand [0] [1, 2, 3] rfl rfl
  refine m_stp0 [1, 2, 3] [(1, [], vP b1), (2, [], vP b4), (3, [], vP b9)] H18 rfl rfl rfl (o_store [vI (w64 d_.Origin), vI 1, vI d_.Layer, vI d_.Weight.e0, vI d_.Weight.e1, vI d_.Weight.e2, vI d_.Order] H18 hd rfl rfl (by kernel_rfl) rfl rfl rfl) rfl fun _ _ H20 hq => ?_
  clear H18 hd
  obtain ⟨_, hq⟩ := hq
  replace hS : SH M X w [eB b9 [vI (w64 d_.Origin), vI 1, vI d_.Layer, vI d_.Weight.e0, vI d_.Weight.e1, vI d_.Weight.e2, vI d_.Order], eB b4 [vI 0, vI 0, vI 0, vI 0, vI 0, vI 0, vI 0], eB b1 [vS d_.Long.Name, vL g_d__0 d_.Long.Value, vS d_.Long.Whole, vB d_.Important, vU d_.Origin, vB d_.Attached, vI d_.Layer, vI d_.Weight.e0, vI d_.Weight.e1, vI d_.Weight.e2, vI d_.Order], eI tyValue d_.Long.Value g_d__0] _ := hS.join [0] [1, 2, 3] rfl rfl hq
  clear hq
  refine wl_end rfl ?_
  subst hm
  exact ⟨FrG.keep (ks := [1, 2, 3]) H20 (by kernel_rfl), hS⟩
 ·rintro _ _ ⟨H, hS⟩
  obtain ⟨z22, hz, hm⟩ := letE hm
  refine w_cut (fun a' w' => Fr 36 [(2, [], vP b4), (3, [], vP b9)] a' ∧ SH M X w [eB b9 [vI z22.1, vI z14, vI z22.2, vI d_.Weight.e0, vI d_.Weight.e1, vI d_.Weight.e2, vI d_.Order], eB b4 [vI 0, vI 0, vI 0, vI 0, vI 0, vI 0, vI 0], eB b1 [vS d_.Long.Name, vL g_d__0 d_.Long.Value, vS d_.Long.Whole, vB d_.Important, vU d_.Origin, vB d_.Attached, vI d_.Layer, vI d_.Weight.e0, vI d_.Weight.e1, vI d_.Weight.e2, vI d_.Order], eI tyValue d_.Long.Value g_d__0] w') ?_ ?_
  ·replace hm := hz.symm
   refine s_reg [(vB d_.Important)] [1, 2, 3, 25] [(1, [], vP b1), (2, [], vP b4), (3, [], vP b9), (25, [], vB d_.Important)] [rA b1 3 (vB d_.Important)] H (by kernel_rfl) ⟨((hS.bk 2 rfl).at1 rfl), trivial⟩ fun _ _ H24 hb => ?_
   replace hS := hS.below hb
   clear H hb
   refine w_if H24 rfl (fun hc => ?_) (fun hc => ?c33)
   case c33 =>
    replace hm := bF hc hm
    refine w_skip ?_
    subst hm
    exact ⟨FrG.keep (ks := [2, 3]) H24 (by kernel_rfl), hS⟩
   replace hm := bT hc hm
   refine w_seq ?_
   refine wl_start ?_
   refine wl_batch 0 5 [(vU d_.Origin)] [1, 2, 3, 29, 30] [(1, [], vP b1), (2, [], vP b4), (3, [], vP b9), (29, [], vI (w64 (7 - (w64 d_.Origin)))), (30, [], vP b9)] [rA b1 4 (vU d_.Origin), fun _ => 0 ≤ (0 : Int) ∧ (0 : Int) < 7] H24 (by decide) (by kernel_rfl) ⟨((hS.bk 2 rfl).at1 rfl), (show 0 ≤ (0 : Int) ∧ (0 : Int) < 7 from by decide), trivial⟩ fun _ _ H26 hb => ?_
   replace hS := hS.below hb
   clear H24 hb
   have hd := hS.hand [0] [1, 2, 3] rfl rfl
   refine m_stp0 [1, 2, 3] [(1, [], vP b1), (2, [], vP b4), (3, [], vP b9)] H26 rfl rfl rfl (o_store [vI (w64 (7 - (w64 d_.Origin))), vI z14, vI d_.Layer, vI d_.Weight.e0, vI d_.Weight.e1, vI d_.Weight.e2, vI d_.Order] H26 hd rfl rfl (by kernel_rfl) rfl rfl rfl) rfl fun _ _ H28 hq => ?_
   clear H26 hd
   obtain ⟨_, hq⟩ := hq
   replace hS : SH M X w [eB b9 [vI (w64 (7 - (w64 d_.Origin))), vI z14, vI d_.Layer, vI d_.Weight.e0, vI d_.Weight.e1, vI d_.Weight.e2, vI d_.Order], eB b4 [vI 0, vI 0, vI 0, vI 0, vI 0, vI 0, vI 0], eB b1 [vS d_.Long.Name, vL g_d__0 d_.Long.Value, vS d_.Long.Whole, vB d_.Important, vU d_.Origin, vB d_.Attached, vI d_.Layer, vI d_.Weight.e0, vI d_.Weight.e1, vI d_.Weight.e2, vI d_.Order], eI tyValue d_.Long.Value g_d__0] _ := hS.join [0] [1, 2, 3] rfl rfl hq
   clear hq
   refine wl_end rfl ?_
   refine wl_start ?_
   refine wl_batch 0 4 [(vI d_.Layer)] [2, 3, 33, 34] [(2, [], vP b4), (3, [], vP b9), (33, [], vI (w64 (1000000 - d_.Layer))), (34, [], vA b9 2)] [rA b1 6 (vI d_.Layer), fun _ => 0 ≤ (2 : Int) ∧ (2 : Int) < 7] H28 (by decide) (by kernel_rfl) ⟨((hS.bk 2 rfl).at1 rfl), (show 0 ≤ (2 : Int) ∧ (2 : Int) < 7 from by decide), trivial⟩ fun _ _ H30 hb => ?_
   replace hS := hS.below hb
   clear H28 hb
   have hd := hS.hand [0] [1, 2, 3] rfl rfl
   refine m_stp0 [2, 3] [(2, [], vP b4), (3, [], vP b9)] H30 rfl rfl rfl (o_store [vI (w64 (7 - (w64 d_.Origin))), vI z14, vI (w64 (1000000 - d_.Layer)), vI d_.Weight.e0, vI d_.Weight.e1, vI d_.Weight.e2, vI d_.Order] H30 hd rfl rfl (by kernel_rfl) rfl rfl rfl) rfl fun _ _ H32 hq => ?_
   clear H30 hd
   obtain ⟨_, hq⟩ := hq
   replace hS : SH M X w [eB b9 [vI (w64 (7 - (w64 d_.Origin))), vI z14, vI (w64 (1000000 - d_.Layer)), vI d_.Weight.e0, vI d_.Weight.e1, vI d_.Weight.e2, vI d_.Order], eB b4 [vI 0, vI 0, vI 0, vI 0, vI 0, vI 0, vI 0], eB b1 [vS d_.Long.Name, vL g_d__0 d_.Long.Value, vS d_.Long.Whole, vB d_.Important, vU d_.Origin, vB d_.Attached, vI d_.Layer, vI d_.Weight.e0, vI d_.Weight.e1, vI d_.Weight.e2, vI d_.Order], eI tyValue d_.Long.Value g_d__0] _ := hS.join [0] [1, 2, 3] rfl rfl hq
   clear hq
   refine wl_end rfl ?_
   subst hm
   exact ⟨FrG.keep (ks := [2, 3]) H32 (by kernel_rfl), hS⟩
  ·rintro _ _ ⟨H, hS⟩
   replace hS : SH M X w [eB b9 [vI z22.1, vI z14, vI z22.2, vI d_.Weight.e0, vI d_.Weight.e1, vI d_.Weight.e2, vI d_.Order], eB b4 [vI 0, vI 0, vI 0, vI 0, vI 0, vI 0, vI 0]] _ := hS.sel [0, 1] rfl
   refine w_seq ?_
   refine wl_start ?_
   refine wl_batch 0 1 [(vG [vI z22.1, vI z14, vI z22.2, vI d_.Weight.e0, vI d_.Weight.e1, vI d_.Weight.e2, vI d_.Order])] [2, 35] [(2, [], vP b4), (35, [], vG [vI z22.1, vI z14, vI z22.2, vI d_.Weight.e0, vI d_.Weight.e1, vI d_.Weight.e2, vI d_.Order])] [rN b9 0 [vI z22.1, vI z14, vI z22.2, vI d_.Weight.e0, vI d_.Weight.e1, vI d_.Weight.e2, vI d_.Order]] H (by decide) (by kernel_rfl) ⟨((hS.bk 0 rfl).atD rfl), trivial⟩ fun _ _ H35 hb => ?_
   replace hS := hS.below hb
   clear H hb
   have hd := hS.hand [1] [0] rfl rfl
   refine m_stp0 [2] [(2, [], vP b4)] H35 rfl rfl rfl (o_store [vI z22.1, vI z14, vI z22.2, vI d_.Weight.e0, vI d_.Weight.e1, vI d_.Weight.e2, vI d_.Order] H35 hd rfl rfl (by kernel_rfl) rfl rfl rfl) rfl fun _ _ H37 hq => ?_
   clear H35 hd
   obtain ⟨_, hq⟩ := hq
   replace hS : SH M X w [eB b4 [vI z22.1, vI z14, vI z22.2, vI d_.Weight.e0, vI d_.Weight.e1, vI d_.Weight.e2, vI d_.Order], eB b9 [vI z22.1, vI z14, vI z22.2, vI d_.Weight.e0, vI d_.Weight.e1, vI d_.Weight.e2, vI d_.Order]] _ := hS.join [1] [0] rfl rfl hq
   clear hq
   refine wl_end rfl ?_
   replace hS : SH M X w [eB b4 [vI z22.1, vI z14, vI z22.2, vI d_.Weight.e0, vI d_.Weight.e1, vI d_.Weight.e2, vI d_.Order]] _ := hS.sel [0] rfl
   refine w_ret ?_
   subst hm
   exact retR1 H37 rfl (oneRes_agg rfl (hS.bk 0 rfl) Tryz.underlying114 rfl (by kernel_rfl)) ⟨_, rfl, rfl, (hS.sel [] rfl)⟩
theorem r29_Ranked_ok {g_d__0 : Gh} (d_ : TDeclared) (w : World) (hL : S0 F0 [eI tyValue d_.Long.Value g_d__0] w ∧ fpl [eI tyValue d_.Long.Value g_d__0] = []) : RetB Tryz.prog 70 ⟨[vG [vS d_.Long.Name, vL g_d__0 d_.Long.Value, vS d_.Long.Whole, vB d_.Important, vU d_.Origin, vB d_.Attached, vI d_.Layer, vI d_.Weight.e0, vI d_.Weight.e1, vI d_.Weight.e2, vI d_.Order]]⟩ (vG [vI (r29_Ranked d_).e0, vI (r29_Ranked d_).e1, vI (r29_Ranked d_).e2, vI (r29_Ranked d_).e3, vI (r29_Ranked d_).e4, vI (r29_Ranked d_).e5, vI (r29_Ranked d_).e6]) w := retB_of hL (Tryz.call70 _) (fun w' h => r29_Ranked_w F0   d_ _ rfl w' h)

theorem r29_Less_w {g_a__0 : Gh} {g_b__0 : Gh} (M : Av) (m : Nat) (a_ : TDeclared) (b_ : TDeclared) (r : Bool) (hm : r29_Less m a_ b_ = some r) (w : World) (hS : S0 M [eI tyValue a_.Long.Value g_a__0, eI tyValue b_.Long.Value g_b__0] w) : Calls Tryz.prog 44 ⟨[vG [vS a_.Long.Name, vL g_a__0 a_.Long.Value, vS a_.Long.Whole, vB a_.Important, vU a_.Origin, vB a_.Attached, vI a_.Layer, vI a_.Weight.e0, vI a_.Weight.e1, vI a_.Weight.e2, vI a_.Order], vG [vS b_.Long.Name, vL g_b__0 b_.Long.Value, vS b_.Long.Whole, vB b_.Important, vU b_.Origin, vB b_.Attached, vI b_.Layer, vI b_.Weight.e0, vI b_.Weight.e1, vI b_.Weight.e2, vI b_.Order]]⟩ w (fun e w' => ∃ v, e = .returned v ∧ v = vB r ∧ SH M (fpl [eI tyValue a_.Long.Value g_a__0, eI tyValue b_.Long.Value g_b__0]) w [] w') := by
 rw [r29_Less] at hm
 have hS0 : SH M (fpl [eI tyValue a_.Long.Value g_a__0, eI tyValue b_.Long.Value g_b__0]) w [eI tyValue a_.Long.Value g_a__0, eI tyValue b_.Long.Value g_b__0] w := hS
 generalize hX : fpl [eI tyValue a_.Long.Value g_a__0, eI tyValue b_.Long.Value g_b__0] = X at hS0 ⊢
 clear hS hX
 have hS := hS0
 clear hS0
 refine calls_entryP Tryz.func44 rfl Tryz.ntmps44 rfl fun _ H => ?_
 refine w_seq ?_
 refine wl_start ?_
 have hd := hS.hand [] [0, 1] rfl rfl
 refine m_stp [2, 1] [(1, [], vG [vS b_.Long.Name, vL g_b__0 b_.Long.Value, vS b_.Long.Whole, vB b_.Important, vU b_.Origin, vB b_.Attached, vI b_.Layer, vI b_.Weight.e0, vI b_.Weight.e1, vI b_.Weight.e2, vI b_.Order])] H rfl rfl rfl rfl (o_box [vS a_.Long.Name, vL g_a__0 a_.Long.Value, vS a_.Long.Whole, vB a_.Important, vU a_.Origin, vB a_.Attached, vI a_.Layer, vI a_.Weight.e0, vI a_.Weight.e1, vI a_.Weight.e2, vI a_.Order] H hd rfl rfl) (fun _ => rfl) fun _ _ v H3 hq => ?_
 clear H hd
 obtain ⟨b1, rfl, hq⟩ := hq
 replace hS : SH M X w [eB b1 [vS a_.Long.Name, vL g_a__0 a_.Long.Value, vS a_.Long.Whole, vB a_.Important, vU a_.Origin, vB a_.Attached, vI a_.Layer, vI a_.Weight.e0, vI a_.Weight.e1, vI a_.Weight.e2, vI a_.Order], eI tyValue a_.Long.Value g_a__0, eI tyValue b_.Long.Value g_b__0] _ := hS.join [] [0, 1] rfl rfl hq
 clear hq
 have hd := hS.hand [] [0, 1, 2] rfl rfl
 refine m_stp [3, 2] [(2, [], vP b1)] H3 rfl rfl rfl rfl (o_box [vS b_.Long.Name, vL g_b__0 b_.Long.Value, vS b_.Long.Whole, vB b_.Important, vU b_.Origin, vB b_.Attached, vI b_.Layer, vI b_.Weight.e0, vI b_.Weight.e1, vI b_.Weight.e2, vI b_.Order] H3 hd rfl rfl) (fun _ => rfl) fun _ _ v H6 hq => ?_
 clear H3 hd
 obtain ⟨b4, rfl, hq⟩ := hq
 replace hS : SH M X w [eB b4 [vS b_.Long.Name, vL g_b__0 b_.Long.Value, vS b_.Long.Whole, vB b_.Important, vU b_.Origin, vB b_.Attached, vI b_.Layer, vI b_.Weight.e0, vI b_.Weight.e1, vI b_.Weight.e2, vI b_.Order], eB b1 [vS a_.Long.Name, vL g_a__0 a_.Long.Value, vS a_.Long.Whole, vB a_.Important, vU a_.Origin, vB a_.Attached, vI a_.Layer, vI a_.Weight.e0, vI a_.Weight.e1, vI a_.Weight.e2, vI a_.Order], eI tyValue a_.Long.Value g_a__0, eI tyValue b_.Long.Value g_b__0] _ := hS.join [] [0, 1, 2] rfl rfl hq
 clear hq
 refine wl_batch 2 3 [] [2, 3] [(2, [], vP b1), (3, [], vP b4)] [] H6 (by decide) (by kernel_rfl) trivial fun _ _ H8 hb => ?_
 replace hS := hS.below hb
 clear H6 hb
 refine wl_end rfl ?_
 obtain ⟨y10, hy10, hm⟩ := letE hm
 obtain ⟨y11, hy11, hm⟩ := letE hm
 refine s_drawS (base := [(2, [], vP b1), (3, [], vP b4)]) (L := [eB b4 [vS b_.Long.Name, vL g_b__0 b_.Long.Value, vS b_.Long.Whole, vB b_.Important, vU b_.Origin, vB b_.Attached, vI b_.Layer, vI b_.Weight.e0, vI b_.Weight.e1, vI b_.Weight.e2, vI b_.Order], eB b1 [vS a_.Long.Name, vL g_a__0 a_.Long.Value, vS a_.Long.Whole, vB a_.Important, vU a_.Origin, vB a_.Attached, vI a_.Layer, vI a_.Weight.e0, vI a_.Weight.e1, vI a_.Weight.e2, vI a_.Order], eI tyValue a_.Long.Value g_a__0, eI tyValue b_.Long.Value g_b__0]) 8 4 (fun yg9 => [vG [vS a_.Long.Name, vL g_a__0 a_.Long.Value, vS a_.Long.Whole, vB a_.Important, vU a_.Origin, vB a_.Attached, vI a_.Layer, vI a_.Weight.e0, vI a_.Weight.e1, vI a_.Weight.e2, vI a_.Order], vG [vI y10.e0, vI y10.e1, vI y10.e2, vI y10.e3, vI y10.e4, vI y10.e5, vI y10.e6], vG [vS b_.Long.Name, vL g_b__0 b_.Long.Value, vS b_.Long.Whole, vB b_.Important, vU b_.Origin, vB b_.Attached, vI b_.Layer, vI b_.Weight.e0, vI b_.Weight.e1, vI b_.Weight.e2, vI b_.Order], vG [vI y11.e0, vI y11.e1, vI y11.e2, vI y11.e3, vI y11.e4, vI y11.e5, vI y11.e6], .pointer (some ⟨(ab (yg9 4 0).a), 0, none⟩), .pointer (some ⟨(ab (yg9 5 0).a), 0, none⟩), undef, undef]) (fun yg9 => [[], [], [], [], [eB (ab (yg9 4 0).a) [vI 0, vI 0, vI 0, vI 0, vI 0, vI 0, vI 0]], [eB (ab (yg9 5 0).a) [vI 0, vI 0, vI 0, vI 0, vI 0, vI 0, vI 0]], [eB (ab (yg9 4 0).a) [vI y10.e0, vI y10.e1, vI y10.e2, vI y10.e3, vI y10.e4, vI y10.e5, vI y10.e6]], [eB (ab (yg9 5 0).a) [vI y11.e0, vI y11.e1, vI y11.e2, vI y11.e3, vI y11.e4, vI y11.e5, vI y11.e6]]]) [[9, 10], [10], [8, 11], [11], [], [], [4], [5]] [[], [], [], [], [], [], [4], [5]] [[0], [0, 1], [2], [2, 3], [4], [5], [0, 1, 4, 6], [2, 3, 5, 7]] [] (FrG.keep (ks := [2, 3]) H8 (by kernel_rfl)) (fun _ _ h => by cases h) (by kernel_rfl) hS (by kernel_rfl) rfl rfl (by kernel_rfl) (by kernel_rfl) (by kernel_rfl) (gd_none (by kernel_rfl) _ _) ?hloc_yg9 ?hstep_yg9 fun _ _ yg9 H15 hv hS => ?hK_yg9
 case hloc_yg9 => exact ⟨(fun _ _ _ _ => ⟨rfl, rfl⟩), (fun _ _ _ _ => ⟨rfl, rfl⟩), (fun _ _ _ _ => ⟨rfl, rfl⟩), (fun _ _ _ _ => ⟨rfl, rfl⟩), (fun _ i g hi => lcG [4] (fun yg9 => (.pointer (some ⟨(ab (yg9 4 0).a), 0, none⟩), [eB (ab (yg9 4 0).a) [vI 0, vI 0, vI 0, vI 0, vI 0, vI 0, vI 0]])) hi rfl), (fun _ i g hi => lcG [5] (fun yg9 => (.pointer (some ⟨(ab (yg9 5 0).a), 0, none⟩), [eB (ab (yg9 5 0).a) [vI 0, vI 0, vI 0, vI 0, vI 0, vI 0, vI 0]])) hi rfl), (fun _ i g hi => lcG [4] (fun yg9 => (undef, [eB (ab (yg9 4 0).a) [vI y10.e0, vI y10.e1, vI y10.e2, vI y10.e3, vI y10.e4, vI y10.e5, vI y10.e6]])) hi rfl), (fun _ i g hi => lcG [5] (fun yg9 => (undef, [eB (ab (yg9 5 0).a) [vI y11.e0, vI y11.e1, vI y11.e2, vI y11.e3, vI y11.e4, vI y11.e5, vI y11.e6]])) hi rfl), trivial⟩
 case hstep_yg9 =>
  refine ⟨?_, ?_, ?_, ?_, ?_, ?_, ?_, ?_, trivial⟩
  ·intro o ho a w yg9 M Hb hv hO hS
   obtain rfl := Option.some.inj ho
   exact Stp.mono (o_evs [(vG [vS a_.Long.Name, vL g_a__0 a_.Long.Value, vS a_.Long.Whole, vB a_.Important, vU a_.Origin, vB a_.Attached, vI a_.Layer, vI a_.Weight.e0, vI a_.Weight.e1, vI a_.Weight.e2, vI a_.Order])] (vG [vS a_.Long.Name, vL g_a__0 a_.Long.Value, vS a_.Long.Whole, vB a_.Important, vU a_.Origin, vB a_.Attached, vI a_.Layer, vI a_.Weight.e0, vI a_.Weight.e1, vI a_.Weight.e2, vI a_.Order]) (some (rN b1 0 [vS a_.Long.Name, vL g_a__0 a_.Long.Value, vS a_.Long.Whole, vB a_.Important, vU a_.Origin, vB a_.Attached, vI a_.Layer, vI a_.Weight.e0, vI a_.Weight.e1, vI a_.Weight.e2, vI a_.Order])) [] Hb rfl (by kernel_rfl) (fun q e => by cases e; exact ((hS.bk 0 rfl).atD rfl))) fun _ _ hq => ⟨gL [], fun _ _ => hq.1, (hS.below hq.2.below).sel [0, 1] rfl⟩
  ·intro o ho a w yg9 M Hb hv hO hS
   obtain rfl := Option.some.inj ho
   exact Stp.mono (o_evs [(vG [vI y10.e0, vI y10.e1, vI y10.e2, vI y10.e3, vI y10.e4, vI y10.e5, vI y10.e6])] (vG [vI y10.e0, vI y10.e1, vI y10.e2, vI y10.e3, vI y10.e4, vI y10.e5, vI y10.e6]) (some (rB 70 [vG [vS a_.Long.Name, vL g_a__0 a_.Long.Value, vS a_.Long.Whole, vB a_.Important, vU a_.Origin, vB a_.Attached, vI a_.Layer, vI a_.Weight.e0, vI a_.Weight.e1, vI a_.Weight.e2, vI a_.Order]] (vG [vI y10.e0, vI y10.e1, vI y10.e2, vI y10.e3, vI y10.e4, vI y10.e5, vI y10.e6]))) [] ((Hb).add (hv 0 (by decide) (by decide) 8 rfl)) rfl (by subst hy10; kernel_rfl) (fun q e => by cases e; exact ((by rw [hy10]; exact r29_Ranked_ok (g_d__0 := g_a__0) _ _ (s0im s0nil (hS.im 0 rfl)))))) fun _ _ hq => ⟨gL [], fun _ _ => hq.1, (hS.below hq.2.below).sel [0] rfl⟩
  ·intro o ho a w yg9 M Hb hv hO hS
   obtain rfl := Option.some.inj ho
   exact Stp.mono (o_evs [(vG [vS b_.Long.Name, vL g_b__0 b_.Long.Value, vS b_.Long.Whole, vB b_.Important, vU b_.Origin, vB b_.Attached, vI b_.Layer, vI b_.Weight.e0, vI b_.Weight.e1, vI b_.Weight.e2, vI b_.Order])] (vG [vS b_.Long.Name, vL g_b__0 b_.Long.Value, vS b_.Long.Whole, vB b_.Important, vU b_.Origin, vB b_.Attached, vI b_.Layer, vI b_.Weight.e0, vI b_.Weight.e1, vI b_.Weight.e2, vI b_.Order]) (some (rN b4 0 [vS b_.Long.Name, vL g_b__0 b_.Long.Value, vS b_.Long.Whole, vB b_.Important, vU b_.Origin, vB b_.Attached, vI b_.Layer, vI b_.Weight.e0, vI b_.Weight.e1, vI b_.Weight.e2, vI b_.Order])) [] Hb rfl (by kernel_rfl) (fun q e => by cases e; exact ((hS.bk 0 rfl).atD rfl))) fun _ _ hq => ⟨gL [], fun _ _ => hq.1, (hS.below hq.2.below).sel [0, 1] rfl⟩
  ·intro o ho a w yg9 M Hb hv hO hS
   obtain rfl := Option.some.inj ho
   exact Stp.mono (o_evs [(vG [vI y11.e0, vI y11.e1, vI y11.e2, vI y11.e3, vI y11.e4, vI y11.e5, vI y11.e6])] (vG [vI y11.e0, vI y11.e1, vI y11.e2, vI y11.e3, vI y11.e4, vI y11.e5, vI y11.e6]) (some (rB 70 [vG [vS b_.Long.Name, vL g_b__0 b_.Long.Value, vS b_.Long.Whole, vB b_.Important, vU b_.Origin, vB b_.Attached, vI b_.Layer, vI b_.Weight.e0, vI b_.Weight.e1, vI b_.Weight.e2, vI b_.Order]] (vG [vI y11.e0, vI y11.e1, vI y11.e2, vI y11.e3, vI y11.e4, vI y11.e5, vI y11.e6]))) [] ((Hb).add (hv 2 (by decide) (by decide) 10 rfl)) rfl (by subst hy11; kernel_rfl) (fun q e => by cases e; exact ((by rw [hy11]; exact r29_Ranked_ok (g_d__0 := g_b__0) _ _ (s0im s0nil (hS.im 0 rfl)))))) fun _ _ hq => ⟨gL [], fun _ _ => hq.1, (hS.below hq.2.below).sel [0] rfl⟩
  ·intro o ho a w yg9 M Hb hv hO hS0
   obtain rfl := Option.some.inj ho
   have H : Fr 30 ([] ++ [(2, [], vP b1), (3, [], vP b4)]) _ := Hb
   obtain ⟨X, hX⟩ : ∃ X, X = fpl [] := ⟨_, rfl⟩
   have hS : SH M X w [] w := by rw [hX]; exact hS0
   have hd := hS.hand [] [] rfl rfl
   refine Stp.mono (o_alloc [vI 0, vI 0, vI 0, vI 0, vI 0, vI 0, vI 0] (z := vG [vI 0, vI 0, vI 0, vI 0, vI 0, vI 0, vI 0]) hd (by kernel_rfl) rfl) ?_
   rintro v w2 hq
   obtain ⟨b12, rfl, hq⟩ := hq
   replace hS : SH M X w [eB b12 [vI 0, vI 0, vI 0, vI 0, vI 0, vI 0, vI 0]] _ := hS.join [] [] rfl rfl hq
   clear hq
   rw [hX] at hS
   exact ⟨gL [Gh.mk (some ⟨b12, 0, none⟩) 0 fun _ _ => .nil], fun _ _ => rfl, hS.sel [0] rfl⟩
  ·intro o ho a w yg9 M Hb hv hO hS0
   obtain rfl := Option.some.inj ho
   have H : Fr 30 ([] ++ [(2, [], vP b1), (3, [], vP b4)]) _ := Hb
   obtain ⟨X, hX⟩ : ∃ X, X = fpl [] := ⟨_, rfl⟩
   have hS : SH M X w [] w := by rw [hX]; exact hS0
   have hd := hS.hand [] [] rfl rfl
   refine Stp.mono (o_alloc [vI 0, vI 0, vI 0, vI 0, vI 0, vI 0, vI 0] (z := vG [vI 0, vI 0, vI 0, vI 0, vI 0, vI 0, vI 0]) hd (by kernel_rfl) rfl) ?_
   rintro v w2 hq
   obtain ⟨b13, rfl, hq⟩ := hq
   replace hS : SH M X w [eB b13 [vI 0, vI 0, vI 0, vI 0, vI 0, vI 0, vI 0]] _ := hS.join [] [] rfl rfl hq
   clear hq
   rw [hX] at hS
   exact ⟨gL [Gh.mk (some ⟨b13, 0, none⟩) 0 fun _ _ => .nil], fun _ _ => rfl, hS.sel [0] rfl⟩
  ·intro o ho a w yg9 M Hb hv hO hS0
   obtain rfl := Option.some.inj ho
   have H : Fr 30 ([(9, [], vG [vI y10.e0, vI y10.e1, vI y10.e2, vI y10.e3, vI y10.e4, vI y10.e5, vI y10.e6]), (5, [], .pointer (some ⟨(ab (yg9 4 0).a), 0, none⟩))] ++ [(2, [], vP b1), (3, [], vP b4)]) _ := ((Hb).add (hv 4 (by decide) (by decide) 5 rfl)).add (hv 1 (by decide) (by decide) 9 rfl)
   obtain ⟨X, hX⟩ : ∃ X, X = fpl [eB (ab (yg9 4 0).a) [vI 0, vI 0, vI 0, vI 0, vI 0, vI 0, vI 0]] := ⟨_, rfl⟩
   have hS : SH M X w [eB (ab (yg9 4 0).a) [vI 0, vI 0, vI 0, vI 0, vI 0, vI 0, vI 0]] w := by rw [hX]; exact hS0
   have hd := hS.hand [0] [] rfl rfl
   refine Stp.mono (o_store [vI y10.e0, vI y10.e1, vI y10.e2, vI y10.e3, vI y10.e4, vI y10.e5, vI y10.e6] H hd rfl rfl (by kernel_rfl) rfl rfl rfl) ?_
   rintro v w2 hq
   replace hS : SH M X w [eB (ab (yg9 4 0).a) [vI y10.e0, vI y10.e1, vI y10.e2, vI y10.e3, vI y10.e4, vI y10.e5, vI y10.e6]] _ := hS.join [0] [] rfl rfl hq
   clear hq
   rw [hX] at hS
   exact ⟨gL [], (fun _ h => by cases h), hS.sel [0] rfl⟩
  ·intro o ho a w yg9 M Hb hv hO hS0
   obtain rfl := Option.some.inj ho
   have H : Fr 30 ([(11, [], vG [vI y11.e0, vI y11.e1, vI y11.e2, vI y11.e3, vI y11.e4, vI y11.e5, vI y11.e6]), (6, [], .pointer (some ⟨(ab (yg9 5 0).a), 0, none⟩))] ++ [(2, [], vP b1), (3, [], vP b4)]) _ := ((Hb).add (hv 5 (by decide) (by decide) 6 rfl)).add (hv 3 (by decide) (by decide) 11 rfl)
   obtain ⟨X, hX⟩ : ∃ X, X = fpl [eB (ab (yg9 5 0).a) [vI 0, vI 0, vI 0, vI 0, vI 0, vI 0, vI 0]] := ⟨_, rfl⟩
   have hS : SH M X w [eB (ab (yg9 5 0).a) [vI 0, vI 0, vI 0, vI 0, vI 0, vI 0, vI 0]] w := by rw [hX]; exact hS0
   have hd := hS.hand [0] [] rfl rfl
   refine Stp.mono (o_store [vI y11.e0, vI y11.e1, vI y11.e2, vI y11.e3, vI y11.e4, vI y11.e5, vI y11.e6] H hd rfl rfl (by kernel_rfl) rfl rfl rfl) ?_
   rintro v w2 hq
   replace hS : SH M X w [eB (ab (yg9 5 0).a) [vI y11.e0, vI y11.e1, vI y11.e2, vI y11.e3, vI y11.e4, vI y11.e5, vI y11.e6]] _ := hS.join [0] [] rfl rfl hq
   clear hq
   rw [hX] at hS
   exact ⟨gL [], (fun _ h => by cases h), hS.sel [0] rfl⟩
 have H16 : Fr 30 [(6, [], .pointer (some ⟨(ab (yg9 5 0).a), 0, none⟩)), (5, [], .pointer (some ⟨(ab (yg9 4 0).a), 0, none⟩))] _ := (FrG.add (FrG.add (FrG.keep (ks := []) H15 (by kernel_rfl)) (hv 4 5 rfl)) (hv 5 6 rfl))
 replace hS : SH M X w [eB (ab (yg9 4 0).a) [vI y10.e0, vI y10.e1, vI y10.e2, vI y10.e3, vI y10.e4, vI y10.e5, vI y10.e6], eB (ab (yg9 5 0).a) [vI y11.e0, vI y11.e1, vI y11.e2, vI y11.e3, vI y11.e4, vI y11.e5, vI y11.e6], eB b4 [vS b_.Long.Name, vL g_b__0 b_.Long.Value, vS b_.Long.Whole, vB b_.Important, vU b_.Origin, vB b_.Attached, vI b_.Layer, vI b_.Weight.e0, vI b_.Weight.e1, vI b_.Weight.e2, vI b_.Order], eB b1 [vS a_.Long.Name, vL g_a__0 a_.Long.Value, vS a_.Long.Whole, vB a_.Important, vU a_.Origin, vB a_.Attached, vI a_.Layer, vI a_.Weight.e0, vI a_.Weight.e1, vI a_.Weight.e2, vI a_.Order], eI tyValue a_.Long.Value g_a__0, eI tyValue b_.Long.Value g_b__0] _ := hS
 clear hv H15
 generalize ab (yg9 5 0).a = b17 at H16 hS
 generalize ab (yg9 4 0).a = b18 at H16 hS
 replace hS : SH M X w [eB b18 [vI y10.e0, vI y10.e1, vI y10.e2, vI y10.e3, vI y10.e4, vI y10.e5, vI y10.e6], eB b17 [vI y11.e0, vI y11.e1, vI y11.e2, vI y11.e3, vI y11.e4, vI y11.e5, vI y11.e6]] _ := hS.sel [0, 1] rfl
 replace hS : SH M X w [Ent.row .i64 b18 [y10.e0, y10.e1, y10.e2, y10.e3, y10.e4, y10.e5, y10.e6] (7 : Int), eB b17 [vI y11.e0, vI y11.e1, vI y11.e2, vI y11.e3, vI y11.e4, vI y11.e5, vI y11.e6]] _ := SH.toRow (q := [y10.e0, y10.e1, y10.e2, y10.e3, y10.e4, y10.e5, y10.e6]) rfl (hS.sel [0, 1] rfl)
 replace hS : SH M X w [Ent.row .i64 b17 [y11.e0, y11.e1, y11.e2, y11.e3, y11.e4, y11.e5, y11.e6] (7 : Int), Ent.row .i64 b18 [y10.e0, y10.e1, y10.e2, y10.e3, y10.e4, y10.e5, y10.e6] (7 : Int)] _ := SH.toRow (q := [y11.e0, y11.e1, y11.e2, y11.e3, y11.e4, y11.e5, y11.e6]) rfl (hS.sel [1, 0] rfl)
 obtain ⟨z19, hz, hm_z19⟩ := bindE hm
 refine w_cut (fun a' w' => ∃ s_z19 : Unit, z19 = Sum.inr s_z19 ∧ Fr 30 [] a' ∧ SH M X w [Ent.row .i64 b17 [y11.e0, y11.e1, y11.e2, y11.e3, y11.e4, y11.e5, y11.e6] (7 : Int), Ent.row .i64 b18 [y10.e0, y10.e1, y10.e2, y10.e3, y10.e4, y10.e5, y10.e6] (7 : Int)] w') ?_ ?_
 ·replace hm := hz
  refine s_reg [] [5, 6, 7] [(5, [], vP b18), (6, [], vP b17), (7, [], vI 0)] [] H16 (by kernel_rfl) trivial fun _ _ H21 hb => ?_
  replace hS := hS.below hb
  clear H16 hb
  refine w_block ?_
  refine w_loop (fun kk a' w' => ∃ (v22 : Int), r29_Less_L1 m y10 y11 kk v22 = some _ ∧ Fr 30 [(5, [], vP b18), (6, [], vP b17), (7, [], vI v22)] a' ∧ SH M X w [Ent.row .i64 b17 [y11.e0, y11.e1, y11.e2, y11.e3, y11.e4, y11.e5, y11.e6] (7 : Int), Ent.row .i64 b18 [y10.e0, y10.e1, y10.e2, y10.e3, y10.e4, y10.e5, y10.e6] (7 : Int)] w') ⟨_, 0, hm, FrG.keep (ks := [5, 6, 7]) H21 (by kernel_rfl), hS⟩ ?_
  clear hm H21 hS
  rintro kk _ _ ⟨v22, hm, H, hS⟩
  cases kk with
  | zero => exact noneE hm
  | succ kk =>
   rw [r29_Less_L1] at hm
   refine w_seq ?_
   refine s_reg [] [5, 6, 7, 13] [(5, [], vP b18), (6, [], vP b17), (7, [], vI v22), (13, [], vB (decide (v22 < 7)))] [] H (by kernel_rfl) trivial fun _ _ H24 hb => ?_
   replace hS := hS.below hb
   clear H hb
   refine w_if H24 rfl (fun hc => ?_) (fun hc => ?c37)
   case c37 =>
    replace hm := bF hc hm
    refine w_exit rfl ?_
    obtain rfl := someE hm
    exact ⟨_, rfl, FrG.keep (ks := []) H24 (by kernel_rfl), hS⟩
   replace hm := bT hc hm
   refine w_skip ?_
   refine w_seq ?_
   refine w_block ?_
   obtain ⟨ho25, hm⟩ := chkE hm
   obtain ⟨x26, hx26, hm⟩ := letE hm
   obtain ⟨x27, hx27, hm⟩ := letE hm
   refine s_draw [(vI (gi [y10.e0, y10.e1, y10.e2, y10.e3, y10.e4, y10.e5, y10.e6] v22)), (vI (gi [y11.e0, y11.e1, y11.e2, y11.e3, y11.e4, y11.e5, y11.e6] v22))] [5, 6, 7, 22] [(5, [], vP b18), (6, [], vP b17), (7, [], vI v22), (22, [], vB (x26 != x27))] [fun _ => 0 ≤ v22 ∧ v22 < (7 : Int), fun wz => V.at1 ⟨b18, 0 + (v22).toNat * 1, none⟩ (vI (gi [y10.e0, y10.e1, y10.e2, y10.e3, y10.e4, y10.e5, y10.e6] v22)) wz, fun _ => 0 ≤ v22 ∧ v22 < (7 : Int), fun wz => V.at1 ⟨b17, 0 + (v22).toNat * 1, none⟩ (vI (gi [y11.e0, y11.e1, y11.e2, y11.e3, y11.e4, y11.e5, y11.e6] v22)) wz] H24 (by kernel_rfl) (by kernel_rfl) (by subst hx26 hx27; kernel_rfl) ⟨ho25, (Rw.ixn (hS.rw 1 rfl) ho25), ho25, (Rw.ixn (hS.rw 0 rfl) ho25), trivial⟩ fun _ _ H29 hb => ?_
   replace hS := hS.below hb
   clear H24 hb
   refine w_if H29 rfl (fun hc => ?_) (fun hc => ?c36)
   case c36 =>
    replace hm := bF hc hm
    refine w_skip ?_
    refine w_reg [] [5, 6, 7] [(5, [], vP b18), (6, [], vP b17), (7, [], vI (w64 (v22 + 1)))] [] H29 (by kernel_rfl) trivial fun _ _ H35 hb => ?_
    replace hS := hS.below hb
    clear H29 hb
    exact ⟨_, Nat.lt_succ_self _, w64 (v22 + 1), hm, FrG.keep (ks := [5, 6, 7]) H35 (by kernel_rfl), hS⟩
   replace hm := bT hc hm
   obtain ⟨x30, hx30, hm⟩ := letE hm
   obtain ⟨x31, hx31, hm⟩ := letE hm
   refine s_draw [(vI (gi [y10.e0, y10.e1, y10.e2, y10.e3, y10.e4, y10.e5, y10.e6] v22)), (vI (gi [y11.e0, y11.e1, y11.e2, y11.e3, y11.e4, y11.e5, y11.e6] v22))] [4] [(4, [], vB (decide (x30 < x31)))] [fun _ => 0 ≤ v22 ∧ v22 < (7 : Int), fun wz => V.at1 ⟨b18, 0 + (v22).toNat * 1, none⟩ (vI (gi [y10.e0, y10.e1, y10.e2, y10.e3, y10.e4, y10.e5, y10.e6] v22)) wz, fun _ => 0 ≤ v22 ∧ v22 < (7 : Int), fun wz => V.at1 ⟨b17, 0 + (v22).toNat * 1, none⟩ (vI (gi [y11.e0, y11.e1, y11.e2, y11.e3, y11.e4, y11.e5, y11.e6] v22)) wz] H29 (by kernel_rfl) (by kernel_rfl) (by subst hx30 hx31; kernel_rfl) ⟨ho25, (Rw.ixn (hS.rw 1 rfl) ho25), ho25, (Rw.ixn (hS.rw 0 rfl) ho25), trivial⟩ fun _ _ H33 hb => ?_
   replace hS := hS.below hb
   clear H29 hb
   refine w_ret ?_
   obtain rfl := someE hm
   have hm := hm_z19
   obtain rfl := someE hm
   exact retR1 H33 rfl rfl ⟨_, rfl, rfl, (hS.sel [] rfl)⟩
 ·rintro _ _ ⟨s_z19, hz, H, hS⟩
  subst hz
  replace hm := sumR hm_z19
  replace hS : SH M X w [] _ := hS.sel [] rfl
  refine s_reg [] [4] [(4, [], vF)] [] H (by kernel_rfl) trivial fun _ _ H40 hb => ?_
  replace hS := hS.below hb
  clear H hb
  refine w_ret ?_
  obtain rfl := someE hm
  exact retR1 H40 rfl rfl ⟨_, rfl, rfl, (hS.sel [] rfl)⟩
theorem r29_Less_ok {g_a__0 : Gh} {g_b__0 : Gh} (m : Nat) (a_ : TDeclared) (b_ : TDeclared) (r : Bool) (hm : r29_Less m a_ b_ = some r) (w : World) (hL : S0 F0 [eI tyValue a_.Long.Value g_a__0, eI tyValue b_.Long.Value g_b__0] w ∧ fpl [eI tyValue a_.Long.Value g_a__0, eI tyValue b_.Long.Value g_b__0] = []) : RetB Tryz.prog 44 ⟨[vG [vS a_.Long.Name, vL g_a__0 a_.Long.Value, vS a_.Long.Whole, vB a_.Important, vU a_.Origin, vB a_.Attached, vI a_.Layer, vI a_.Weight.e0, vI a_.Weight.e1, vI a_.Weight.e2, vI a_.Order], vG [vS b_.Long.Name, vL g_b__0 b_.Long.Value, vS b_.Long.Whole, vB b_.Important, vU b_.Origin, vB b_.Attached, vI b_.Layer, vI b_.Weight.e0, vI b_.Weight.e1, vI b_.Weight.e2, vI b_.Order]]⟩ (vB r) w := retB_of hL (Tryz.call44 _) (fun w' h => r29_Less_w F0 m   a_ b_ r hm w' h)

end Go.Proofs.YtehlikdeobajcaaGreatDoor
