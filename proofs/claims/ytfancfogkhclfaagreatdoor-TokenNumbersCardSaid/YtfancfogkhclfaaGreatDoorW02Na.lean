/-
  What the Go functions compute, as Lean functions, and that a call returns just that. Printed by a program.
-/
import Derived.Test.YtfancfogkhclfaaGreatDoorRows
import Derived.Test.YtfancfogkhclfaaGreatDoorCL
import Derived.Test.YtfancfogkhclfaaGreatDoorX
import Derived.Test.YtfancfogkhclfaaGreatDoorM
set_option linter.unusedVariables false
set_option maxRecDepth 20000
set_option maxHeartbeats 4000000
namespace Go.Proofs.YtfancfogkhclfaaGreatDoor
open Go.V Go.RowKit

def tyToken : Ty TToken where
  z := 5
  enc := fun x g => [vU x.Kind, .string ⟨⟨x.Text⟩⟩, vI x.Num, .string ⟨⟨x.Unit⟩⟩, .bool x.Flag]
  inn := fun _ _ _ _ => True
  len := fun _ _ => rfl
  one := fun _ _ => rfl
  kp := fun _ _ _ => trivial
  anti := fun _ _ => trivial
  fresh := fun _ => trivial
theorem stringslite_HasPrefix_w  (M : Av) (s : Str) (prefix_ : Str) (r : Bool) (hm : stringslite_HasPrefix s prefix_ = some r) (w : World) (hS : S0 M [] w) : Calls Tryz.prog 88 ⟨[vS s, vS prefix_]⟩ w (fun e w' => ∃ v, e = .returned v ∧ v = .bool r ∧ SH M (fpl []) w [] w') := by
 rw [stringslite_HasPrefix] at hm
 have hS0 : SH M (fpl []) w [] w := hS
 generalize hX : fpl [] = X at hS0 ⊢
 clear hS hX
 have hS := hS0
 clear hS0
 refine calls_entryP Tryz.func88 rfl Tryz.ntmps88 rfl fun _ H => ?_
 refine s_reg [] [0, 1] [(0, [], vS s), (1, [], vS prefix_)] [] H (by kernel_rfl) trivial fun _ wd1 H2 hb => ?_
 clear H
 replace hS := hS.below hb
 clear hb
 obtain ⟨ho3, hm⟩ := chkE hm
 obtain ⟨x4, hx4, hm⟩ := letE hm
 refine s_reg [] [4] [(4, [], .bool x4)] [fun _ => ((decide ((ln prefix_) ≤ (ln s))) = true ∧ True → 0 ≤ (ln prefix_) ∧ (ln prefix_) ≤ ln s)] H2 (by subst hx4; kernel_rfl) ⟨fun hg => (ho3 hg.1), trivial⟩ fun _ wd5 H6 hb => ?_
 clear H2
 replace hS := hS.below hb
 clear hb
 refine w_ret ?_
 obtain rfl := someE hm
 exact retR1 H6 rfl rfl ⟨_, rfl, rfl, (hS.sel [] rfl)⟩
theorem stringslite_HasPrefix_ok  (s : Str) (prefix_ : Str) (r : Bool) (hm : stringslite_HasPrefix s prefix_ = some r) : Ret Tryz.prog 88 ⟨[vS s, vS prefix_]⟩ (.bool r) := retP_of (Tryz.call88 _) (fun w h => stringslite_HasPrefix_w F0   s prefix_ r hm w h)

theorem strings_HasPrefix_w  (M : Av) (s : Str) (prefix_ : Str) (r : Bool) (hm : strings_HasPrefix s prefix_ = some r) (w : World) (hS : S0 M [] w) : Calls Tryz.prog 55 ⟨[vS s, vS prefix_]⟩ w (fun e w' => ∃ v, e = .returned v ∧ v = .bool r ∧ SH M (fpl []) w [] w') := by
 rw [strings_HasPrefix] at hm
 have hS0 : SH M (fpl []) w [] w := hS
 generalize hX : fpl [] = X at hS0 ⊢
 clear hS hX
 have hS := hS0
 clear hS0
 refine calls_entryP Tryz.func55 rfl Tryz.ntmps55 rfl fun _ H => ?_
 refine s_reg [] [0, 1] [(0, [], vS s), (1, [], vS prefix_)] [] H (by kernel_rfl) trivial fun _ wd1 H2 hb => ?_
 clear H
 replace hS := hS.below hb
 clear hb
 obtain ⟨y3, hy3, hm⟩ := bindE hm
 refine s_reg [(.bool y3)] [4] [(4, [], .bool y3)] [fun wz => RetB Tryz.prog 88 ⟨[vS s, vS prefix_]⟩ (.bool y3) wz] H2 (by kernel_rfl) ⟨((stringslite_HasPrefix_ok _ _ _ hy3).b), trivial⟩ fun _ wd4 H5 hb => ?_
 clear H2
 replace hS := hS.below hb
 clear hb
 refine w_ret ?_
 obtain rfl := someE hm
 exact retR1 H5 rfl rfl ⟨_, rfl, rfl, (hS.sel [] rfl)⟩
theorem strings_HasPrefix_ok  (s : Str) (prefix_ : Str) (r : Bool) (hm : strings_HasPrefix s prefix_ = some r) : Ret Tryz.prog 55 ⟨[vS s, vS prefix_]⟩ (.bool r) := retP_of (Tryz.call55 _) (fun w h => strings_HasPrefix_w F0   s prefix_ r hm w h)

theorem x_strings_Index_ok (x0 : Str) (x1 : Str) (r : Int) (hm : x_strings_Index x0 x1 = some r) (w : World) (hL : S0 F0 [Ent.gint 0] w ∧ fpl [Ent.gint 0] = []) : RetB Tryz.prog 56 ⟨[vS x0, vS x1]⟩ (vI r) w := by
  obtain ⟨h, hm⟩ := chkE hm
  obtain rfl := someE hm
  obtain ⟨⟨q, hq⟩, hl⟩ := hL.1.gi 0 rfl
  exact .inl ⟨Tryz.call56 _, fun w' hb => (Tryz.strings_Index ⟨⟨x0⟩⟩ ⟨⟨x1⟩⟩ q w' h (by rw [World.cell?_of_block (hb.block 0 hl)]; exact hq)).mono fun e w'' he => ⟨he.1, he.2 ▸ Below.refl _ _⟩⟩

theorem token_scanner_comments_w {b_c : Nat} (M : Av) (m : Nat) (c_s : Str) (c_at_ : Int) (r : Int) (hm : token_scanner_comments m c_s c_at_ = some r) (w : World) (hS : S0 M [eB b_c [vS c_s, vI c_at_], Ent.gint 0] w) : Calls Tryz.prog 37 ⟨[vP b_c]⟩ w (fun e w' => ∃ v, e = .returned v ∧ v = .tuple ⟨[]⟩ ∧ SH M (fpl [eB b_c [vS c_s, vI c_at_], Ent.gint 0]) w [eB b_c [vS c_s, vI r]] w') := by
 rw [token_scanner_comments] at hm
 have hS0 : SH M (fpl [eB b_c [vS c_s, vI c_at_], Ent.gint 0]) w [eB b_c [vS c_s, vI c_at_], Ent.gint 0] w := hS
 generalize hX : fpl [eB b_c [vS c_s, vI c_at_], Ent.gint 0] = X at hS0 ⊢
 clear hS hX
 have hS := hS0
 clear hS0
 refine calls_entryP Tryz.func37 rfl Tryz.ntmps37 rfl fun _ H => ?_
 refine w_block ?_
 refine w_loop (fun kk a' w' => ∃ (v1 : Int), token_scanner_comments_L1 m c_s kk v1 = some _ ∧ Fr 43 [(0, [], vP b_c)] a' ∧ SH M X w [eB b_c [vS c_s, vI v1], Ent.gint 0] w') ⟨_, c_at_, hm, FrG.keep (ks := [0]) H (by kernel_rfl), hS⟩ ?_
 clear hm H hS
 rintro kk _ wd22 ⟨v1, hm, H, hS⟩
 cases kk with
 | zero => exact noneE hm
 | succ kk =>
  rw [token_scanner_comments_L1] at hm
  refine w_seq ?_
  obtain ⟨ho2, hm⟩ := chkE hm
  obtain ⟨y3, hy3, hm⟩ := bindE hm
  refine s_draw [(vS c_s), (vI v1), (.bool y3)] [0, 12] [(0, [], vP b_c), (12, [], .bool y3)] [fun wz => V.at1 ⟨b_c, 0, none⟩ (vS c_s) wz, fun wz => V.at1 ⟨b_c, 1, none⟩ (vI v1) wz, fun _ => 0 ≤ v1 ∧ v1 ≤ ln c_s, fun wz => RetB Tryz.prog 55 ⟨[.string ⟨⟨sub c_s v1 (ln c_s)⟩⟩, vS [47, 42]]⟩ (.bool y3) wz] H (by kernel_rfl) (by kernel_rfl) (by kernel_rfl) ⟨((hS.bk 0 rfl).at1 rfl), ((hS.bk 0 rfl).at1 rfl), ho2, ((strings_HasPrefix_ok _ _ _ hy3).b), trivial⟩ fun _ wd4 H5 hb => ?_
  clear H
  replace hS := hS.below hb
  clear hb
  refine w_if H5 rfl (fun hc => ?_) (fun hc => ?c21)
  case c21 =>
   replace hm := bF hc hm
   refine w_exit rfl ?_
   obtain rfl := someE hm
   try dsimp only
   exact retR0 H5 rfl ⟨_, rfl, rfl, (hS.sel [0] rfl)⟩
  replace hm := bT hc hm
  refine w_skip ?_
  refine w_block ?_
  obtain ⟨ho6, hm⟩ := chkE hm
  obtain ⟨y7, hy7, hm⟩ := bindE hm
  refine s_draw [(vS c_s), (vI v1), (vI y7)] [0, 2] [(0, [], vP b_c), (2, [], vI y7)] [fun wz => V.at1 ⟨b_c, 0, none⟩ (vS c_s) wz, fun wz => V.at1 ⟨b_c, 1, none⟩ (vI v1) wz, fun _ => 0 ≤ (w64 (v1 + 2)) ∧ (w64 (v1 + 2)) ≤ ln c_s, fun wz => RetB Tryz.prog 56 ⟨[.string ⟨⟨sub c_s (w64 (v1 + 2)) (ln c_s)⟩⟩, vS [42, 47]]⟩ (vI y7) wz] H5 (by kernel_rfl) (by kernel_rfl) (by kernel_rfl) ⟨((hS.bk 0 rfl).at1 rfl), ((hS.bk 0 rfl).at1 rfl), ho6, (x_strings_Index_ok _ _ _ hy7 _ (s0gi s0nil (hS.gi 1 rfl))), trivial⟩ fun _ wd8 H9 hb => ?_
  clear H5
  replace hS := hS.below hb
  clear hb
  refine w_seq ?_
  refine s_reg [] [0, 2, 25] [(0, [], vP b_c), (2, [], vI y7), (25, [], .bool (decide (y7 < 0)))] [] H9 (by kernel_rfl) trivial fun _ wd10 H11 hb => ?_
  clear H9
  replace hS := hS.below hb
  clear hb
  refine w_if H11 rfl (fun hc => ?_) (fun hc => ?c20)
  case c20 =>
   replace hm := bF hc hm
   refine w_skip ?_
   refine wl_start ?_
   refine wl_batch 0 9 [(vI v1)] [0, 40, 42] [(0, [], vP b_c), (40, [], vI (w64 (v1 + (w64 (y7 + 4))))), (42, [], vA b_c 1)] [fun wz => V.at1 ⟨b_c, 1, none⟩ (vI v1) wz] H11 (by decide) (by kernel_rfl) ⟨((hS.bk 0 rfl).at1 rfl), trivial⟩ fun _ wd16 H17 hb => ?_
   clear H11
   replace hS := hS.below hb
   clear hb
   have hd := hS.hand [0] [1] rfl rfl
   refine m_stp0 [0] [(0, [], vP b_c)] H17 rfl rfl rfl (o_store [vS c_s, vI (w64 (v1 + (w64 (y7 + 4))))] H17 hd rfl rfl (by kernel_rfl) rfl rfl rfl) rfl fun _ wd18 H19 hq => ?_
   clear H17 hd
   obtain ⟨_, hq⟩ := hq
   replace hS : SH M X w [eB b_c [vS c_s, vI (w64 (v1 + (w64 (y7 + 4))))], Ent.gint 0] _ := hS.join [0] [1] rfl rfl hq
   clear hq
   refine wl_end rfl ?_
   exact ⟨_, Nat.lt_succ_self _, w64 (v1 + (w64 (y7 + 4))), hm, FrG.keep (ks := [0]) H19 (by kernel_rfl), hS⟩
  replace hm := bT hc hm
  refine w_seq ?_
  refine wl_start ?_
  refine wl_batch 0 8 [(vS c_s)] [31, 33] [(31, [], vI (ln c_s)), (33, [], vA b_c 1)] [fun wz => V.at1 ⟨b_c, 0, none⟩ (vS c_s) wz] H11 (by decide) (by kernel_rfl) ⟨((hS.bk 0 rfl).at1 rfl), trivial⟩ fun _ wd12 H13 hb => ?_
  clear H11
  replace hS := hS.below hb
  clear hb
  have hd := hS.hand [0] [1] rfl rfl
  refine m_stp0 [] [] H13 rfl rfl rfl (o_store [vS c_s, vI (ln c_s)] H13 hd rfl rfl (by kernel_rfl) rfl rfl rfl) rfl fun _ wd14 H15 hq => ?_
  clear H13 hd
  obtain ⟨_, hq⟩ := hq
  replace hS : SH M X w [eB b_c [vS c_s, vI (ln c_s)], Ent.gint 0] _ := hS.join [0] [1] rfl rfl hq
  clear hq
  refine wl_end rfl ?_
  refine w_ret ?_
  obtain rfl := someE hm
  try dsimp only
  exact retR0 H15 rfl ⟨_, rfl, rfl, (hS.sel [0] rfl)⟩
theorem token_scanner_comments_ok {b_c : Nat} (m : Nat) (c_s : Str) (c_at_ : Int) (r : Int) (hm : token_scanner_comments m c_s c_at_ = some r) (M : Av) (w : World) (hS : S0 M [eB b_c [vS c_s, vI c_at_], Ent.gint 0] w) : DoesX Tryz.prog 37 ⟨[vP b_c]⟩ w (fun v w' => v = .tuple ⟨[]⟩ ∧ SH M (fpl [eB b_c [vS c_s, vI c_at_], Ent.gint 0]) w [eB b_c [vS c_s, vI r]] w') := ⟨Tryz.call37 _, token_scanner_comments_w M m   c_s c_at_ r hm w hS⟩

theorem token_scanner_peek_w {b_c : Nat} (M : Av) (c_s : Str) (c_at_ : Int) (n_ : Int) (r : Int) (hm : token_scanner_peek c_s c_at_ n_ = some r) (w : World) (hS : S0 M [Ent.ro b_c [vS c_s, vI c_at_]] w) : Calls Tryz.prog 45 ⟨[vP b_c, vI n_]⟩ w (fun e w' => ∃ v, e = .returned v ∧ v = vI r ∧ SH M (fpl [Ent.ro b_c [vS c_s, vI c_at_]]) w [] w') := by
 rw [token_scanner_peek] at hm
 have hS0 : SH M (fpl [Ent.ro b_c [vS c_s, vI c_at_]]) w [Ent.ro b_c [vS c_s, vI c_at_]] w := hS
 generalize hX : fpl [Ent.ro b_c [vS c_s, vI c_at_]] = X at hS0 ⊢
 clear hS hX
 have hS := hS0
 clear hS0
 refine calls_entryP Tryz.func45 rfl Tryz.ntmps45 rfl fun _ H => ?_
 refine s_reg [] [0, 1] [(0, [], vP b_c), (1, [], vI n_)] [] H (by kernel_rfl) trivial fun _ wd1 H2 hb => ?_
 clear H
 replace hS := hS.below hb
 clear hb
 refine w_seq ?_
 refine s_draw [(vI c_at_), (vS c_s)] [0, 1, 16] [(0, [], vP b_c), (1, [], vI n_), (16, [], .bool (decide ((w64 (c_at_ + n_)) < (ln c_s))))] [fun wz => V.at1 ⟨b_c, 1, none⟩ (vI c_at_) wz, fun wz => V.at1 ⟨b_c, 0, none⟩ (vS c_s) wz] H2 (by kernel_rfl) (by kernel_rfl) (by kernel_rfl) ⟨((hS.ro 0 rfl).at1 rfl), ((hS.ro 0 rfl).at1 rfl), trivial⟩ fun _ wd3 H4 hb => ?_
 clear H2
 replace hS := hS.below hb
 clear hb
 refine w_if H4 rfl (fun hc => ?_) (fun hc => ?c10)
 case c10 =>
  replace hm := bF hc hm
  refine w_skip ?_
  refine s_reg [] [4] [(4, [], vI (-1))] [] H4 (by kernel_rfl) trivial fun _ wd8 H9 hb => ?_
  clear H4
  replace hS := hS.below hb
  clear hb
  replace hS : SH M X w [] _ := hS.sel [] rfl
  refine w_ret ?_
  obtain rfl := someE hm
  exact retR1 H9 rfl rfl ⟨_, rfl, rfl, (hS.sel [] rfl)⟩
 replace hm := bT hc hm
 obtain ⟨ho5, hm⟩ := chkE hm
 refine s_draw [(vS c_s), (vI c_at_)] [4] [(4, [], vI (w64 (bat c_s (w64 (c_at_ + n_)))))] [fun wz => V.at1 ⟨b_c, 0, none⟩ (vS c_s) wz, fun wz => V.at1 ⟨b_c, 1, none⟩ (vI c_at_) wz, fun _ => 0 ≤ (w64 (c_at_ + n_)) ∧ (w64 (c_at_ + n_)) < ln c_s] H4 (by kernel_rfl) (by kernel_rfl) (by kernel_rfl) ⟨((hS.ro 0 rfl).at1 rfl), ((hS.ro 0 rfl).at1 rfl), ho5, trivial⟩ fun _ wd6 H7 hb => ?_
 clear H4
 replace hS := hS.below hb
 clear hb
 replace hS : SH M X w [] _ := hS.sel [] rfl
 refine w_ret ?_
 obtain rfl := someE hm
 exact retR1 H7 rfl rfl ⟨_, rfl, rfl, (hS.sel [] rfl)⟩
theorem token_scanner_peek_ok {b_c : Nat} (c_s : Str) (c_at_ : Int) (n_ : Int) (r : Int) (hm : token_scanner_peek c_s c_at_ n_ = some r) (w : World) (hL : S0 F0 [Ent.ro b_c [vS c_s, vI c_at_]] w ∧ fpl [Ent.ro b_c [vS c_s, vI c_at_]] = []) : RetB Tryz.prog 45 ⟨[vP b_c, vI n_]⟩ (vI r) w := retB_of hL (Tryz.call45 _) (fun w' h => token_scanner_peek_w F0   c_s c_at_ n_ r hm w' h)

theorem token_space_w  (M : Av) (b_ : Int) (r : Bool) (hm : token_space b_ = r) (w : World) (hS : S0 M [] w) : Calls Tryz.prog 57 ⟨[vI b_]⟩ w (fun e w' => ∃ v, e = .returned v ∧ v = .bool r ∧ SH M (fpl []) w [] w') := by
 rw [token_space] at hm
 have hS0 : SH M (fpl []) w [] w := hS
 generalize hX : fpl [] = X at hS0 ⊢
 clear hS hX
 have hS := hS0
 clear hS0
 refine calls_entryP Tryz.func57 rfl Tryz.ntmps57 rfl fun _ H => ?_
 refine s_reg [] [0] [(0, [], vI b_)] [] H (by kernel_rfl) trivial fun _ wd1 H2 hb => ?_
 clear H
 replace hS := hS.below hb
 clear hb
 obtain ⟨x3, hx3, hm⟩ := letE hm
 refine s_reg [] [2] [(2, [], .bool x3)] [] H2 (by subst hx3; kernel_rfl) trivial fun _ wd4 H5 hb => ?_
 clear H2
 replace hS := hS.below hb
 clear hb
 refine w_ret ?_
 subst hm
 exact retR1 H5 rfl rfl ⟨_, rfl, rfl, (hS.sel [] rfl)⟩
theorem token_space_ok  (b_ : Int) : Ret Tryz.prog 57 ⟨[vI b_]⟩ (.bool (token_space b_)) := retP_of (Tryz.call57 _) (fun w h => token_space_w F0   b_ _ rfl w h)

theorem token_scanner_while_w {b_c : Nat} (M : Av) (m : Nat) (c_s : Str) (c_at_ : Int) (r : Int) (hm : token_scanner_while m c_s c_at_ = some r) (w : World) (hS : S0 M [eB b_c [vS c_s, vI c_at_]] w) : Calls Tryz.prog 47 ⟨[vP b_c, .func (.func 57) ⟨[]⟩ ⟨[]⟩]⟩ w (fun e w' => ∃ v, e = .returned v ∧ v = .tuple ⟨[]⟩ ∧ SH M (fpl [eB b_c [vS c_s, vI c_at_]]) w [eB b_c [vS c_s, vI r]] w') := by
 rw [token_scanner_while] at hm
 have hS0 : SH M (fpl [eB b_c [vS c_s, vI c_at_]]) w [eB b_c [vS c_s, vI c_at_]] w := hS
 generalize hX : fpl [eB b_c [vS c_s, vI c_at_]] = X at hS0 ⊢
 clear hS hX
 have hS := hS0
 clear hS0
 refine calls_entryP Tryz.func47 rfl Tryz.ntmps47 rfl fun _ H => ?_
 refine w_block ?_
 refine w_loop (fun kk a' w' => ∃ (v1 : Int), token_scanner_while_L1 m c_s kk v1 = some _ ∧ Fr 15 [(0, [], vP b_c), (1, [], .func (.func 57) ⟨[]⟩ ⟨[]⟩)] a' ∧ SH M X w [eB b_c [vS c_s, vI v1]] w') ⟨_, c_at_, hm, FrG.keep (ks := [0, 1]) H (by kernel_rfl), hS⟩ ?_
 clear hm H hS
 rintro kk _ wd10 ⟨v1, hm, H, hS⟩
 cases kk with
 | zero => exact noneE hm
 | succ kk =>
  rw [token_scanner_while_L1] at hm
  refine w_seq ?_
  obtain ⟨y2, hy2, hm⟩ := bindE hm
  refine s_reg [(vI y2), (.bool (token_space y2))] [0, 1, 7] [(0, [], vP b_c), (1, [], .func (.func 57) ⟨[]⟩ ⟨[]⟩), (7, [], .bool (token_space y2))] [fun wz => RetB Tryz.prog 45 ⟨[vP b_c, vI 0]⟩ (vI y2) wz, fun wz => RetB Tryz.prog 57 ⟨[vI y2]⟩ (.bool (token_space y2)) wz] H (by kernel_rfl) ⟨(token_scanner_peek_ok (b_c := b_c) _ _ _ _ hy2 _ (s0ro s0nil (hS.bk 0 rfl))), ((token_space_ok _).b), trivial⟩ fun _ wd3 H4 hb => ?_
  clear H
  replace hS := hS.below hb
  clear hb
  refine w_if H4 rfl (fun hc => ?_) (fun hc => ?c9)
  case c9 =>
   replace hm := bF hc hm
   refine w_exit rfl ?_
   obtain rfl := someE hm
   try dsimp only
   exact retR0 H4 rfl ⟨_, rfl, rfl, (hS.sel [0] rfl)⟩
  replace hm := bT hc hm
  refine w_skip ?_
  refine w_block ?_
  refine wl_start ?_
  refine wl_batch 0 7 [(vI v1)] [0, 1, 12, 14] [(0, [], vP b_c), (1, [], .func (.func 57) ⟨[]⟩ ⟨[]⟩), (12, [], vI (w64 (v1 + 1))), (14, [], vA b_c 1)] [fun wz => V.at1 ⟨b_c, 1, none⟩ (vI v1) wz] H4 (by decide) (by kernel_rfl) ⟨((hS.bk 0 rfl).at1 rfl), trivial⟩ fun _ wd5 H6 hb => ?_
  clear H4
  replace hS := hS.below hb
  clear hb
  have hd := hS.hand [0] [] rfl rfl
  refine m_stp0 [0, 1] [(0, [], vP b_c), (1, [], .func (.func 57) ⟨[]⟩ ⟨[]⟩)] H6 rfl rfl rfl (o_store [vS c_s, vI (w64 (v1 + 1))] H6 hd rfl rfl (by kernel_rfl) rfl rfl rfl) rfl fun _ wd7 H8 hq => ?_
  clear H6 hd
  obtain ⟨_, hq⟩ := hq
  replace hS : SH M X w [eB b_c [vS c_s, vI (w64 (v1 + 1))]] _ := hS.join [0] [] rfl rfl hq
  clear hq
  refine wl_end rfl ?_
  exact ⟨_, Nat.lt_succ_self _, w64 (v1 + 1), hm, FrG.keep (ks := [0, 1]) H8 (by kernel_rfl), hS⟩
theorem token_scanner_while_ok {b_c : Nat} (m : Nat) (c_s : Str) (c_at_ : Int) (r : Int) (hm : token_scanner_while m c_s c_at_ = some r) (M : Av) (w : World) (hS : S0 M [eB b_c [vS c_s, vI c_at_]] w) : DoesX Tryz.prog 47 ⟨[vP b_c, .func (.func 57) ⟨[]⟩ ⟨[]⟩]⟩ w (fun v w' => v = .tuple ⟨[]⟩ ∧ SH M (fpl [eB b_c [vS c_s, vI c_at_]]) w [eB b_c [vS c_s, vI r]] w') := ⟨Tryz.call47 _, token_scanner_while_w M m   c_s c_at_ r hm w hS⟩

theorem unicode_utf8_appendRuneNonASCII_w {g_p : Gh} (M : Av) (p : List Int) (r_ : Int) (r : List Int) (hm : unicode_utf8_appendRuneNonASCII p r_ = some r) (w : World) (hS : S0 M [eO 5 (tI .u8) p g_p] w) : Calls Tryz.prog 112 ⟨[vL g_p p, .int .i32 r_]⟩ w (fun e w' => ∃ v, e = .returned v ∧ ∃ (g901 : Gh), v = vL g901 r ∧ SH M (fpl [eO 5 (tI .u8) p g_p]) w [eO 5 (tI .u8) r g901] w') := by
 rw [unicode_utf8_appendRuneNonASCII] at hm
 have hS0 : SH M (fpl [eO 5 (tI .u8) p g_p]) w [eO 5 (tI .u8) p g_p] w := hS
 generalize hX : fpl [eO 5 (tI .u8) p g_p] = X at hS0 ⊢
 clear hS hX
 have hS := hS0
 clear hS0
 refine calls_entryP Tryz.func112 rfl Tryz.ntmps112 rfl fun _ H => ?_
 refine s_reg [] [0, 1] [(0, [], vL g_p p), (1, [], .int .i32 r_)] [] H (by kernel_rfl) trivial fun _ wd1 H2 hb => ?_
 clear H
 replace hS := hS.below hb
 clear hb
 refine s_reg [] [0, 1, 5] [(0, [], vL g_p p), (1, [], .int .i32 r_), (5, [], .int .u32 (wu32 r_))] [] H2 (by kernel_rfl) trivial fun _ wd3 H4 hb => ?_
 clear H2
 replace hS := hS.below hb
 clear hb
 refine w_block ?_
 refine s_reg [] [0, 1, 5, 11] [(0, [], vL g_p p), (1, [], .int .i32 r_), (5, [], .int .u32 (wu32 r_)), (11, [], .bool (decide ((wu32 r_) ≤ 2047)))] [] H4 (by kernel_rfl) trivial fun _ wd5 H6 hb => ?_
 clear H4
 replace hS := hS.below hb
 clear hb
 refine w_if H6 rfl (fun hc => ?c81) (fun hc => ?_)
 case c81 =>
  replace hm := bT hc hm
  refine w_seq ?_
  refine wl_start ?_
  obtain ⟨x7, hx7, hm⟩ := letE hm
  obtain ⟨x8, hx8, hm⟩ := letE hm
  refine wl_batch 0 9 [] [14, 18, 22] [(14, [], vL g_p p), (18, [], vU x7), (22, [], vU x8)] [fun _ => (0 : Int) ≤ 6] H6 (by decide) (by subst hx7 hx8; kernel_rfl) ⟨(by show (0 : Int) ≤ 6; decide), trivial⟩ fun _ wd9 H10 hb => ?_
  clear H6
  replace hS := hS.below hb
  clear hb
  have hd := hS.hand [] [0] rfl rfl
  refine m_stp [23, 14] [(14, [], vL g_p p)] H10 rfl rfl rfl rfl (o_lit (T := (tI .u8)) (E := 5) (zv := vU 0) [vU x7, vU x8] ([x7, x8] : List Int) [gL [], gL []] _ H10 hd rfl (by kernel_rfl) (by kernel_rfl) (by kernel_rfl) (by kernel_rfl) (by kernel_rfl) (by kernel_rfl) (by kernel_rfl) rfl (InnL.cons trivial (InnL.cons trivial InnL.nil))) (fun _ => rfl) fun _ wd13 v H14 hq => ?_
  clear H10 hd
  obtain ⟨g11, rfl, hq⟩ := hq
  replace hS : SH M X w [eO 5 (tI .u8) ([x7, x8] : List Int) g11, eO 5 (tI .u8) p g_p] _ := hS.join [] [0] rfl rfl hq
  clear hq
  obtain ⟨ho15, hm⟩ := chkE hm
  obtain ⟨q16, hq16, hm⟩ := letE hm
  have hd := hS.hand [1, 0] [] rfl rfl
  refine m_stp [24] [] H14 rfl rfl rfl rfl (o_app2 (T := (tI .u8)) (zv := vU 0) (g1 := g_p) (g2 := g11) (l1 := p) (l2 := ([x7, x8] : List Int)) q16 hq16.symm H14 hd rfl rfl rfl rfl rfl rfl rfl (by kernel_rfl) (by kernel_rfl) rfl rfl ho15) (fun _ => rfl) fun _ wd17 v H18 hq => ?_
  clear H14 hd
  obtain ⟨g19, rfl, hq⟩ := hq
  replace hS : SH M X w [eO 5 (tI .u8) q16 g19, eO 5 (tI .u8) ([x7, x8] : List Int) g11] _ := hS.join [1, 0] [] rfl rfl hq
  clear hq
  refine wl_batch 11 12 [] [4] [(4, [], vL g19 q16)] [] H18 (by decide) (by kernel_rfl) trivial fun _ wd20 H21 hb => ?_
  clear H18
  replace hS := hS.below hb
  clear hb
  refine wl_end rfl ?_
  replace hS : SH M X w [eO 5 (tI .u8) q16 g19] _ := hS.sel [0] rfl
  refine w_ret ?_
  obtain rfl := someE hm
  exact retR1 H21 rfl rfl ⟨_, rfl, g19, rfl, (hS.sel [0] rfl)⟩
 replace hm := bF hc hm
 obtain ⟨z22, hz, hm⟩ := bindE hm
 refine w_cut (fun a' w' => Fr 78 [(0, [], vL g_p p), (1, [], .int .i32 r_), (5, [], .int .u32 (wu32 r_)), (25, [], .bool z22)] a' ∧ SH M X w [eO 5 (tI .u8) p g_p] w') ?_ ?_
 ·replace hm := hz
  refine s_reg [] [0, 1, 5, 25] [(0, [], vL g_p p), (1, [], .int .i32 r_), (5, [], .int .u32 (wu32 r_)), (25, [], .bool (decide ((wu32 r_) < 55296)))] [] H6 (by kernel_rfl) trivial fun _ wd23 H24 hb => ?_
  clear H6
  replace hS := hS.below hb
  clear hb
  refine w_if H24 rfl (fun hc => ?c28) (fun hc => ?_)
  case c28 =>
   replace hm := bT hc hm
   refine w_skip ?_
   obtain rfl := someE hm
   exact ⟨FrG.keep (ks := [0, 1, 5, 25]) H24 (by kernel_rfl), hS⟩
  replace hm := bF hc hm
  obtain ⟨x25, hx25, hm⟩ := letE hm
  refine w_reg [] [0, 1, 5, 25] [(0, [], vL g_p p), (1, [], .int .i32 r_), (5, [], .int .u32 (wu32 r_)), (25, [], .bool x25)] [] H24 (by subst hx25; kernel_rfl) trivial fun _ wd26 H27 hb => ?_
  clear H24
  replace hS := hS.below hb
  clear hb
  obtain rfl := someE hm
  exact ⟨FrG.keep (ks := [0, 1, 5, 25]) H27 (by kernel_rfl), hS⟩
 ·rintro _ wd80 ⟨H, hS⟩
  refine w_if H rfl (fun hc => ?c79) (fun hc => ?_)
  case c79 =>
   replace hm := bT hc hm
   refine w_seq ?_
   refine wl_start ?_
   obtain ⟨x29, hx29, hm⟩ := letE hm
   obtain ⟨x30, hx30, hm⟩ := letE hm
   obtain ⟨x31, hx31, hm⟩ := letE hm
   refine wl_batch 0 14 [] [34, 38, 43, 47] [(34, [], vL g_p p), (38, [], vU x29), (43, [], vU (ibit .or .u8 128 x30)), (47, [], vU x31)] [fun _ => (0 : Int) ≤ 12, fun _ => (0 : Int) ≤ 6] H (by decide) (by subst hx29 hx30 hx31; kernel_rfl) ⟨(by show (0 : Int) ≤ 12; decide), (by show (0 : Int) ≤ 6; decide), trivial⟩ fun _ wd32 H33 hb => ?_
   clear H
   replace hS := hS.below hb
   clear hb
   have hd := hS.hand [] [0] rfl rfl
   refine m_stp [48, 34] [(34, [], vL g_p p)] H33 rfl rfl rfl rfl (o_lit (T := (tI .u8)) (E := 5) (zv := vU 0) [vU x29, vU (ibit .or .u8 128 x30), vU x31] ([x29, ibit .or .u8 128 x30, x31] : List Int) [gL [], gL [], gL []] _ H33 hd rfl (by kernel_rfl) (by kernel_rfl) (by kernel_rfl) (by kernel_rfl) (by kernel_rfl) (by kernel_rfl) (by kernel_rfl) rfl (InnL.cons trivial (InnL.cons trivial (InnL.cons trivial InnL.nil)))) (fun _ => rfl) fun _ wd36 v H37 hq => ?_
   clear H33 hd
   obtain ⟨g34, rfl, hq⟩ := hq
   replace hS : SH M X w [eO 5 (tI .u8) ([x29, ibit .or .u8 128 x30, x31] : List Int) g34, eO 5 (tI .u8) p g_p] _ := hS.join [] [0] rfl rfl hq
   clear hq
   obtain ⟨ho38, hm⟩ := chkE hm
   obtain ⟨q39, hq39, hm⟩ := letE hm
   have hd := hS.hand [1, 0] [] rfl rfl
   refine m_stp [49] [] H37 rfl rfl rfl rfl (o_app2 (T := (tI .u8)) (zv := vU 0) (g1 := g_p) (g2 := g34) (l1 := p) (l2 := ([x29, ibit .or .u8 128 x30, x31] : List Int)) q39 hq39.symm H37 hd rfl rfl rfl rfl rfl rfl rfl (by kernel_rfl) (by kernel_rfl) rfl rfl ho38) (fun _ => rfl) fun _ wd40 v H41 hq => ?_
   clear H37 hd
   obtain ⟨g42, rfl, hq⟩ := hq
   replace hS : SH M X w [eO 5 (tI .u8) q39 g42, eO 5 (tI .u8) ([x29, ibit .or .u8 128 x30, x31] : List Int) g34] _ := hS.join [1, 0] [] rfl rfl hq
   clear hq
   refine wl_batch 16 17 [] [4] [(4, [], vL g42 q39)] [] H41 (by decide) (by kernel_rfl) trivial fun _ wd43 H44 hb => ?_
   clear H41
   replace hS := hS.below hb
   clear hb
   refine wl_end rfl ?_
   replace hS : SH M X w [eO 5 (tI .u8) q39 g42] _ := hS.sel [0] rfl
   refine w_ret ?_
   obtain rfl := someE hm
   exact retR1 H44 rfl rfl ⟨_, rfl, g42, rfl, (hS.sel [0] rfl)⟩
  replace hm := bF hc hm
  obtain ⟨x45, hx45, hm⟩ := letE hm
  refine s_reg [] [0, 1, 50] [(0, [], vL g_p p), (1, [], .int .i32 r_), (50, [], .bool x45)] [] H (by subst hx45; kernel_rfl) trivial fun _ wd46 H47 hb => ?_
  clear H
  replace hS := hS.below hb
  clear hb
  refine w_if H47 rfl (fun hc => ?_) (fun hc => ?c78)
  case c78 =>
   replace hm := bF hc hm
   refine w_seq ?_
   refine wl_start ?_
   refine wl_batch 0 1 [] [8] [(8, [], vL g_p p)] [] H47 (by decide) (by kernel_rfl) trivial fun _ wd65 H66 hb => ?_
   clear H47
   replace hS := hS.below hb
   clear hb
   have hd := hS.hand [] [0] rfl rfl
   refine m_stp [9, 8] [(8, [], vL g_p p)] H66 rfl rfl rfl rfl (o_lit (T := (tI .u8)) (E := 5) (zv := vU 0) [vU 239, vU 191, vU 189] ([239, 191, 189] : List Int) [gL [], gL [], gL []] _ H66 hd rfl (by kernel_rfl) (by kernel_rfl) (by kernel_rfl) (by kernel_rfl) (by kernel_rfl) (by kernel_rfl) (by kernel_rfl) rfl (InnL.cons trivial (InnL.cons trivial (InnL.cons trivial InnL.nil)))) (fun _ => rfl) fun _ wd69 v H70 hq => ?_
   clear H66 hd
   obtain ⟨g67, rfl, hq⟩ := hq
   replace hS : SH M X w [eO 5 (tI .u8) ([239, 191, 189] : List Int) g67, eO 5 (tI .u8) p g_p] _ := hS.join [] [0] rfl rfl hq
   clear hq
   obtain ⟨ho71, hm⟩ := chkE hm
   obtain ⟨q72, hq72, hm⟩ := letE hm
   have hd := hS.hand [1, 0] [] rfl rfl
   refine m_stp [10] [] H70 rfl rfl rfl rfl (o_app2 (T := (tI .u8)) (zv := vU 0) (g1 := g_p) (g2 := g67) (l1 := p) (l2 := ([239, 191, 189] : List Int)) q72 hq72.symm H70 hd rfl rfl rfl rfl rfl rfl rfl (by kernel_rfl) (by kernel_rfl) rfl rfl ho71) (fun _ => rfl) fun _ wd73 v H74 hq => ?_
   clear H70 hd
   obtain ⟨g75, rfl, hq⟩ := hq
   replace hS : SH M X w [eO 5 (tI .u8) q72 g75, eO 5 (tI .u8) ([239, 191, 189] : List Int) g67] _ := hS.join [1, 0] [] rfl rfl hq
   clear hq
   refine wl_batch 3 4 [] [4] [(4, [], vL g75 q72)] [] H74 (by decide) (by kernel_rfl) trivial fun _ wd76 H77 hb => ?_
   clear H74
   replace hS := hS.below hb
   clear hb
   refine wl_end rfl ?_
   replace hS : SH M X w [eO 5 (tI .u8) q72 g75] _ := hS.sel [0] rfl
   refine w_ret ?_
   obtain rfl := someE hm
   exact retR1 H77 rfl rfl ⟨_, rfl, g75, rfl, (hS.sel [0] rfl)⟩
  replace hm := bT hc hm
  refine w_seq ?_
  refine wl_start ?_
  obtain ⟨x48, hx48, hm⟩ := letE hm
  obtain ⟨x49, hx49, hm⟩ := letE hm
  obtain ⟨x50, hx50, hm⟩ := letE hm
  obtain ⟨x51, hx51, hm⟩ := letE hm
  refine wl_batch 0 19 [] [57, 61, 66, 71, 75] [(57, [], vL g_p p), (61, [], vU x48), (66, [], vU (ibit .or .u8 128 x49)), (71, [], vU (ibit .or .u8 128 x50)), (75, [], vU x51)] [fun _ => (0 : Int) ≤ 18, fun _ => (0 : Int) ≤ 12, fun _ => (0 : Int) ≤ 6] H47 (by decide) (by subst hx48 hx49 hx50 hx51; kernel_rfl) ⟨(by show (0 : Int) ≤ 18; decide), (by show (0 : Int) ≤ 12; decide), (by show (0 : Int) ≤ 6; decide), trivial⟩ fun _ wd52 H53 hb => ?_
  clear H47
  replace hS := hS.below hb
  clear hb
  have hd := hS.hand [] [0] rfl rfl
  refine m_stp [76, 57] [(57, [], vL g_p p)] H53 rfl rfl rfl rfl (o_lit (T := (tI .u8)) (E := 5) (zv := vU 0) [vU x48, vU (ibit .or .u8 128 x49), vU (ibit .or .u8 128 x50), vU x51] ([x48, ibit .or .u8 128 x49, ibit .or .u8 128 x50, x51] : List Int) [gL [], gL [], gL [], gL []] _ H53 hd rfl (by kernel_rfl) (by kernel_rfl) (by kernel_rfl) (by kernel_rfl) (by kernel_rfl) (by kernel_rfl) (by kernel_rfl) rfl (InnL.cons trivial (InnL.cons trivial (InnL.cons trivial (InnL.cons trivial InnL.nil))))) (fun _ => rfl) fun _ wd56 v H57 hq => ?_
  clear H53 hd
  obtain ⟨g54, rfl, hq⟩ := hq
  replace hS : SH M X w [eO 5 (tI .u8) ([x48, ibit .or .u8 128 x49, ibit .or .u8 128 x50, x51] : List Int) g54, eO 5 (tI .u8) p g_p] _ := hS.join [] [0] rfl rfl hq
  clear hq
  obtain ⟨ho58, hm⟩ := chkE hm
  obtain ⟨q59, hq59, hm⟩ := letE hm
  have hd := hS.hand [1, 0] [] rfl rfl
  refine m_stp [77] [] H57 rfl rfl rfl rfl (o_app2 (T := (tI .u8)) (zv := vU 0) (g1 := g_p) (g2 := g54) (l1 := p) (l2 := ([x48, ibit .or .u8 128 x49, ibit .or .u8 128 x50, x51] : List Int)) q59 hq59.symm H57 hd rfl rfl rfl rfl rfl rfl rfl (by kernel_rfl) (by kernel_rfl) rfl rfl ho58) (fun _ => rfl) fun _ wd60 v H61 hq => ?_
  clear H57 hd
  obtain ⟨g62, rfl, hq⟩ := hq
  replace hS : SH M X w [eO 5 (tI .u8) q59 g62, eO 5 (tI .u8) ([x48, ibit .or .u8 128 x49, ibit .or .u8 128 x50, x51] : List Int) g54] _ := hS.join [1, 0] [] rfl rfl hq
  clear hq
  refine wl_batch 21 22 [] [4] [(4, [], vL g62 q59)] [] H61 (by decide) (by kernel_rfl) trivial fun _ wd63 H64 hb => ?_
  clear H61
  replace hS := hS.below hb
  clear hb
  refine wl_end rfl ?_
  replace hS : SH M X w [eO 5 (tI .u8) q59 g62] _ := hS.sel [0] rfl
  refine w_ret ?_
  obtain rfl := someE hm
  exact retR1 H64 rfl rfl ⟨_, rfl, g62, rfl, (hS.sel [0] rfl)⟩
theorem unicode_utf8_appendRuneNonASCII_ok {g_p : Gh} (p : List Int) (r_ : Int) (r : List Int) (hm : unicode_utf8_appendRuneNonASCII p r_ = some r) (M : Av) (w : World) (hS : S0 M [eO 5 (tI .u8) p g_p] w) : DoesX Tryz.prog 112 ⟨[vL g_p p, .int .i32 r_]⟩ w (fun v w' => ∃ (g901 : Gh), v = vL g901 r ∧ SH M (fpl [eO 5 (tI .u8) p g_p]) w [eO 5 (tI .u8) r g901] w') := ⟨Tryz.call112 _, unicode_utf8_appendRuneNonASCII_w M   p r_ r hm w hS⟩

theorem unicode_utf8_AppendRune_w {g_p : Gh} (M : Av) (p : List Int) (r_ : Int) (r : List Int) (hm : unicode_utf8_AppendRune p r_ = some r) (w : World) (hS : S0 M [eO 5 (tI .u8) p g_p] w) : Calls Tryz.prog 86 ⟨[vL g_p p, .int .i32 r_]⟩ w (fun e w' => ∃ v, e = .returned v ∧ ∃ (g901 : Gh), v = vL g901 r ∧ SH M (fpl [eO 5 (tI .u8) p g_p]) w [eO 5 (tI .u8) r g901] w') := by
 rw [unicode_utf8_AppendRune] at hm
 have hS0 : SH M (fpl [eO 5 (tI .u8) p g_p]) w [eO 5 (tI .u8) p g_p] w := hS
 generalize hX : fpl [eO 5 (tI .u8) p g_p] = X at hS0 ⊢
 clear hS hX
 have hS := hS0
 clear hS0
 refine calls_entryP Tryz.func86 rfl Tryz.ntmps86 rfl fun _ H => ?_
 refine s_reg [] [0, 1] [(0, [], vL g_p p), (1, [], .int .i32 r_)] [] H (by kernel_rfl) trivial fun _ wd1 H2 hb => ?_
 clear H
 replace hS := hS.below hb
 clear hb
 refine w_seq ?_
 refine s_reg [] [0, 1, 7] [(0, [], vL g_p p), (1, [], .int .i32 r_), (7, [], .bool (decide ((wu32 r_) ≤ 127)))] [] H2 (by kernel_rfl) trivial fun _ wd3 H4 hb => ?_
 clear H2
 replace hS := hS.below hb
 clear hb
 refine w_if H4 rfl (fun hc => ?_) (fun hc => ?c27)
 case c27 =>
  replace hm := bF hc hm
  refine w_skip ?_
  refine w_seq ?_
  refine wl_start ?_
  refine wl_batch 0 2 [] [13, 14] [(13, [], vL g_p p), (14, [], .int .i32 r_)] [] H4 (by decide) (by kernel_rfl) trivial fun _ wd18 H19 hb => ?_
  clear H4
  replace hS := hS.below hb
  clear hb
  obtain ⟨y20, hy20, hm⟩ := bindE hm
  have hd := hS.hand [0] [] rfl rfl
  refine m_stp [15] [] H19 rfl rfl rfl rfl (o_callx H19 rfl rfl (unicode_utf8_appendRuneNonASCII_ok (g_p := g_p) _ _ _ hy20 _ _ hd)) (fun _ => rfl) fun _ wd23 v H24 hq => ?_
  clear H19 hd
  obtain ⟨g21, rfl, hq⟩ := hq
  replace hS : SH M X w [eO 5 (tI .u8) y20 g21] _ := hS.join [0] [] rfl rfl hq
  clear hq
  refine wl_batch 3 4 [] [4] [(4, [], vL g21 y20)] [] H24 (by decide) (by kernel_rfl) trivial fun _ wd25 H26 hb => ?_
  clear H24
  replace hS := hS.below hb
  clear hb
  refine wl_end rfl ?_
  refine w_ret ?_
  obtain rfl := someE hm
  exact retR1 H26 rfl rfl ⟨_, rfl, g21, rfl, (hS.sel [0] rfl)⟩
 replace hm := bT hc hm
 refine w_seq ?_
 refine wl_start ?_
 refine wl_batch 0 3 [] [8, 10] [(8, [], vL g_p p), (10, [], vU (wu8 r_))] [] H4 (by decide) (by kernel_rfl) trivial fun _ wd5 H6 hb => ?_
 clear H4
 replace hS := hS.below hb
 clear hb
 have hd := hS.hand [] [0] rfl rfl
 refine m_stp [11, 8] [(8, [], vL g_p p)] H6 rfl rfl rfl rfl (o_lit (T := (tI .u8)) (E := 5) (zv := vU 0) [vU (wu8 r_)] ([wu8 r_] : List Int) [gL []] _ H6 hd rfl (by kernel_rfl) (by kernel_rfl) (by kernel_rfl) (by kernel_rfl) (by kernel_rfl) (by kernel_rfl) (by kernel_rfl) rfl (InnL.cons trivial InnL.nil)) (fun _ => rfl) fun _ wd9 v H10 hq => ?_
 clear H6 hd
 obtain ⟨g7, rfl, hq⟩ := hq
 replace hS : SH M X w [eO 5 (tI .u8) ([wu8 r_] : List Int) g7, eO 5 (tI .u8) p g_p] _ := hS.join [] [0] rfl rfl hq
 clear hq
 obtain ⟨ho11, hm⟩ := chkE hm
 obtain ⟨q12, hq12, hm⟩ := letE hm
 have hd := hS.hand [1, 0] [] rfl rfl
 refine m_stp [12] [] H10 rfl rfl rfl rfl (o_app2 (T := (tI .u8)) (zv := vU 0) (g1 := g_p) (g2 := g7) (l1 := p) (l2 := ([wu8 r_] : List Int)) q12 hq12.symm H10 hd rfl rfl rfl rfl rfl rfl rfl (by kernel_rfl) (by kernel_rfl) rfl rfl ho11) (fun _ => rfl) fun _ wd13 v H14 hq => ?_
 clear H10 hd
 obtain ⟨g15, rfl, hq⟩ := hq
 replace hS : SH M X w [eO 5 (tI .u8) q12 g15, eO 5 (tI .u8) ([wu8 r_] : List Int) g7] _ := hS.join [1, 0] [] rfl rfl hq
 clear hq
 refine wl_batch 5 6 [] [4] [(4, [], vL g15 q12)] [] H14 (by decide) (by kernel_rfl) trivial fun _ wd16 H17 hb => ?_
 clear H14
 replace hS := hS.below hb
 clear hb
 refine wl_end rfl ?_
 replace hS : SH M X w [eO 5 (tI .u8) q12 g15] _ := hS.sel [0] rfl
 refine w_ret ?_
 obtain rfl := someE hm
 exact retR1 H17 rfl rfl ⟨_, rfl, g15, rfl, (hS.sel [0] rfl)⟩
theorem unicode_utf8_AppendRune_ok {g_p : Gh} (p : List Int) (r_ : Int) (r : List Int) (hm : unicode_utf8_AppendRune p r_ = some r) (M : Av) (w : World) (hS : S0 M [eO 5 (tI .u8) p g_p] w) : DoesX Tryz.prog 86 ⟨[vL g_p p, .int .i32 r_]⟩ w (fun v w' => ∃ (g901 : Gh), v = vL g901 r ∧ SH M (fpl [eO 5 (tI .u8) p g_p]) w [eO 5 (tI .u8) r g901] w') := ⟨Tryz.call86 _, unicode_utf8_AppendRune_w M   p r_ r hm w hS⟩

theorem token_within_w  (M : Av) (b_ : Int) (from_ : Int) (to : Int) (r : Bool) (hm : token_within b_ from_ to = r) (w : World) (hS : S0 M [] w) : Calls Tryz.prog 77 ⟨[vI b_, vI from_, vI to]⟩ w (fun e w' => ∃ v, e = .returned v ∧ v = .bool r ∧ SH M (fpl []) w [] w') := by
 rw [token_within] at hm
 have hS0 : SH M (fpl []) w [] w := hS
 generalize hX : fpl [] = X at hS0 ⊢
 clear hS hX
 have hS := hS0
 clear hS0
 refine calls_entryP Tryz.func77 rfl Tryz.ntmps77 rfl fun _ H => ?_
 refine s_reg [] [0, 1, 2] [(0, [], vI b_), (1, [], vI from_), (2, [], vI to)] [] H (by kernel_rfl) trivial fun _ wd1 H2 hb => ?_
 clear H
 replace hS := hS.below hb
 clear hb
 obtain ⟨x3, hx3, hm⟩ := letE hm
 refine s_reg [] [6] [(6, [], .bool x3)] [] H2 (by subst hx3; kernel_rfl) trivial fun _ wd4 H5 hb => ?_
 clear H2
 replace hS := hS.below hb
 clear hb
 refine w_ret ?_
 subst hm
 exact retR1 H5 rfl rfl ⟨_, rfl, rfl, (hS.sel [] rfl)⟩
theorem token_within_ok  (b_ : Int) (from_ : Int) (to : Int) : Ret Tryz.prog 77 ⟨[vI b_, vI from_, vI to]⟩ (.bool (token_within b_ from_ to)) := retP_of (Tryz.call77 _) (fun w h => token_within_w F0   b_ from_ to _ rfl w h)

theorem token_digit_w  (M : Av) (b_ : Int) (r : Bool) (hm : token_digit b_ = r) (w : World) (hS : S0 M [] w) : Calls Tryz.prog 46 ⟨[vI b_]⟩ w (fun e w' => ∃ v, e = .returned v ∧ v = .bool r ∧ SH M (fpl []) w [] w') := by
 rw [token_digit] at hm
 have hS0 : SH M (fpl []) w [] w := hS
 generalize hX : fpl [] = X at hS0 ⊢
 clear hS hX
 have hS := hS0
 clear hS0
 refine calls_entryP Tryz.func46 rfl Tryz.ntmps46 rfl fun _ H => ?_
 refine s_reg [] [0] [(0, [], vI b_)] [] H (by kernel_rfl) trivial fun _ wd1 H2 hb => ?_
 clear H
 replace hS := hS.below hb
 clear hb
 refine s_reg [(.bool (token_within b_ 48 57))] [2] [(2, [], .bool (token_within b_ 48 57))] [fun wz => RetB Tryz.prog 77 ⟨[vI b_, vI 48, vI 57]⟩ (.bool (token_within b_ 48 57)) wz] H2 (by kernel_rfl) ⟨((token_within_ok _ _ _).b), trivial⟩ fun _ wd3 H4 hb => ?_
 clear H2
 replace hS := hS.below hb
 clear hb
 refine w_ret ?_
 subst hm
 exact retR1 H4 rfl rfl ⟨_, rfl, rfl, (hS.sel [] rfl)⟩
theorem token_digit_ok  (b_ : Int) : Ret Tryz.prog 46 ⟨[vI b_]⟩ (.bool (token_digit b_)) := retP_of (Tryz.call46 _) (fun w h => token_digit_w F0   b_ _ rfl w h)

theorem token_hex_w  (M : Av) (b_ : Int) (r : Int) (hm : token_hex b_ = r) (w : World) (hS : S0 M [] w) : Calls Tryz.prog 87 ⟨[vI b_]⟩ w (fun e w' => ∃ v, e = .returned v ∧ v = vI r ∧ SH M (fpl []) w [] w') := by
 rw [token_hex] at hm
 have hS0 : SH M (fpl []) w [] w := hS
 generalize hX : fpl [] = X at hS0 ⊢
 clear hS hX
 have hS := hS0
 clear hS0
 refine calls_entryP Tryz.func87 rfl Tryz.ntmps87 rfl fun _ H => ?_
 refine s_reg [] [0] [(0, [], vI b_)] [] H (by kernel_rfl) trivial fun _ wd1 H2 hb => ?_
 clear H
 replace hS := hS.below hb
 clear hb
 refine w_seq ?_
 refine w_block ?_
 refine s_reg [(.bool (token_digit b_))] [0, 3] [(0, [], vI b_), (3, [], .bool (token_digit b_))] [fun wz => RetB Tryz.prog 46 ⟨[vI b_]⟩ (.bool (token_digit b_)) wz] H2 (by kernel_rfl) ⟨((token_digit_ok _).b), trivial⟩ fun _ wd3 H4 hb => ?_
 clear H2
 replace hS := hS.below hb
 clear hb
 refine w_if H4 rfl (fun hc => ?c17) (fun hc => ?_)
 case c17 =>
  replace hm := bT hc hm
  refine s_reg [] [2] [(2, [], vI (w64 (b_ - 48)))] [] H4 (by kernel_rfl) trivial fun _ wd5 H6 hb => ?_
  clear H4
  replace hS := hS.below hb
  clear hb
  refine w_ret ?_
  subst hm
  exact retR1 H6 rfl rfl ⟨_, rfl, rfl, (hS.sel [] rfl)⟩
 replace hm := bF hc hm
 obtain ⟨y7, hy7, hm⟩ := letE hm
 obtain ⟨x8, hx8, hm⟩ := letE hm
 refine s_reg [(.bool y7)] [0, 8] [(0, [], vI b_), (8, [], .bool (cond x8 (decide (b_ < 128)) false))] [fun wz => ((b_ != (-1)) = true ∧ True → RetB Tryz.prog 77 ⟨[vI (ibit .or .i64 b_ 32), vI 97, vI 102]⟩ (.bool y7) wz)] H4 (by subst hy7 hx8; kernel_rfl) ⟨fun hg => (by rw [hy7]; exact (token_within_ok _ _ _).b), trivial⟩ fun _ wd9 H10 hb => ?_
 clear H4
 replace hS := hS.below hb
 clear hb
 refine w_if H10 rfl (fun hc => ?_) (fun hc => ?c16)
 case c16 =>
  replace hm := bF hc hm
  refine w_skip ?_
  refine s_reg [] [2] [(2, [], vI (-1))] [] H10 (by kernel_rfl) trivial fun _ wd14 H15 hb => ?_
  clear H10
  replace hS := hS.below hb
  clear hb
  refine w_ret ?_
  subst hm
  exact retR1 H15 rfl rfl ⟨_, rfl, rfl, (hS.sel [] rfl)⟩
 replace hm := bT hc hm
 obtain ⟨x11, hx11, hm⟩ := letE hm
 refine s_reg [] [2] [(2, [], vI x11)] [] H10 (by subst hx11; kernel_rfl) trivial fun _ wd12 H13 hb => ?_
 clear H10
 replace hS := hS.below hb
 clear hb
 refine w_ret ?_
 subst hm
 exact retR1 H13 rfl rfl ⟨_, rfl, rfl, (hS.sel [] rfl)⟩
theorem token_hex_ok  (b_ : Int) : Ret Tryz.prog 87 ⟨[vI b_]⟩ (vI (token_hex b_)) := retP_of (Tryz.call87 _) (fun w h => token_hex_w F0   b_ _ rfl w h)

theorem token_scanner_escaped_w {b_c : Nat} {g_b_ : Gh} (M : Av) (m : Nat) (c_s : Str) (c_at_ : Int) (b_ : List Int) (r : (List Int) × Int) (hm : token_scanner_escaped m c_s c_at_ b_ = some r) (w : World) (hS : S0 M [eB b_c [vS c_s, vI c_at_], eO 5 (tI .u8) b_ g_b_] w) : Calls Tryz.prog 54 ⟨[vP b_c, vL g_b_ b_]⟩ w (fun e w' => ∃ v, e = .returned v ∧ ∃ (g901 : Gh), v = .slice g901.a r.1.length g901.c ∧ SH M (fpl [eB b_c [vS c_s, vI c_at_], eO 5 (tI .u8) b_ g_b_]) w [eO 5 (tI .u8) r.1 g901, eB b_c [vS c_s, vI r.2]] w') := by
 rw [token_scanner_escaped] at hm
 have hS0 : SH M (fpl [eB b_c [vS c_s, vI c_at_], eO 5 (tI .u8) b_ g_b_]) w [eB b_c [vS c_s, vI c_at_], eO 5 (tI .u8) b_ g_b_] w := hS
 generalize hX : fpl [eB b_c [vS c_s, vI c_at_], eO 5 (tI .u8) b_ g_b_] = X at hS0 ⊢
 clear hS hX
 have hS := hS0
 clear hS0
 refine calls_entryP Tryz.func54 rfl Tryz.ntmps54 rfl fun _ H => ?_
 refine s_reg [] [0, 1] [(0, [], vP b_c), (1, [], vL g_b_ b_)] [] H (by kernel_rfl) trivial fun _ wd1 H2 hb => ?_
 clear H
 replace hS := hS.below hb
 clear hb
 refine w_seq ?_
 refine wl_start ?_
 refine wl_batch 0 7 [(vI c_at_)] [0, 1, 12, 14] [(0, [], vP b_c), (1, [], vL g_b_ b_), (12, [], vI (w64 (c_at_ + 1))), (14, [], vA b_c 1)] [fun wz => V.at1 ⟨b_c, 1, none⟩ (vI c_at_) wz] H2 (by decide) (by kernel_rfl) ⟨((hS.bk 0 rfl).at1 rfl), trivial⟩ fun _ wd3 H4 hb => ?_
 clear H2
 replace hS := hS.below hb
 clear hb
 have hd := hS.hand [0] [1] rfl rfl
 refine m_stp0 [0, 1] [(0, [], vP b_c), (1, [], vL g_b_ b_)] H4 rfl rfl rfl (o_store [vS c_s, vI (w64 (c_at_ + 1))] H4 hd rfl rfl (by kernel_rfl) rfl rfl rfl) rfl fun _ wd5 H6 hq => ?_
 clear H4 hd
 obtain ⟨_, hq⟩ := hq
 replace hS : SH M X w [eB b_c [vS c_s, vI (w64 (c_at_ + 1))], eO 5 (tI .u8) b_ g_b_] _ := hS.join [0] [1] rfl rfl hq
 clear hq
 refine wl_end rfl ?_
 obtain ⟨y7, hy7, hm⟩ := bindE hm
 refine s_reg [(vI y7)] [0, 1, 5] [(0, [], vP b_c), (1, [], vL g_b_ b_), (5, [], vI y7)] [fun wz => RetB Tryz.prog 45 ⟨[vP b_c, vI 0]⟩ (vI y7) wz] H6 (by kernel_rfl) ⟨(token_scanner_peek_ok (b_c := b_c) _ _ _ _ hy7 _ (s0ro s0nil (hS.bk 0 rfl))), trivial⟩ fun _ wd8 H9 hb => ?_
 clear H6
 replace hS := hS.below hb
 clear hb
 refine w_seq ?_
 refine s_reg [] [0, 1, 5, 18] [(0, [], vP b_c), (1, [], vL g_b_ b_), (5, [], vI y7), (18, [], .bool (y7 == (-1)))] [] H9 (by kernel_rfl) trivial fun _ wd10 H11 hb => ?_
 clear H9
 replace hS := hS.below hb
 clear hb
 refine w_if H11 rfl (fun hc => ?c93) (fun hc => ?_)
 case c93 =>
  replace hm := bT hc hm
  refine w_seq ?_
  refine wl_start ?_
  refine wl_batch 0 1 [] [19] [(19, [], vL g_b_ b_)] [] H11 (by decide) (by kernel_rfl) trivial fun _ wd12 H13 hb => ?_
  clear H11
  replace hS := hS.below hb
  clear hb
  obtain ⟨y14, hy14, hm⟩ := bindE hm
  have hd := hS.hand [1] [0] rfl rfl
  refine m_stp [20] [] H13 rfl rfl rfl rfl (o_callx H13 rfl rfl (unicode_utf8_AppendRune_ok (g_p := g_b_) _ _ _ hy14 _ _ hd)) (fun _ => rfl) fun _ wd17 v H18 hq => ?_
  clear H13 hd
  obtain ⟨g15, rfl, hq⟩ := hq
  replace hS : SH M X w [eO 5 (tI .u8) y14 g15, eB b_c [vS c_s, vI (w64 (c_at_ + 1))]] _ := hS.join [1] [0] rfl rfl hq
  clear hq
  refine wl_batch 2 3 [] [4] [(4, [], vL g15 y14)] [] H18 (by decide) (by kernel_rfl) trivial fun _ wd19 H20 hb => ?_
  clear H18
  replace hS := hS.below hb
  clear hb
  refine wl_end rfl ?_
  refine w_ret ?_
  obtain rfl := someE hm
  exact retR1 H20 rfl rfl ⟨_, rfl, g15, rfl, (hS.sel [0, 1] rfl)⟩
 replace hm := bF hc hm
 refine w_skip ?_
 refine w_seq ?_
 refine s_reg [(vI (token_hex y7))] [0, 1, 5, 23] [(0, [], vP b_c), (1, [], vL g_b_ b_), (5, [], vI y7), (23, [], .bool (decide ((token_hex y7) < 0)))] [fun wz => RetB Tryz.prog 87 ⟨[vI y7]⟩ (vI (token_hex y7)) wz] H11 (by kernel_rfl) ⟨((token_hex_ok _).b), trivial⟩ fun _ wd21 H22 hb => ?_
 clear H11
 replace hS := hS.below hb
 clear hb
 refine w_if H22 rfl (fun hc => ?c92) (fun hc => ?_)
 case c92 =>
  replace hm := bT hc hm
  refine w_seq ?_
  refine wl_start ?_
  refine wl_batch 0 7 [(vI (w64 (c_at_ + 1)))] [1, 5, 28, 30] [(1, [], vL g_b_ b_), (5, [], vI y7), (28, [], vI (w64 ((w64 (c_at_ + 1)) + 1))), (30, [], vA b_c 1)] [fun wz => V.at1 ⟨b_c, 1, none⟩ (vI (w64 (c_at_ + 1))) wz] H22 (by decide) (by kernel_rfl) ⟨((hS.bk 0 rfl).at1 rfl), trivial⟩ fun _ wd23 H24 hb => ?_
  clear H22
  replace hS := hS.below hb
  clear hb
  have hd := hS.hand [0] [1] rfl rfl
  refine m_stp0 [1, 5] [(1, [], vL g_b_ b_), (5, [], vI y7)] H24 rfl rfl rfl (o_store [vS c_s, vI (w64 ((w64 (c_at_ + 1)) + 1))] H24 hd rfl rfl (by kernel_rfl) rfl rfl rfl) rfl fun _ wd25 H26 hq => ?_
  clear H24 hd
  obtain ⟨_, hq⟩ := hq
  replace hS : SH M X w [eB b_c [vS c_s, vI (w64 ((w64 (c_at_ + 1)) + 1))], eO 5 (tI .u8) b_ g_b_] _ := hS.join [0] [1] rfl rfl hq
  clear hq
  refine wl_end rfl ?_
  refine w_seq ?_
  refine wl_start ?_
  refine wl_batch 0 3 [] [31, 33] [(31, [], vL g_b_ b_), (33, [], vU (wu8 y7))] [] H26 (by decide) (by kernel_rfl) trivial fun _ wd27 H28 hb => ?_
  clear H26
  replace hS := hS.below hb
  clear hb
  have hd := hS.hand [] [0, 1] rfl rfl
  refine m_stp [34, 31] [(31, [], vL g_b_ b_)] H28 rfl rfl rfl rfl (o_lit (T := (tI .u8)) (E := 5) (zv := vU 0) [vU (wu8 y7)] ([wu8 y7] : List Int) [gL []] _ H28 hd rfl (by kernel_rfl) (by kernel_rfl) (by kernel_rfl) (by kernel_rfl) (by kernel_rfl) (by kernel_rfl) (by kernel_rfl) rfl (InnL.cons trivial InnL.nil)) (fun _ => rfl) fun _ wd31 v H32 hq => ?_
  clear H28 hd
  obtain ⟨g29, rfl, hq⟩ := hq
  replace hS : SH M X w [eO 5 (tI .u8) ([wu8 y7] : List Int) g29, eB b_c [vS c_s, vI (w64 ((w64 (c_at_ + 1)) + 1))], eO 5 (tI .u8) b_ g_b_] _ := hS.join [] [0, 1] rfl rfl hq
  clear hq
  obtain ⟨ho33, hm⟩ := chkE hm
  obtain ⟨q34, hq34, hm⟩ := letE hm
  have hd := hS.hand [2, 0] [1] rfl rfl
  refine m_stp [35] [] H32 rfl rfl rfl rfl (o_app2 (T := (tI .u8)) (zv := vU 0) (g1 := g_b_) (g2 := g29) (l1 := b_) (l2 := ([wu8 y7] : List Int)) q34 hq34.symm H32 hd rfl rfl rfl rfl rfl rfl rfl (by kernel_rfl) (by kernel_rfl) rfl rfl ho33) (fun _ => rfl) fun _ wd35 v H36 hq => ?_
  clear H32 hd
  obtain ⟨g37, rfl, hq⟩ := hq
  replace hS : SH M X w [eO 5 (tI .u8) q34 g37, eO 5 (tI .u8) ([wu8 y7] : List Int) g29, eB b_c [vS c_s, vI (w64 ((w64 (c_at_ + 1)) + 1))]] _ := hS.join [2, 0] [1] rfl rfl hq
  clear hq
  refine wl_batch 5 6 [] [4] [(4, [], vL g37 q34)] [] H36 (by decide) (by kernel_rfl) trivial fun _ wd38 H39 hb => ?_
  clear H36
  replace hS := hS.below hb
  clear hb
  refine wl_end rfl ?_
  replace hS : SH M X w [eO 5 (tI .u8) q34 g37, eB b_c [vS c_s, vI (w64 ((w64 (c_at_ + 1)) + 1))]] _ := hS.sel [0, 2] rfl
  refine w_ret ?_
  obtain rfl := someE hm
  exact retR1 H39 rfl rfl ⟨_, rfl, g37, rfl, (hS.sel [0, 1] rfl)⟩
 replace hm := bF hc hm
 refine w_skip ?_
 refine s_reg [] [0, 1, 6] [(0, [], vP b_c), (1, [], vL g_b_ b_), (6, [], vI 0)] [] H22 (by kernel_rfl) trivial fun _ wd40 H41 hb => ?_
 clear H22
 replace hS := hS.below hb
 clear hb
 obtain ⟨z42, hz, hm⟩ := bindE hm
 refine w_cut (fun a' w' => Fr 72 [(0, [], vP b_c), (1, [], vL g_b_ b_), (6, [], vI z42.1)] a' ∧ SH M X w [eB b_c [vS c_s, vI z42.2], eO 5 (tI .u8) b_ g_b_] w') ?_ ?_
 ·replace hm := hz
  refine s_reg [] [0, 1, 6, 36] [(0, [], vP b_c), (1, [], vL g_b_ b_), (6, [], vI 0), (36, [], vI 0)] [] H41 (by kernel_rfl) trivial fun _ wd43 H44 hb => ?_
  clear H41
  replace hS := hS.below hb
  clear hb
  refine w_block ?_
  refine w_loop (fun kk a' w' => ∃ (v45 : Int) (v46 : Int) (v47 : Int), token_scanner_escaped_L1 m c_s kk v45 v46 v47 = some _ ∧ Fr 72 [(0, [], vP b_c), (1, [], vL g_b_ b_), (6, [], vI v45), (36, [], vI v46)] a' ∧ SH M X w [eB b_c [vS c_s, vI v47], eO 5 (tI .u8) b_ g_b_] w') ⟨_, 0, 0, w64 (c_at_ + 1), hm, FrG.keep (ks := [0, 1, 6, 36]) H44 (by kernel_rfl), hS⟩ ?_
  clear hm H44 hS
  rintro kk _ wd64 ⟨v45, v46, v47, hm, H, hS⟩
  cases kk with
  | zero => exact noneE hm
  | succ kk =>
   rw [token_scanner_escaped_L1] at hm
   refine s_reg [] [0, 1, 6, 36, 37] [(0, [], vP b_c), (1, [], vL g_b_ b_), (6, [], vI v45), (36, [], vI v46), (37, [], .bool (decide (v46 < 6)))] [] H (by kernel_rfl) trivial fun _ wd48 H49 hb => ?_
   clear H
   replace hS := hS.below hb
   clear hb
   refine w_seq ?_
   refine w_if H49 rfl (fun hc => ?_) (fun hc => ?c63)
   case c63 =>
    replace hm := bF hc hm
    refine w_exit rfl ?_
    obtain rfl := someE hm
    exact ⟨FrG.keep (ks := [0, 1, 6]) H49 (by kernel_rfl), hS⟩
   replace hm := bT hc hm
   refine w_skip ?_
   refine w_seq ?_
   refine w_block ?_
   obtain ⟨y50, hy50, hm⟩ := bindE hm
   refine s_reg [(vI y50), (vI (token_hex y50))] [0, 1, 6, 7, 36] [(0, [], vP b_c), (1, [], vL g_b_ b_), (6, [], vI v45), (7, [], vI (token_hex y50)), (36, [], vI v46)] [fun wz => RetB Tryz.prog 45 ⟨[vP b_c, vI 0]⟩ (vI y50) wz, fun wz => RetB Tryz.prog 87 ⟨[vI y50]⟩ (vI (token_hex y50)) wz] H49 (by kernel_rfl) ⟨(token_scanner_peek_ok (b_c := b_c) _ _ _ _ hy50 _ (s0ro s0nil (hS.bk 0 rfl))), ((token_hex_ok _).b), trivial⟩ fun _ wd51 H52 hb => ?_
   clear H49
   replace hS := hS.below hb
   clear hb
   refine w_seq ?_
   refine s_reg [] [0, 1, 6, 7, 36, 42] [(0, [], vP b_c), (1, [], vL g_b_ b_), (6, [], vI v45), (7, [], vI (token_hex y50)), (36, [], vI v46), (42, [], .bool (decide ((token_hex y50) < 0)))] [] H52 (by kernel_rfl) trivial fun _ wd53 H54 hb => ?_
   clear H52
   replace hS := hS.below hb
   clear hb
   refine w_if H54 rfl (fun hc => ?c62) (fun hc => ?_)
   case c62 =>
    replace hm := bT hc hm
    refine w_exit rfl ?_
    obtain rfl := someE hm
    exact ⟨FrG.keep (ks := [0, 1, 6]) H54 (by kernel_rfl), hS⟩
   replace hm := bF hc hm
   refine w_skip ?_
   obtain ⟨x56, hx56, hm⟩ := letE hm
   refine w_drawS (base := [(0, [], vP b_c), (1, [], vL g_b_ b_), (7, [], vI (token_hex y50)), (36, [], vI v46)]) (L := [eB b_c [vS c_s, vI v47], eO 5 (tI .u8) b_ g_b_]) 14 2 (fun yg55 => [vP b_c, vI v45, vI (w64 (v45 * 2 ^ 4)), vI (token_hex y50), vI x56, vP b_c, vP b_c, vA b_c 1, vI v47, vI (w64 (v47 + 1)), vI x56, vP b_c, vA b_c 1, undef]) (fun yg55 => [[], [], [], [], [], [], [], [], [], [], [], [], [], [eB b_c [vS c_s, vI (w64 (v47 + 1))]]]) [[14], [], [], [], [], [14], [14], [14], [14], [], [], [14], [14], [14]] [[], [], [], [], [], [], [], [], [], [], [], [], [], [14]] [[0], [1], [1, 2], [3], [1, 2, 3, 4], [5], [5, 6], [5, 6, 7], [5, 6, 7, 8], [5, 6, 7, 8, 9], [1, 2, 3, 4, 10], [0, 11], [0, 11, 12], [0, 5, 6, 7, 8, 9, 11, 12, 13]] [(6, 10, vI v45)] (FrG.keep (ks := [0, 1, 7, 36]) H54 (by kernel_rfl)) (fun k e h => by rcases k with _ | k <;> first | (obtain rfl := Option.some.inj h; exact FrG.slot H54 (by kernel_rfl)) | cases h) (by kernel_rfl) hS (by kernel_rfl) rfl rfl (by kernel_rfl) (by kernel_rfl) (by kernel_rfl) (gd_none (by kernel_rfl) _ _) ?hloc_yg55 ?hstep_yg55 fun _ wd57 yg55 H58 hv hS => ?hK_yg55
   case hloc_yg55 => exact ⟨(fun _ _ _ _ => ⟨rfl, rfl⟩), (fun _ _ _ _ => ⟨rfl, rfl⟩), (fun _ _ _ _ => ⟨rfl, rfl⟩), (fun _ _ _ _ => ⟨rfl, rfl⟩), (fun _ _ _ _ => ⟨rfl, rfl⟩), (fun _ _ _ _ => ⟨rfl, rfl⟩), (fun _ _ _ _ => ⟨rfl, rfl⟩), (fun _ _ _ _ => ⟨rfl, rfl⟩), (fun _ _ _ _ => ⟨rfl, rfl⟩), (fun _ _ _ _ => ⟨rfl, rfl⟩), (fun _ _ _ _ => ⟨rfl, rfl⟩), (fun _ _ _ _ => ⟨rfl, rfl⟩), (fun _ _ _ _ => ⟨rfl, rfl⟩), (fun _ _ _ _ => ⟨rfl, rfl⟩), trivial⟩
   case hstep_yg55 =>
    refine ⟨?_, ?_, ?_, ?_, ?_, ?_, ?_, ?_, ?_, ?_, ?_, ?_, ?_, ?_, trivial⟩
    ·intro o ho a w yg55 M Hb hv hO hS
     obtain rfl := Option.some.inj ho
     exact Stp.mono (o_evs [] (vP b_c) none [] Hb rfl (by kernel_rfl) (fun q e => by cases e)) fun _ _ hq => ⟨gL [], fun _ _ => hq.1, (hS.below hq.2.below).sel [0] rfl⟩
    ·intro o ho a w yg55 M Hb hv hO hS
     obtain rfl := Option.some.inj ho
     exact Stp.mono (o_evs [] (vI v45) none [] ((Hb).add (hO 0 _ rfl (by kernel_rfl))) rfl (by kernel_rfl) (fun q e => by cases e)) fun _ _ hq => ⟨gL [], fun _ _ => hq.1, (hS.below hq.2.below).sel [] rfl⟩
    ·intro o ho a w yg55 M Hb hv hO hS
     obtain rfl := Option.some.inj ho
     exact Stp.mono (o_evs [] (vI (w64 (v45 * 2 ^ 4))) (some (fun _ => (0 : Int) ≤ 4)) [] ((Hb).add (hv 1 (by decide) (by decide) 44 rfl)) rfl (by kernel_rfl) (fun q e => by cases e; exact (by show (0 : Int) ≤ 4; decide))) fun _ _ hq => ⟨gL [], fun _ _ => hq.1, (hS.below hq.2.below).sel [] rfl⟩
    ·intro o ho a w yg55 M Hb hv hO hS
     obtain rfl := Option.some.inj ho
     exact Stp.mono (o_evs [] (vI (token_hex y50)) none [] Hb rfl (by kernel_rfl) (fun q e => by cases e)) fun _ _ hq => ⟨gL [], fun _ _ => hq.1, (hS.below hq.2.below).sel [] rfl⟩
    ·intro o ho a w yg55 M Hb hv hO hS
     obtain rfl := Option.some.inj ho
     exact Stp.mono (o_evs [] (vI x56) none [] (((Hb).add (hv 2 (by decide) (by decide) 45 rfl)).add (hv 3 (by decide) (by decide) 46 rfl)) rfl (by subst hx56; kernel_rfl) (fun q e => by cases e)) fun _ _ hq => ⟨gL [], fun _ _ => hq.1, (hS.below hq.2.below).sel [] rfl⟩
    ·intro o ho a w yg55 M Hb hv hO hS
     obtain rfl := Option.some.inj ho
     exact Stp.mono (o_evs [] (vP b_c) none [] Hb rfl (by kernel_rfl) (fun q e => by cases e)) fun _ _ hq => ⟨gL [], fun _ _ => hq.1, (hS.below hq.2.below).sel [0] rfl⟩
    ·intro o ho a w yg55 M Hb hv hO hS
     obtain rfl := Option.some.inj ho
     exact Stp.mono (o_evs [] (vP b_c) none [] ((Hb).add (hv 5 (by decide) (by decide) 48 rfl)) rfl (by kernel_rfl) (fun q e => by cases e)) fun _ _ hq => ⟨gL [], fun _ _ => hq.1, (hS.below hq.2.below).sel [0] rfl⟩
    ·intro o ho a w yg55 M Hb hv hO hS
     obtain rfl := Option.some.inj ho
     exact Stp.mono (o_evs [] (vA b_c 1) none [] ((Hb).add (hv 6 (by decide) (by decide) 49 rfl)) rfl (by kernel_rfl) (fun q e => by cases e)) fun _ _ hq => ⟨gL [], fun _ _ => hq.1, (hS.below hq.2.below).sel [0] rfl⟩
    ·intro o ho a w yg55 M Hb hv hO hS
     obtain rfl := Option.some.inj ho
     exact Stp.mono (o_evs [(vI v47)] (vI v47) (some (fun wz => V.at1 ⟨b_c, 1, none⟩ (vI v47) wz)) [] ((Hb).add (hv 7 (by decide) (by decide) 50 rfl)) rfl (by kernel_rfl) (fun q e => by cases e; exact ((hS.bk 0 rfl).at1 rfl))) fun _ _ hq => ⟨gL [], fun _ _ => hq.1, (hS.below hq.2.below).sel [0] rfl⟩
    ·intro o ho a w yg55 M Hb hv hO hS
     obtain rfl := Option.some.inj ho
     exact Stp.mono (o_evs [] (vI (w64 (v47 + 1))) none [] ((Hb).add (hv 8 (by decide) (by decide) 51 rfl)) rfl (by kernel_rfl) (fun q e => by cases e)) fun _ _ hq => ⟨gL [], fun _ _ => hq.1, (hS.below hq.2.below).sel [] rfl⟩
    ·intro o ho a w yg55 M Hb hv hO hS
     obtain rfl := Option.some.inj ho
     exact Stp.mono (o_evs [] (vI x56) none [] ((Hb).add (hv 4 (by decide) (by decide) 47 rfl)) rfl (by kernel_rfl) (fun q e => by cases e)) fun _ _ hq => ⟨gL [], fun _ _ => hq.1, (hS.below hq.2.below).sel [] rfl⟩
    ·intro o ho a w yg55 M Hb hv hO hS
     obtain rfl := Option.some.inj ho
     exact Stp.mono (o_evs [] (vP b_c) none [] ((Hb).add (hv 0 (by decide) (by decide) 43 rfl)) rfl (by kernel_rfl) (fun q e => by cases e)) fun _ _ hq => ⟨gL [], fun _ _ => hq.1, (hS.below hq.2.below).sel [0] rfl⟩
    ·intro o ho a w yg55 M Hb hv hO hS
     obtain rfl := Option.some.inj ho
     exact Stp.mono (o_evs [] (vA b_c 1) none [] ((Hb).add (hv 11 (by decide) (by decide) 53 rfl)) rfl (by kernel_rfl) (fun q e => by cases e)) fun _ _ hq => ⟨gL [], fun _ _ => hq.1, (hS.below hq.2.below).sel [0] rfl⟩
    ·intro o ho a w yg55 M Hb hv hO hS0
     obtain rfl := Option.some.inj ho
     have H : Fr 72 ([(54, [], vA b_c 1), (52, [], vI (w64 (v47 + 1)))] ++ [(0, [], vP b_c), (1, [], vL g_b_ b_), (7, [], vI (token_hex y50)), (36, [], vI v46)]) _ := ((Hb).add (hv 9 (by decide) (by decide) 52 rfl)).add (hv 12 (by decide) (by decide) 54 rfl)
     obtain ⟨X, hX⟩ : ∃ X, X = fpl [eB b_c [vS c_s, vI v47]] := ⟨_, rfl⟩
     have hS : SH M X w [eB b_c [vS c_s, vI v47]] w := by rw [hX]; exact hS0
     have hd := hS.hand [0] [] rfl rfl
     refine Stp.mono (o_store [vS c_s, vI (w64 (v47 + 1))] H hd rfl rfl (by kernel_rfl) rfl rfl rfl) ?_
     rintro v w2 hq
     replace hS : SH M X w [eB b_c [vS c_s, vI (w64 (v47 + 1))]] _ := hS.join [0] [] rfl rfl hq
     clear hq
     rw [hX] at hS
     exact ⟨gL [], (fun _ h => by cases h), hS.sel [0] rfl⟩
   have H59 : Fr 72 [(6, [], vI x56), (0, [], vP b_c), (1, [], vL g_b_ b_), (36, [], vI v46)] _ := (FrG.add (FrG.keep (ks := [0, 1, 36]) H58 (by kernel_rfl)) (hv 10 6 rfl))
   replace hS : SH M X w [eB b_c [vS c_s, vI (w64 (v47 + 1))], eO 5 (tI .u8) b_ g_b_] _ := hS
   clear hv H58
   refine w_reg [] [0, 1, 6, 36] [(0, [], vP b_c), (1, [], vL g_b_ b_), (6, [], vI x56), (36, [], vI (w64 (v46 + 1)))] [] H59 (by kernel_rfl) trivial fun _ wd60 H61 hb => ?_
   clear H59
   replace hS := hS.below hb
   clear hb
   exact ⟨_, Nat.lt_succ_self _, x56, w64 (v46 + 1), w64 (v47 + 1), hm, FrG.keep (ks := [0, 1, 6, 36]) H61 (by kernel_rfl), hS⟩
 ·rintro _ wd91 ⟨H, hS⟩
  obtain ⟨z65, hz, hm⟩ := bindE hm
  refine w_cut (fun a' w' => Fr 72 [(1, [], vL g_b_ b_), (6, [], vI z42.1)] a' ∧ SH M X w [eB b_c [vS c_s, vI z65], eO 5 (tI .u8) b_ g_b_] w') ?_ ?_
  ·replace hm := hz
   obtain ⟨y66, hy66, hm⟩ := bindE hm
   refine s_reg [(vI y66), (.bool (token_space y66))] [0, 1, 6, 58] [(0, [], vP b_c), (1, [], vL g_b_ b_), (6, [], vI z42.1), (58, [], .bool (token_space y66))] [fun wz => RetB Tryz.prog 45 ⟨[vP b_c, vI 0]⟩ (vI y66) wz, fun wz => RetB Tryz.prog 57 ⟨[vI y66]⟩ (.bool (token_space y66)) wz] H (by kernel_rfl) ⟨(token_scanner_peek_ok (b_c := b_c) _ _ _ _ hy66 _ (s0ro s0nil (hS.bk 0 rfl))), ((token_space_ok _).b), trivial⟩ fun _ wd67 H68 hb => ?_
   clear H
   replace hS := hS.below hb
   clear hb
   refine w_if H68 rfl (fun hc => ?_) (fun hc => ?c73)
   case c73 =>
    replace hm := bF hc hm
    refine w_skip ?_
    obtain rfl := someE hm
    exact ⟨FrG.keep (ks := [1, 6]) H68 (by kernel_rfl), hS⟩
   replace hm := bT hc hm
   refine wl_start ?_
   refine wl_batch 0 7 [(vI z42.2)] [1, 6, 63, 65] [(1, [], vL g_b_ b_), (6, [], vI z42.1), (63, [], vI (w64 (z42.2 + 1))), (65, [], vA b_c 1)] [fun wz => V.at1 ⟨b_c, 1, none⟩ (vI z42.2) wz] H68 (by decide) (by kernel_rfl) ⟨((hS.bk 0 rfl).at1 rfl), trivial⟩ fun _ wd69 H70 hb => ?_
   clear H68
   replace hS := hS.below hb
   clear hb
   have hd := hS.hand [0] [1] rfl rfl
   refine m_stp0 [1, 6] [(1, [], vL g_b_ b_), (6, [], vI z42.1)] H70 rfl rfl rfl (o_store [vS c_s, vI (w64 (z42.2 + 1))] H70 hd rfl rfl (by kernel_rfl) rfl rfl rfl) rfl fun _ wd71 H72 hq => ?_
   clear H70 hd
   obtain ⟨_, hq⟩ := hq
   replace hS : SH M X w [eB b_c [vS c_s, vI (w64 (z42.2 + 1))], eO 5 (tI .u8) b_ g_b_] _ := hS.join [0] [1] rfl rfl hq
   clear hq
   refine wl_end rfl ?_
   obtain rfl := someE hm
   exact ⟨FrG.keep (ks := [1, 6]) H72 (by kernel_rfl), hS⟩
  ·rintro _ wd90 ⟨H, hS⟩
   obtain ⟨z74, hz, hm⟩ := bindE hm
   refine w_cut (fun a' w' => Fr 72 [(1, [], vL g_b_ b_), (6, [], vI z74)] a' ∧ SH M X w [eB b_c [vS c_s, vI z65], eO 5 (tI .u8) b_ g_b_] w') ?_ ?_
   ·replace hm := hz
    refine s_reg [] [1, 6, 67] [(1, [], vL g_b_ b_), (6, [], vI z42.1), (67, [], .bool (z42.1 == 0))] [] H (by kernel_rfl) trivial fun _ wd75 H76 hb => ?_
    clear H
    replace hS := hS.below hb
    clear hb
    refine w_if H76 rfl (fun hc => ?_) (fun hc => ?c79)
    case c79 =>
     replace hm := bF hc hm
     refine w_skip ?_
     obtain rfl := someE hm
     exact ⟨FrG.keep (ks := [1, 6]) H76 (by kernel_rfl), hS⟩
    replace hm := bT hc hm
    refine w_reg [] [1, 6] [(1, [], vL g_b_ b_), (6, [], vI 65533)] [] H76 (by kernel_rfl) trivial fun _ wd77 H78 hb => ?_
    clear H76
    replace hS := hS.below hb
    clear hb
    obtain rfl := someE hm
    exact ⟨FrG.keep (ks := [1, 6]) H78 (by kernel_rfl), hS⟩
   ·rintro _ wd89 ⟨H, hS⟩
    refine w_seq ?_
    refine wl_start ?_
    refine wl_batch 0 3 [] [68, 70] [(68, [], vL g_b_ b_), (70, [], .int .i32 (w32 z74))] [] H (by decide) (by kernel_rfl) trivial fun _ wd80 H81 hb => ?_
    clear H
    replace hS := hS.below hb
    clear hb
    obtain ⟨y82, hy82, hm⟩ := bindE hm
    have hd := hS.hand [1] [0] rfl rfl
    refine m_stp [71] [] H81 rfl rfl rfl rfl (o_callx H81 rfl rfl (unicode_utf8_AppendRune_ok (g_p := g_b_) _ _ _ hy82 _ _ hd)) (fun _ => rfl) fun _ wd85 v H86 hq => ?_
    clear H81 hd
    obtain ⟨g83, rfl, hq⟩ := hq
    replace hS : SH M X w [eO 5 (tI .u8) y82 g83, eB b_c [vS c_s, vI z65]] _ := hS.join [1] [0] rfl rfl hq
    clear hq
    refine wl_batch 4 5 [] [4] [(4, [], vL g83 y82)] [] H86 (by decide) (by kernel_rfl) trivial fun _ wd87 H88 hb => ?_
    clear H86
    replace hS := hS.below hb
    clear hb
    refine wl_end rfl ?_
    refine w_ret ?_
    obtain rfl := someE hm
    exact retR1 H88 rfl rfl ⟨_, rfl, g83, rfl, (hS.sel [0, 1] rfl)⟩
theorem token_scanner_escaped_ok {b_c : Nat} {g_b_ : Gh} (m : Nat) (c_s : Str) (c_at_ : Int) (b_ : List Int) (r : (List Int) × Int) (hm : token_scanner_escaped m c_s c_at_ b_ = some r) (M : Av) (w : World) (hS : S0 M [eB b_c [vS c_s, vI c_at_], eO 5 (tI .u8) b_ g_b_] w) : DoesX Tryz.prog 54 ⟨[vP b_c, vL g_b_ b_]⟩ w (fun v w' => ∃ (g901 : Gh), v = .slice g901.a r.1.length g901.c ∧ SH M (fpl [eB b_c [vS c_s, vI c_at_], eO 5 (tI .u8) b_ g_b_]) w [eO 5 (tI .u8) r.1 g901, eB b_c [vS c_s, vI r.2]] w') := ⟨Tryz.call54 _, token_scanner_escaped_w M m   c_s c_at_ b_ r hm w hS⟩

theorem token_scanner_quoted_w {b_c : Nat} (M : Av) (m : Nat) (c_s : Str) (c_at_ : Int) (r : TToken × Int) (hm : token_scanner_quoted m c_s c_at_ = some r) (w : World) (hS : S0 M [eB b_c [vS c_s, vI c_at_]] w) : Calls Tryz.prog 58 ⟨[vP b_c]⟩ w (fun e w' => ∃ v, e = .returned v ∧ v = .agg ⟨[vU r.1.Kind, .string ⟨⟨r.1.Text⟩⟩, vI r.1.Num, .string ⟨⟨r.1.Unit⟩⟩, .bool r.1.Flag]⟩ ∧ SH M (fpl [eB b_c [vS c_s, vI c_at_]]) w [eB b_c [vS c_s, vI r.2]] w') := by
 rw [token_scanner_quoted] at hm
 have hS0 : SH M (fpl [eB b_c [vS c_s, vI c_at_]]) w [eB b_c [vS c_s, vI c_at_]] w := hS
 generalize hX : fpl [eB b_c [vS c_s, vI c_at_]] = X at hS0 ⊢
 clear hS hX
 have hS := hS0
 clear hS0
 refine calls_entryP Tryz.func58 rfl Tryz.ntmps58 rfl fun _ H => ?_
 refine w_seq ?_
 refine wl_start ?_
 have hd := hS.hand [] [0] rfl rfl
 refine m_stp [2, 0] [(0, [], vP b_c)] H rfl rfl rfl rfl (o_alloc [vU 0, vN, vI 0, vN, vF] (z := .agg ⟨[vU 0, vN, vI 0, vN, vF]⟩) hd (by kernel_rfl) rfl) (fun _ => rfl) fun _ wd2 v H3 hq => ?_
 clear H hd
 obtain ⟨b1, rfl, hq⟩ := hq
 replace hS : SH M X w [eB b1 [vU 0, vN, vI 0, vN, vF], eB b_c [vS c_s, vI c_at_]] _ := hS.join [] [0] rfl rfl hq
 clear hq
 refine wl_end rfl ?_
 refine w_scope ?_
 obtain ⟨y4, hy4, hm⟩ := bindE hm
 refine s_reg [(vI y4)] [0, 2, 3] [(0, [], vP b_c), (2, [], vP b1), (3, [], vI y4)] [fun wz => RetB Tryz.prog 45 ⟨[vP b_c, vI 0]⟩ (vI y4) wz] H3 (by kernel_rfl) ⟨(token_scanner_peek_ok (b_c := b_c) _ _ _ _ hy4 _ (s0ro s0nil (hS.bk 1 rfl))), trivial⟩ fun _ wd5 H6 hb => ?_
 clear H3
 replace hS := hS.below hb
 clear hb
 refine w_seq ?_
 refine wl_start ?_
 refine wl_batch 0 7 [(vI c_at_)] [0, 2, 3, 12, 14] [(0, [], vP b_c), (2, [], vP b1), (3, [], vI y4), (12, [], vI (w64 (c_at_ + 1))), (14, [], vA b_c 1)] [fun wz => V.at1 ⟨b_c, 1, none⟩ (vI c_at_) wz] H6 (by decide) (by kernel_rfl) ⟨((hS.bk 1 rfl).at1 rfl), trivial⟩ fun _ wd7 H8 hb => ?_
 clear H6
 replace hS := hS.below hb
 clear hb
 have hd := hS.hand [1] [0] rfl rfl
 refine m_stp0 [0, 2, 3] [(0, [], vP b_c), (2, [], vP b1), (3, [], vI y4)] H8 rfl rfl rfl (o_store [vS c_s, vI (w64 (c_at_ + 1))] H8 hd rfl rfl (by kernel_rfl) rfl rfl rfl) rfl fun _ wd9 H10 hq => ?_
 clear H8 hd
 obtain ⟨_, hq⟩ := hq
 replace hS : SH M X w [eB b_c [vS c_s, vI (w64 (c_at_ + 1))], eB b1 [vU 0, vN, vI 0, vN, vF]] _ := hS.join [1] [0] rfl rfl hq
 clear hq
 refine wl_end rfl ?_
 refine s_reg [] [0, 2, 3, 4] [(0, [], vP b_c), (2, [], vP b1), (3, [], vI y4), (4, [], vO)] [] H10 (by kernel_rfl) trivial fun _ wd11 H12 hb => ?_
 clear H10
 replace hS := hS.below hb
 clear hb
 refine w_seq ?_
 refine w_label ?_
 obtain ⟨z13, hz, hm_z13⟩ := bindE hm
 refine w_cut (fun a' w' => ∃ s_z13 : (List Int) × Int, z13 = Sum.inr s_z13 ∧ ∃ (g79 : Gh), Fr 83 [(2, [], vP b1), (4, [], .slice g79.a s_z13.1.length g79.c)] a' ∧ SH M X w [eO 5 (tI .u8) s_z13.1 g79, eB b_c [vS c_s, vI s_z13.2], eB b1 [vU 0, vN, vI 0, vN, vF]] w') ?_ ?_
 ·replace hm := hz
  refine w_block ?_
  replace hS : SH M X w [eO 5 (tI .u8) ([] : List Int) (.nil), eB b_c [vS c_s, vI (w64 (c_at_ + 1))], eB b1 [vU 0, vN, vI 0, vN, vF]] _ := hS.addNil 5 (tI .u8)
  refine w_loop (fun kk a' w' => ∃ (v15 : List Int) (v17 : Int) (g16 : Gh), token_scanner_quoted_L1 m c_s y4 kk v15 v17 = some _ ∧ Fr 83 [(0, [], vP b_c), (2, [], vP b1), (3, [], vI y4), (4, [], vL g16 v15)] a' ∧ SH M X w [eO 5 (tI .u8) v15 g16, eB b_c [vS c_s, vI v17], eB b1 [vU 0, vN, vI 0, vN, vF]] w') ⟨_, ([] : List Int), w64 (c_at_ + 1), Gh.nil, hm, FrG.keep (ks := [0, 2, 3, 4]) H12 (by kernel_rfl), hS⟩ ?_
  clear hm H12 hS
  rintro kk _ wd78 ⟨v15, v17, g16, hm, H, hS⟩
  cases kk with
  | zero => exact noneE hm
  | succ kk =>
   rw [token_scanner_quoted_L1] at hm
   refine w_block ?_
   obtain ⟨y18, hy18, hm⟩ := bindE hm
   refine s_reg [(vI y18)] [0, 2, 3, 4, 5] [(0, [], vP b_c), (2, [], vP b1), (3, [], vI y4), (4, [], vL g16 v15), (5, [], vI y18)] [fun wz => RetB Tryz.prog 45 ⟨[vP b_c, vI 0]⟩ (vI y18) wz] H (by kernel_rfl) ⟨(token_scanner_peek_ok (b_c := b_c) _ _ _ _ hy18 _ (s0ro s0nil (hS.bk 1 rfl))), trivial⟩ fun _ wd19 H20 hb => ?_
   clear H
   replace hS := hS.below hb
   clear hb
   refine w_block ?_
   refine s_reg [] [0, 2, 3, 4, 5, 29] [(0, [], vP b_c), (2, [], vP b1), (3, [], vI y4), (4, [], vL g16 v15), (5, [], vI y18), (29, [], .bool (y18 == (-1)))] [] H20 (by kernel_rfl) trivial fun _ wd21 H22 hb => ?_
   clear H20
   replace hS := hS.below hb
   clear hb
   refine w_if H22 rfl (fun hc => ?c77) (fun hc => ?_)
   case c77 =>
    replace hm := bT hc hm
    refine w_exit rfl ?_
    obtain rfl := someE hm
    exact ⟨_, rfl, g16, FrG.keep (ks := [2, 4]) H22 (by kernel_rfl), hS⟩
   replace hm := bF hc hm
   refine s_reg [] [0, 2, 3, 4, 5, 32] [(0, [], vP b_c), (2, [], vP b1), (3, [], vI y4), (4, [], vL g16 v15), (5, [], vI y18), (32, [], .bool (y18 == y4))] [] H22 (by kernel_rfl) trivial fun _ wd23 H24 hb => ?_
   clear H22
   replace hS := hS.below hb
   clear hb
   refine w_if H24 rfl (fun hc => ?c76) (fun hc => ?_)
   case c76 =>
    replace hm := bT hc hm
    refine w_seq ?_
    refine wl_start ?_
    refine wl_batch 0 7 [(vI v17)] [2, 4, 40, 42] [(2, [], vP b1), (4, [], vL g16 v15), (40, [], vI (w64 (v17 + 1))), (42, [], vA b_c 1)] [fun wz => V.at1 ⟨b_c, 1, none⟩ (vI v17) wz] H24 (by decide) (by kernel_rfl) ⟨((hS.bk 1 rfl).at1 rfl), trivial⟩ fun _ wd25 H26 hb => ?_
    clear H24
    replace hS := hS.below hb
    clear hb
    have hd := hS.hand [1] [0, 2] rfl rfl
    refine m_stp0 [2, 4] [(2, [], vP b1), (4, [], vL g16 v15)] H26 rfl rfl rfl (o_store [vS c_s, vI (w64 (v17 + 1))] H26 hd rfl rfl (by kernel_rfl) rfl rfl rfl) rfl fun _ wd27 H28 hq => ?_
    clear H26 hd
    obtain ⟨_, hq⟩ := hq
    replace hS : SH M X w [eB b_c [vS c_s, vI (w64 (v17 + 1))], eO 5 (tI .u8) v15 g16, eB b1 [vU 0, vN, vI 0, vN, vF]] _ := hS.join [1] [0, 2] rfl rfl hq
    clear hq
    refine wl_end rfl ?_
    refine w_exit rfl ?_
    obtain rfl := someE hm
    replace hS : SH M X w [eO 5 (tI .u8) v15 g16, eB b_c [vS c_s, vI (w64 (v17 + 1))], eB b1 [vU 0, vN, vI 0, vN, vF]] _ := hS.sel [1, 0, 2] rfl
    exact ⟨_, rfl, g16, FrG.keep (ks := [2, 4]) H28 (by kernel_rfl), hS⟩
   replace hm := bF hc hm
   refine s_reg [] [0, 2, 3, 4, 5, 43] [(0, [], vP b_c), (2, [], vP b1), (3, [], vI y4), (4, [], vL g16 v15), (5, [], vI y18), (43, [], .bool (y18 == 10))] [] H24 (by kernel_rfl) trivial fun _ wd29 H30 hb => ?_
   clear H24
   replace hS := hS.below hb
   clear hb
   refine w_if H30 rfl (fun hc => ?c75) (fun hc => ?_)
   case c75 =>
    replace hm := bT hc hm
    refine w_seq ?_
    refine wl_start ?_
    refine wl_batch 0 1 [] [2, 46] [(2, [], vP b1), (46, [], .agg ⟨[vU 6, vN, vI 0, vN, vF]⟩)] [] H30 (by decide) (by kernel_rfl) trivial fun _ wd31 H32 hb => ?_
    clear H30
    replace hS := hS.below hb
    clear hb
    have hd := hS.hand [2] [0, 1] rfl rfl
    refine m_stp0 [2] [(2, [], vP b1)] H32 rfl rfl rfl (o_store [vU 6, vN, vI 0, vN, vF] H32 hd rfl rfl (by kernel_rfl) rfl rfl rfl) rfl fun _ wd33 H34 hq => ?_
    clear H32 hd
    obtain ⟨_, hq⟩ := hq
    replace hS : SH M X w [eB b1 [vU 6, vN, vI 0, vN, vF], eO 5 (tI .u8) v15 g16, eB b_c [vS c_s, vI v17]] _ := hS.join [2] [0, 1] rfl rfl hq
    clear hq
    refine wl_end rfl ?_
    refine w_ret ?_
    obtain rfl := someE hm
    have hm := hm_z13
    obtain rfl := someE hm
    exact retR1 H34 rfl (oneRes_agg rfl (hS.bk 0 rfl) Tryz.underlying44 rfl (by kernel_rfl)) ⟨_, rfl, rfl, (hS.sel [2] rfl)⟩
   replace hm := bF hc hm
   obtain ⟨y35, hy35, hm⟩ := bindE hm
   obtain ⟨y36, hy36, hm⟩ := bindE hm
   obtain ⟨x37, hx37, hm⟩ := letE hm
   refine s_reg [(vI y35), (vI y36)] [0, 2, 3, 4, 5, 47] [(0, [], vP b_c), (2, [], vP b1), (3, [], vI y4), (4, [], vL g16 v15), (5, [], vI y18), (47, [], .bool x37)] [fun wz => ((y18 == 92) = true ∧ True → RetB Tryz.prog 45 ⟨[vP b_c, vI 1]⟩ (vI y35) wz), fun wz => ((y35 == (-1)) = false ∧ (y18 == 92) = true ∧ True → RetB Tryz.prog 45 ⟨[vP b_c, vI 1]⟩ (vI y36) wz)] H30 (by subst hx37; kernel_rfl) ⟨fun hg => token_scanner_peek_ok (b_c := b_c) _ _ _ _ (bT (hg.1) hy35) _ (s0ro s0nil (hS.bk 1 rfl)), fun hg => token_scanner_peek_ok (b_c := b_c) _ _ _ _ (bF (hg.1) (bT (hg.2.1) hy36)) _ (s0ro s0nil (hS.bk 1 rfl)), trivial⟩ fun _ wd38 H39 hb => ?_
   clear H30
   replace hS := hS.below hb
   clear hb
   refine w_if H39 rfl (fun hc => ?c74) (fun hc => ?_)
   case c74 =>
    replace hm := bT hc hm
    obtain ⟨x41, hx41, hm⟩ := letE hm
    refine w_drawS (base := [(0, [], vP b_c), (2, [], vP b1), (3, [], vI y4), (4, [], vL g16 v15)]) (L := [eO 5 (tI .u8) v15 g16, eB b_c [vS c_s, vI v17], eB b1 [vU 0, vN, vI 0, vN, vF]]) 15 3 (fun yg40 => [vP b_c, vP b_c, vP b_c, vA b_c 1, vI v17, vI (w64 (v17 + 2)), vP b_c, vP b_c, vP b_c, vS c_s, vI (ln c_s), vI x41, vP b_c, vA b_c 1, undef]) (fun yg40 => [[], [], [], [], [], [], [], [], [], [], [], [], [], [], [eB b_c [vS c_s, vI x41]]]) [[16], [16], [16], [16], [16], [], [16], [16], [16], [16], [], [], [16], [16], [16]] [[], [], [], [], [], [], [], [], [], [], [], [], [], [], [16]] [[0], [1], [1, 2], [1, 2, 3], [1, 2, 3, 4], [1, 2, 3, 4, 5], [6], [6, 7], [6, 7, 8], [6, 7, 8, 9], [6, 7, 8, 9, 10], [1, 2, 3, 4, 5, 6, 7, 8, 9, 10, 11], [0, 12], [0, 12, 13], [0, 1, 2, 3, 4, 5, 6, 7, 8, 9, 10, 11, 12, 13, 14]] [] (FrG.keep (ks := [0, 2, 3, 4]) H39 (by kernel_rfl)) (fun _ _ h => by cases h) (by kernel_rfl) hS (by kernel_rfl) rfl rfl (by kernel_rfl) (by kernel_rfl) (by kernel_rfl) (gd_none (by kernel_rfl) _ _) ?hloc_yg40 ?hstep_yg40 fun _ wd42 yg40 H43 hv hS => ?hK_yg40
    case hloc_yg40 => exact ⟨(fun _ _ _ _ => ⟨rfl, rfl⟩), (fun _ _ _ _ => ⟨rfl, rfl⟩), (fun _ _ _ _ => ⟨rfl, rfl⟩), (fun _ _ _ _ => ⟨rfl, rfl⟩), (fun _ _ _ _ => ⟨rfl, rfl⟩), (fun _ _ _ _ => ⟨rfl, rfl⟩), (fun _ _ _ _ => ⟨rfl, rfl⟩), (fun _ _ _ _ => ⟨rfl, rfl⟩), (fun _ _ _ _ => ⟨rfl, rfl⟩), (fun _ _ _ _ => ⟨rfl, rfl⟩), (fun _ _ _ _ => ⟨rfl, rfl⟩), (fun _ _ _ _ => ⟨rfl, rfl⟩), (fun _ _ _ _ => ⟨rfl, rfl⟩), (fun _ _ _ _ => ⟨rfl, rfl⟩), (fun _ _ _ _ => ⟨rfl, rfl⟩), trivial⟩
    case hstep_yg40 =>
     refine ⟨?_, ?_, ?_, ?_, ?_, ?_, ?_, ?_, ?_, ?_, ?_, ?_, ?_, ?_, ?_, trivial⟩
     ·intro o ho a w yg40 M Hb hv hO hS
      obtain rfl := Option.some.inj ho
      exact Stp.mono (o_evs [] (vP b_c) none [] Hb rfl (by kernel_rfl) (fun q e => by cases e)) fun _ _ hq => ⟨gL [], fun _ _ => hq.1, (hS.below hq.2.below).sel [0] rfl⟩
     ·intro o ho a w yg40 M Hb hv hO hS
      obtain rfl := Option.some.inj ho
      exact Stp.mono (o_evs [] (vP b_c) none [] Hb rfl (by kernel_rfl) (fun q e => by cases e)) fun _ _ hq => ⟨gL [], fun _ _ => hq.1, (hS.below hq.2.below).sel [0] rfl⟩
     ·intro o ho a w yg40 M Hb hv hO hS
      obtain rfl := Option.some.inj ho
      exact Stp.mono (o_evs [] (vP b_c) none [] ((Hb).add (hv 1 (by decide) (by decide) 61 rfl)) rfl (by kernel_rfl) (fun q e => by cases e)) fun _ _ hq => ⟨gL [], fun _ _ => hq.1, (hS.below hq.2.below).sel [0] rfl⟩
     ·intro o ho a w yg40 M Hb hv hO hS
      obtain rfl := Option.some.inj ho
      exact Stp.mono (o_evs [] (vA b_c 1) none [] ((Hb).add (hv 2 (by decide) (by decide) 62 rfl)) rfl (by kernel_rfl) (fun q e => by cases e)) fun _ _ hq => ⟨gL [], fun _ _ => hq.1, (hS.below hq.2.below).sel [0] rfl⟩
     ·intro o ho a w yg40 M Hb hv hO hS
      obtain rfl := Option.some.inj ho
      exact Stp.mono (o_evs [(vI v17)] (vI v17) (some (fun wz => V.at1 ⟨b_c, 1, none⟩ (vI v17) wz)) [] ((Hb).add (hv 3 (by decide) (by decide) 63 rfl)) rfl (by kernel_rfl) (fun q e => by cases e; exact ((hS.bk 0 rfl).at1 rfl))) fun _ _ hq => ⟨gL [], fun _ _ => hq.1, (hS.below hq.2.below).sel [0] rfl⟩
     ·intro o ho a w yg40 M Hb hv hO hS
      obtain rfl := Option.some.inj ho
      exact Stp.mono (o_evs [] (vI (w64 (v17 + 2))) none [] ((Hb).add (hv 4 (by decide) (by decide) 64 rfl)) rfl (by kernel_rfl) (fun q e => by cases e)) fun _ _ hq => ⟨gL [], fun _ _ => hq.1, (hS.below hq.2.below).sel [] rfl⟩
     ·intro o ho a w yg40 M Hb hv hO hS
      obtain rfl := Option.some.inj ho
      exact Stp.mono (o_evs [] (vP b_c) none [] Hb rfl (by kernel_rfl) (fun q e => by cases e)) fun _ _ hq => ⟨gL [], fun _ _ => hq.1, (hS.below hq.2.below).sel [0] rfl⟩
     ·intro o ho a w yg40 M Hb hv hO hS
      obtain rfl := Option.some.inj ho
      exact Stp.mono (o_evs [] (vP b_c) none [] ((Hb).add (hv 6 (by decide) (by decide) 66 rfl)) rfl (by kernel_rfl) (fun q e => by cases e)) fun _ _ hq => ⟨gL [], fun _ _ => hq.1, (hS.below hq.2.below).sel [0] rfl⟩
     ·intro o ho a w yg40 M Hb hv hO hS
      obtain rfl := Option.some.inj ho
      exact Stp.mono (o_evs [] (vP b_c) none [] ((Hb).add (hv 7 (by decide) (by decide) 67 rfl)) rfl (by kernel_rfl) (fun q e => by cases e)) fun _ _ hq => ⟨gL [], fun _ _ => hq.1, (hS.below hq.2.below).sel [0] rfl⟩
     ·intro o ho a w yg40 M Hb hv hO hS
      obtain rfl := Option.some.inj ho
      exact Stp.mono (o_evs [(vS c_s)] (vS c_s) (some (fun wz => V.at1 ⟨b_c, 0, none⟩ (vS c_s) wz)) [] ((Hb).add (hv 8 (by decide) (by decide) 68 rfl)) rfl (by kernel_rfl) (fun q e => by cases e; exact ((hS.bk 0 rfl).at1 rfl))) fun _ _ hq => ⟨gL [], fun _ _ => hq.1, (hS.below hq.2.below).sel [0] rfl⟩
     ·intro o ho a w yg40 M Hb hv hO hS
      obtain rfl := Option.some.inj ho
      exact Stp.mono (o_evs [] (vI (ln c_s)) none [] ((Hb).add (hv 9 (by decide) (by decide) 69 rfl)) rfl (by kernel_rfl) (fun q e => by cases e)) fun _ _ hq => ⟨gL [], fun _ _ => hq.1, (hS.below hq.2.below).sel [] rfl⟩
     ·intro o ho a w yg40 M Hb hv hO hS
      obtain rfl := Option.some.inj ho
      exact Stp.mono (o_evs [] (vI x41) none [] (((Hb).add (hv 5 (by decide) (by decide) 65 rfl)).add (hv 10 (by decide) (by decide) 70 rfl)) rfl (by subst hx41; kernel_rfl) (fun q e => by cases e)) fun _ _ hq => ⟨gL [], fun _ _ => hq.1, (hS.below hq.2.below).sel [] rfl⟩
     ·intro o ho a w yg40 M Hb hv hO hS
      obtain rfl := Option.some.inj ho
      exact Stp.mono (o_evs [] (vP b_c) none [] ((Hb).add (hv 0 (by decide) (by decide) 60 rfl)) rfl (by kernel_rfl) (fun q e => by cases e)) fun _ _ hq => ⟨gL [], fun _ _ => hq.1, (hS.below hq.2.below).sel [0] rfl⟩
     ·intro o ho a w yg40 M Hb hv hO hS
      obtain rfl := Option.some.inj ho
      exact Stp.mono (o_evs [] (vA b_c 1) none [] ((Hb).add (hv 12 (by decide) (by decide) 72 rfl)) rfl (by kernel_rfl) (fun q e => by cases e)) fun _ _ hq => ⟨gL [], fun _ _ => hq.1, (hS.below hq.2.below).sel [0] rfl⟩
     ·intro o ho a w yg40 M Hb hv hO hS0
      obtain rfl := Option.some.inj ho
      have H : Fr 83 ([(73, [], vA b_c 1), (71, [], vI x41)] ++ [(0, [], vP b_c), (2, [], vP b1), (3, [], vI y4), (4, [], vL g16 v15)]) _ := ((Hb).add (hv 11 (by decide) (by decide) 71 rfl)).add (hv 13 (by decide) (by decide) 73 rfl)
      obtain ⟨X, hX⟩ : ∃ X, X = fpl [eB b_c [vS c_s, vI v17]] := ⟨_, rfl⟩
      have hS : SH M X w [eB b_c [vS c_s, vI v17]] w := by rw [hX]; exact hS0
      have hd := hS.hand [0] [] rfl rfl
      refine Stp.mono (o_store [vS c_s, vI x41] H hd rfl rfl (by kernel_rfl) rfl rfl rfl) ?_
      rintro v w2 hq
      replace hS : SH M X w [eB b_c [vS c_s, vI x41]] _ := hS.join [0] [] rfl rfl hq
      clear hq
      rw [hX] at hS
      exact ⟨gL [], (fun _ h => by cases h), hS.sel [0] rfl⟩
    have H44 : Fr 83 [(0, [], vP b_c), (2, [], vP b1), (3, [], vI y4), (4, [], vL g16 v15)] _ := (FrG.keep (ks := [0, 2, 3, 4]) H43 (by kernel_rfl))
    replace hS : SH M X w [eB b_c [vS c_s, vI x41], eO 5 (tI .u8) v15 g16, eB b1 [vU 0, vN, vI 0, vN, vF]] _ := hS
    clear hv H43
    replace hS : SH M X w [eO 5 (tI .u8) v15 g16, eB b_c [vS c_s, vI x41], eB b1 [vU 0, vN, vI 0, vN, vF]] _ := hS.sel [1, 0, 2] rfl
    exact ⟨_, Nat.lt_succ_self _, v15, x41, g16, hm, FrG.keep (ks := [0, 2, 3, 4]) H44 (by kernel_rfl), hS⟩
   replace hm := bF hc hm
   refine s_reg [] [0, 2, 3, 4, 5, 74] [(0, [], vP b_c), (2, [], vP b1), (3, [], vI y4), (4, [], vL g16 v15), (5, [], vI y18), (74, [], .bool (y18 == 92))] [] H39 (by kernel_rfl) trivial fun _ wd45 H46 hb => ?_
   clear H39
   replace hS := hS.below hb
   clear hb
   refine w_if H46 rfl (fun hc => ?c73) (fun hc => ?_)
   case c73 =>
    replace hm := bT hc hm
    refine wl_start ?_
    refine wl_batch 0 2 [] [0, 2, 3, 77, 78] [(0, [], vP b_c), (2, [], vP b1), (3, [], vI y4), (77, [], vP b_c), (78, [], vL g16 v15)] [] H46 (by decide) (by kernel_rfl) trivial fun _ wd47 H48 hb => ?_
    clear H46
    replace hS := hS.below hb
    clear hb
    obtain ⟨y49, hy49, hm⟩ := bindE hm
    have hd := hS.hand [1, 0] [2] rfl rfl
    refine m_stp [79, 0, 2, 3] [(0, [], vP b_c), (2, [], vP b1), (3, [], vI y4)] H48 rfl rfl rfl rfl (o_callx H48 rfl rfl (token_scanner_escaped_ok (b_c := b_c) (g_b_ := g16) m _ _ _ _ hy49 _ _ hd)) (fun _ => rfl) fun _ wd52 v H53 hq => ?_
    clear H48 hd
    obtain ⟨g50, rfl, hq⟩ := hq
    replace hS : SH M X w [eO 5 (tI .u8) y49.1 g50, eB b_c [vS c_s, vI y49.2], eB b1 [vU 0, vN, vI 0, vN, vF]] _ := hS.join [1, 0] [2] rfl rfl hq
    clear hq
    refine wl_batch 3 4 [] [0, 2, 3, 4] [(0, [], vP b_c), (2, [], vP b1), (3, [], vI y4), (4, [], .slice g50.a y49.1.length g50.c)] [] H53 (by decide) (by kernel_rfl) trivial fun _ wd54 H55 hb => ?_
    clear H53
    replace hS := hS.below hb
    clear hb
    refine wl_end rfl ?_
    exact ⟨_, Nat.lt_succ_self _, y49.1, y49.2, g50, hm, FrG.keep (ks := [0, 2, 3, 4]) H55 (by kernel_rfl), hS⟩
   replace hm := bF hc hm
   refine w_seq ?_
   refine wl_start ?_
   refine wl_batch 0 3 [] [0, 2, 3, 17, 19] [(0, [], vP b_c), (2, [], vP b1), (3, [], vI y4), (17, [], vL g16 v15), (19, [], vU (wu8 y18))] [] H46 (by decide) (by kernel_rfl) trivial fun _ wd56 H57 hb => ?_
   clear H46
   replace hS := hS.below hb
   clear hb
   have hd := hS.hand [] [0, 1, 2] rfl rfl
   refine m_stp [20, 0, 2, 3, 17] [(0, [], vP b_c), (2, [], vP b1), (3, [], vI y4), (17, [], vL g16 v15)] H57 rfl rfl rfl rfl (o_lit (T := (tI .u8)) (E := 5) (zv := vU 0) [vU (wu8 y18)] ([wu8 y18] : List Int) [gL []] _ H57 hd rfl (by kernel_rfl) (by kernel_rfl) (by kernel_rfl) (by kernel_rfl) (by kernel_rfl) (by kernel_rfl) (by kernel_rfl) rfl (InnL.cons trivial InnL.nil)) (fun _ => rfl) fun _ wd60 v H61 hq => ?_
   clear H57 hd
   obtain ⟨g58, rfl, hq⟩ := hq
   replace hS : SH M X w [eO 5 (tI .u8) ([wu8 y18] : List Int) g58, eO 5 (tI .u8) v15 g16, eB b_c [vS c_s, vI v17], eB b1 [vU 0, vN, vI 0, vN, vF]] _ := hS.join [] [0, 1, 2] rfl rfl hq
   clear hq
   obtain ⟨ho62, hm⟩ := chkE hm
   obtain ⟨q63, hq63, hm⟩ := letE hm
   have hd := hS.hand [1, 0] [2, 3] rfl rfl
   refine m_stp [21, 0, 2, 3] [(0, [], vP b_c), (2, [], vP b1), (3, [], vI y4)] H61 rfl rfl rfl rfl (o_app2 (T := (tI .u8)) (zv := vU 0) (g1 := g16) (g2 := g58) (l1 := v15) (l2 := ([wu8 y18] : List Int)) q63 hq63.symm H61 hd rfl rfl rfl rfl rfl rfl rfl (by kernel_rfl) (by kernel_rfl) rfl rfl ho62) (fun _ => rfl) fun _ wd64 v H65 hq => ?_
   clear H61 hd
   obtain ⟨g66, rfl, hq⟩ := hq
   replace hS : SH M X w [eO 5 (tI .u8) q63 g66, eO 5 (tI .u8) ([wu8 y18] : List Int) g58, eB b_c [vS c_s, vI v17], eB b1 [vU 0, vN, vI 0, vN, vF]] _ := hS.join [1, 0] [2, 3] rfl rfl hq
   clear hq
   refine wl_batch 5 6 [] [0, 2, 3, 4] [(0, [], vP b_c), (2, [], vP b1), (3, [], vI y4), (4, [], vL g66 q63)] [] H65 (by decide) (by kernel_rfl) trivial fun _ wd67 H68 hb => ?_
   clear H65
   replace hS := hS.below hb
   clear hb
   refine wl_end rfl ?_
   replace hS : SH M X w [eO 5 (tI .u8) q63 g66, eB b_c [vS c_s, vI v17], eB b1 [vU 0, vN, vI 0, vN, vF]] _ := hS.sel [0, 2, 3] rfl
   refine wl_start ?_
   refine wl_batch 0 7 [(vI v17)] [0, 2, 3, 4, 26, 28] [(0, [], vP b_c), (2, [], vP b1), (3, [], vI y4), (4, [], vL g66 q63), (26, [], vI (w64 (v17 + 1))), (28, [], vA b_c 1)] [fun wz => V.at1 ⟨b_c, 1, none⟩ (vI v17) wz] H68 (by decide) (by kernel_rfl) ⟨((hS.bk 1 rfl).at1 rfl), trivial⟩ fun _ wd69 H70 hb => ?_
   clear H68
   replace hS := hS.below hb
   clear hb
   have hd := hS.hand [1] [0, 2] rfl rfl
   refine m_stp0 [0, 2, 3, 4] [(0, [], vP b_c), (2, [], vP b1), (3, [], vI y4), (4, [], vL g66 q63)] H70 rfl rfl rfl (o_store [vS c_s, vI (w64 (v17 + 1))] H70 hd rfl rfl (by kernel_rfl) rfl rfl rfl) rfl fun _ wd71 H72 hq => ?_
   clear H70 hd
   obtain ⟨_, hq⟩ := hq
   replace hS : SH M X w [eB b_c [vS c_s, vI (w64 (v17 + 1))], eO 5 (tI .u8) q63 g66, eB b1 [vU 0, vN, vI 0, vN, vF]] _ := hS.join [1] [0, 2] rfl rfl hq
   clear hq
   refine wl_end rfl ?_
   replace hS : SH M X w [eO 5 (tI .u8) q63 g66, eB b_c [vS c_s, vI (w64 (v17 + 1))], eB b1 [vU 0, vN, vI 0, vN, vF]] _ := hS.sel [1, 0, 2] rfl
   exact ⟨_, Nat.lt_succ_self _, q63, w64 (v17 + 1), g66, hm, FrG.keep (ks := [0, 2, 3, 4]) H72 (by kernel_rfl), hS⟩
 ·rintro _ wd85 ⟨s_z13, hz, g79, H, hS⟩
  subst hz
  replace hm := sumR hm_z13
  refine w_seq ?_
  refine wl_start ?_
  refine wl_batch 0 3 [(.string ⟨⟨toB s_z13.1⟩⟩)] [2, 82] [(2, [], vP b1), (82, [], .agg ⟨[vU 5, .string ⟨⟨toB s_z13.1⟩⟩, vI 0, vN, vF]⟩)] [fun wz => ∀ w', Below wz.heap.size wz w' → (convert 49 9 (.slice g79.a s_z13.1.length g79.c)).run Tryz.prog w' = .ok (.string ⟨⟨toB s_z13.1⟩⟩) w'] H (by decide) (by kernel_rfl) ⟨(conv_slG (E := 5) (by kernel_rfl) (by kernel_rfl) (by kernel_rfl) (hS.osl 0 rfl)), trivial⟩ fun _ wd81 H82 hb => ?_
  clear H
  replace hS := hS.below hb
  clear hb
  have hd := hS.hand [2] [0, 1] rfl rfl
  refine m_stp0 [2] [(2, [], vP b1)] H82 rfl rfl rfl (o_store [vU 5, .string ⟨⟨toB s_z13.1⟩⟩, vI 0, vN, vF] H82 hd rfl rfl (by kernel_rfl) rfl rfl rfl) rfl fun _ wd83 H84 hq => ?_
  clear H82 hd
  obtain ⟨_, hq⟩ := hq
  replace hS : SH M X w [eB b1 [vU 5, .string ⟨⟨toB s_z13.1⟩⟩, vI 0, vN, vF], eO 5 (tI .u8) s_z13.1 g79, eB b_c [vS c_s, vI s_z13.2]] _ := hS.join [2] [0, 1] rfl rfl hq
  clear hq
  refine wl_end rfl ?_
  replace hS : SH M X w [eB b1 [vU 5, .string ⟨⟨toB s_z13.1⟩⟩, vI 0, vN, vF], eB b_c [vS c_s, vI s_z13.2]] _ := hS.sel [0, 2] rfl
  refine w_ret ?_
  obtain rfl := someE hm
  exact retR1 H84 rfl (oneRes_agg rfl (hS.bk 0 rfl) Tryz.underlying44 rfl (by kernel_rfl)) ⟨_, rfl, rfl, (hS.sel [1] rfl)⟩
theorem token_scanner_quoted_ok {b_c : Nat} (m : Nat) (c_s : Str) (c_at_ : Int) (r : TToken × Int) (hm : token_scanner_quoted m c_s c_at_ = some r) (M : Av) (w : World) (hS : S0 M [eB b_c [vS c_s, vI c_at_]] w) : DoesX Tryz.prog 58 ⟨[vP b_c]⟩ w (fun v w' => v = .agg ⟨[vU r.1.Kind, .string ⟨⟨r.1.Text⟩⟩, vI r.1.Num, .string ⟨⟨r.1.Unit⟩⟩, .bool r.1.Flag]⟩ ∧ SH M (fpl [eB b_c [vS c_s, vI c_at_]]) w [eB b_c [vS c_s, vI r.2]] w') := ⟨Tryz.call58 _, token_scanner_quoted_w M m   c_s c_at_ r hm w hS⟩

theorem token_first_w  (M : Av) (b_ : Int) (r : Bool) (hm : token_first b_ = r) (w : World) (hS : S0 M [] w) : Calls Tryz.prog 51 ⟨[vI b_]⟩ w (fun e w' => ∃ v, e = .returned v ∧ v = .bool r ∧ SH M (fpl []) w [] w') := by
 rw [token_first] at hm
 have hS0 : SH M (fpl []) w [] w := hS
 generalize hX : fpl [] = X at hS0 ⊢
 clear hS hX
 have hS := hS0
 clear hS0
 refine calls_entryP Tryz.func51 rfl Tryz.ntmps51 rfl fun _ H => ?_
 refine s_reg [] [0] [(0, [], vI b_)] [] H (by kernel_rfl) trivial fun _ wd1 H2 hb => ?_
 clear H
 replace hS := hS.below hb
 clear hb
 obtain ⟨y3, hy3, hm⟩ := letE hm
 obtain ⟨x4, hx4, hm⟩ := letE hm
 obtain ⟨x5, hx5, hm⟩ := letE hm
 refine s_reg [(.bool y3)] [2] [(2, [], .bool x5)] [fun wz => RetB Tryz.prog 77 ⟨[vI (ibit .or .i64 b_ 32), vI 97, vI 122]⟩ (.bool y3) wz] H2 (by subst hy3 hx4 hx5; kernel_rfl) ⟨((by rw [hy3]; exact (token_within_ok _ _ _).b)), trivial⟩ fun _ wd6 H7 hb => ?_
 clear H2
 replace hS := hS.below hb
 clear hb
 refine w_ret ?_
 subst hm
 exact retR1 H7 rfl rfl ⟨_, rfl, rfl, (hS.sel [] rfl)⟩
theorem token_first_ok  (b_ : Int) : Ret Tryz.prog 51 ⟨[vI b_]⟩ (.bool (token_first b_)) := retP_of (Tryz.call51 _) (fun w h => token_first_w F0   b_ _ rfl w h)

theorem token_letter_w  (M : Av) (b_ : Int) (r : Bool) (hm : token_letter b_ = r) (w : World) (hS : S0 M [] w) : Calls Tryz.prog 53 ⟨[vI b_]⟩ w (fun e w' => ∃ v, e = .returned v ∧ v = .bool r ∧ SH M (fpl []) w [] w') := by
 rw [token_letter] at hm
 have hS0 : SH M (fpl []) w [] w := hS
 generalize hX : fpl [] = X at hS0 ⊢
 clear hS hX
 have hS := hS0
 clear hS0
 refine calls_entryP Tryz.func53 rfl Tryz.ntmps53 rfl fun _ H => ?_
 refine s_reg [] [0] [(0, [], vI b_)] [] H (by kernel_rfl) trivial fun _ wd1 H2 hb => ?_
 clear H
 replace hS := hS.below hb
 clear hb
 obtain ⟨x3, hx3, hm⟩ := letE hm
 refine s_reg [(.bool (token_first b_)), (.bool (token_digit b_))] [2] [(2, [], .bool (cond x3 true (b_ == 45)))] [fun wz => RetB Tryz.prog 51 ⟨[vI b_]⟩ (.bool (token_first b_)) wz, fun wz => ((token_first b_) = false ∧ True → RetB Tryz.prog 46 ⟨[vI b_]⟩ (.bool (token_digit b_)) wz)] H2 (by subst hx3; kernel_rfl) ⟨((token_first_ok _).b), fun hg => (token_digit_ok _).b, trivial⟩ fun _ wd4 H5 hb => ?_
 clear H2
 replace hS := hS.below hb
 clear hb
 refine w_ret ?_
 subst hm
 exact retR1 H5 rfl rfl ⟨_, rfl, rfl, (hS.sel [] rfl)⟩
theorem token_letter_ok  (b_ : Int) : Ret Tryz.prog 53 ⟨[vI b_]⟩ (.bool (token_letter b_)) := retP_of (Tryz.call53 _) (fun w h => token_letter_w F0   b_ _ rfl w h)

theorem token_scanner_escape_w {b_c : Nat} (M : Av) (c_s : Str) (c_at_ : Int) (n_ : Int) (r : Bool) (hm : token_scanner_escape c_s c_at_ n_ = some r) (w : World) (hS : S0 M [Ent.ro b_c [vS c_s, vI c_at_]] w) : Calls Tryz.prog 52 ⟨[vP b_c, vI n_]⟩ w (fun e w' => ∃ v, e = .returned v ∧ v = .bool r ∧ SH M (fpl [Ent.ro b_c [vS c_s, vI c_at_]]) w [] w') := by
 rw [token_scanner_escape] at hm
 have hS0 : SH M (fpl [Ent.ro b_c [vS c_s, vI c_at_]]) w [Ent.ro b_c [vS c_s, vI c_at_]] w := hS
 generalize hX : fpl [Ent.ro b_c [vS c_s, vI c_at_]] = X at hS0 ⊢
 clear hS hX
 have hS := hS0
 clear hS0
 refine calls_entryP Tryz.func52 rfl Tryz.ntmps52 rfl fun _ H => ?_
 refine s_reg [] [0, 1] [(0, [], vP b_c), (1, [], vI n_)] [] H (by kernel_rfl) trivial fun _ wd1 H2 hb => ?_
 clear H
 replace hS := hS.below hb
 clear hb
 obtain ⟨y3, hy3, hm⟩ := bindE hm
 obtain ⟨y4, hy4, hm⟩ := bindE hm
 refine s_reg [(vI y3), (vI y4)] [4] [(4, [], .bool (cond (y3 == 92) (y4 != 10) false))] [fun wz => RetB Tryz.prog 45 ⟨[vP b_c, vI n_]⟩ (vI y3) wz, fun wz => ((y3 == 92) = true ∧ True → RetB Tryz.prog 45 ⟨[vP b_c, vI (w64 (n_ + 1))]⟩ (vI y4) wz)] H2 (by kernel_rfl) ⟨(token_scanner_peek_ok (b_c := b_c) _ _ _ _ hy3 _ (s0ro s0nil (hS.ro 0 rfl))), fun hg => token_scanner_peek_ok (b_c := b_c) _ _ _ _ (bT (hg.1) hy4) _ (s0ro s0nil (hS.ro 0 rfl)), trivial⟩ fun _ wd5 H6 hb => ?_
 clear H2
 replace hS := hS.below hb
 clear hb
 replace hS : SH M X w [] _ := hS.sel [] rfl
 refine w_ret ?_
 obtain rfl := someE hm
 exact retR1 H6 rfl rfl ⟨_, rfl, rfl, (hS.sel [] rfl)⟩
theorem token_scanner_escape_ok {b_c : Nat} (c_s : Str) (c_at_ : Int) (n_ : Int) (r : Bool) (hm : token_scanner_escape c_s c_at_ n_ = some r) (w : World) (hL : S0 F0 [Ent.ro b_c [vS c_s, vI c_at_]] w ∧ fpl [Ent.ro b_c [vS c_s, vI c_at_]] = []) : RetB Tryz.prog 52 ⟨[vP b_c, vI n_]⟩ (.bool r) w := retB_of hL (Tryz.call52 _) (fun w' h => token_scanner_escape_w F0   c_s c_at_ n_ r hm w' h)

theorem token_scanner_name_w {b_c : Nat} (M : Av) (c_s : Str) (c_at_ : Int) (n_ : Int) (r : Bool) (hm : token_scanner_name c_s c_at_ n_ = some r) (w : World) (hS : S0 M [Ent.ro b_c [vS c_s, vI c_at_]] w) : Calls Tryz.prog 35 ⟨[vP b_c, vI n_]⟩ w (fun e w' => ∃ v, e = .returned v ∧ v = .bool r ∧ SH M (fpl [Ent.ro b_c [vS c_s, vI c_at_]]) w [] w') := by
 rw [token_scanner_name] at hm
 have hS0 : SH M (fpl [Ent.ro b_c [vS c_s, vI c_at_]]) w [Ent.ro b_c [vS c_s, vI c_at_]] w := hS
 generalize hX : fpl [Ent.ro b_c [vS c_s, vI c_at_]] = X at hS0 ⊢
 clear hS hX
 have hS := hS0
 clear hS0
 refine calls_entryP Tryz.func35 rfl Tryz.ntmps35 rfl fun _ H => ?_
 refine s_reg [] [0, 1] [(0, [], vP b_c), (1, [], vI n_)] [] H (by kernel_rfl) trivial fun _ wd1 H2 hb => ?_
 clear H
 replace hS := hS.below hb
 clear hb
 refine w_seq ?_
 obtain ⟨y3, hy3, hm⟩ := bindE hm
 refine s_reg [(vI y3)] [0, 1, 8] [(0, [], vP b_c), (1, [], vI n_), (8, [], .bool (y3 != 45))] [fun wz => RetB Tryz.prog 45 ⟨[vP b_c, vI n_]⟩ (vI y3) wz] H2 (by kernel_rfl) ⟨(token_scanner_peek_ok (b_c := b_c) _ _ _ _ hy3 _ (s0ro s0nil (hS.ro 0 rfl))), trivial⟩ fun _ wd4 H5 hb => ?_
 clear H2
 replace hS := hS.below hb
 clear hb
 refine w_if H5 rfl (fun hc => ?c16) (fun hc => ?_)
 case c16 =>
  replace hm := bT hc hm
  obtain ⟨y6, hy6, hm⟩ := bindE hm
  obtain ⟨y7, hy7, hm⟩ := bindE hm
  refine s_reg [(vI y6), (.bool (token_first y6)), (.bool y7)] [4] [(4, [], .bool (cond (token_first y6) true y7))] [fun wz => RetB Tryz.prog 45 ⟨[vP b_c, vI n_]⟩ (vI y6) wz, fun wz => RetB Tryz.prog 51 ⟨[vI y6]⟩ (.bool (token_first y6)) wz, fun wz => ((token_first y6) = false ∧ True → RetB Tryz.prog 52 ⟨[vP b_c, vI n_]⟩ (.bool y7) wz)] H5 (by kernel_rfl) ⟨(token_scanner_peek_ok (b_c := b_c) _ _ _ _ hy6 _ (s0ro s0nil (hS.ro 0 rfl))), ((token_first_ok _).b), fun hg => token_scanner_escape_ok (b_c := b_c) _ _ _ _ (bF (hg.1) hy7) _ (s0ro s0nil (hS.ro 0 rfl)), trivial⟩ fun _ wd8 H9 hb => ?_
  clear H5
  replace hS := hS.below hb
  clear hb
  replace hS : SH M X w [] _ := hS.sel [] rfl
  refine w_ret ?_
  obtain rfl := someE hm
  exact retR1 H9 rfl rfl ⟨_, rfl, rfl, (hS.sel [] rfl)⟩
 replace hm := bF hc hm
 refine w_skip ?_
 obtain ⟨y10, hy10, hm⟩ := bindE hm
 obtain ⟨y11, hy11, hm⟩ := bindE hm
 obtain ⟨y12, hy12, hm⟩ := bindE hm
 obtain ⟨x13, hx13, hm⟩ := letE hm
 refine s_reg [(vI y10), (.bool (token_first y10)), (vI y11), (.bool y12)] [4] [(4, [], .bool x13)] [fun wz => RetB Tryz.prog 45 ⟨[vP b_c, vI (w64 (n_ + 1))]⟩ (vI y10) wz, fun wz => RetB Tryz.prog 51 ⟨[vI y10]⟩ (.bool (token_first y10)) wz, fun wz => ((token_first y10) = false ∧ True → RetB Tryz.prog 45 ⟨[vP b_c, vI (w64 (n_ + 1))]⟩ (vI y11) wz), fun wz => ((cond (token_first y10) true (y11 == 45)) = false ∧ True → RetB Tryz.prog 52 ⟨[vP b_c, vI (w64 (n_ + 1))]⟩ (.bool y12) wz)] H5 (by subst hx13; kernel_rfl) ⟨(token_scanner_peek_ok (b_c := b_c) _ _ _ _ hy10 _ (s0ro s0nil (hS.ro 0 rfl))), ((token_first_ok _).b), fun hg => token_scanner_peek_ok (b_c := b_c) _ _ _ _ (bF (hg.1) hy11) _ (s0ro s0nil (hS.ro 0 rfl)), fun hg => token_scanner_escape_ok (b_c := b_c) _ _ _ _ (bF (hg.1) hy12) _ (s0ro s0nil (hS.ro 0 rfl)), trivial⟩ fun _ wd14 H15 hb => ?_
 clear H5
 replace hS := hS.below hb
 clear hb
 replace hS : SH M X w [] _ := hS.sel [] rfl
 refine w_ret ?_
 obtain rfl := someE hm
 exact retR1 H15 rfl rfl ⟨_, rfl, rfl, (hS.sel [] rfl)⟩
theorem token_scanner_name_ok {b_c : Nat} (c_s : Str) (c_at_ : Int) (n_ : Int) (r : Bool) (hm : token_scanner_name c_s c_at_ n_ = some r) (w : World) (hL : S0 F0 [Ent.ro b_c [vS c_s, vI c_at_]] w ∧ fpl [Ent.ro b_c [vS c_s, vI c_at_]] = []) : RetB Tryz.prog 35 ⟨[vP b_c, vI n_]⟩ (.bool r) w := retB_of hL (Tryz.call35 _) (fun w' h => token_scanner_name_w F0   c_s c_at_ n_ r hm w' h)

theorem token_scanner_word_w {b_c : Nat} (M : Av) (m : Nat) (c_s : Str) (c_at_ : Int) (r : Str × Int) (hm : token_scanner_word m c_s c_at_ = some r) (w : World) (hS : S0 M [eB b_c [vS c_s, vI c_at_]] w) : Calls Tryz.prog 36 ⟨[vP b_c]⟩ w (fun e w' => ∃ v, e = .returned v ∧ v = .string ⟨⟨r.1⟩⟩ ∧ SH M (fpl [eB b_c [vS c_s, vI c_at_]]) w [eB b_c [vS c_s, vI r.2]] w') := by
 rw [token_scanner_word] at hm
 have hS0 : SH M (fpl [eB b_c [vS c_s, vI c_at_]]) w [eB b_c [vS c_s, vI c_at_]] w := hS
 generalize hX : fpl [eB b_c [vS c_s, vI c_at_]] = X at hS0 ⊢
 clear hS hX
 have hS := hS0
 clear hS0
 refine calls_entryP Tryz.func36 rfl Tryz.ntmps36 rfl fun _ H => ?_
 refine s_reg [] [0] [(0, [], vP b_c)] [] H (by kernel_rfl) trivial fun _ wd1 H2 hb => ?_
 clear H
 replace hS := hS.below hb
 clear hb
 refine s_reg [] [0, 3] [(0, [], vP b_c), (3, [], vO)] [] H2 (by kernel_rfl) trivial fun _ wd3 H4 hb => ?_
 clear H2
 replace hS := hS.below hb
 clear hb
 refine w_block ?_
 replace hS : SH M X w [eO 5 (tI .u8) ([] : List Int) (.nil), eB b_c [vS c_s, vI c_at_]] _ := hS.addNil 5 (tI .u8)
 refine w_loop (fun kk a' w' => ∃ (v6 : List Int) (v8 : Int) (g7 : Gh), token_scanner_word_L1 m c_s kk v6 v8 = some _ ∧ Fr 34 [(0, [], vP b_c), (3, [], vL g7 v6)] a' ∧ SH M X w [eO 5 (tI .u8) v6 g7, eB b_c [vS c_s, vI v8]] w') ⟨_, ([] : List Int), c_at_, Gh.nil, hm, FrG.keep (ks := [0, 3]) H4 (by kernel_rfl), hS⟩ ?_
 clear hm H4 hS
 rintro kk _ wd47 ⟨v6, v8, g7, hm, H, hS⟩
 cases kk with
 | zero => exact noneE hm
 | succ kk =>
  rw [token_scanner_word_L1] at hm
  refine w_block ?_
  obtain ⟨y9, hy9, hm⟩ := bindE hm
  refine s_reg [(vI y9)] [0, 3, 4] [(0, [], vP b_c), (3, [], vL g7 v6), (4, [], vI y9)] [fun wz => RetB Tryz.prog 45 ⟨[vP b_c, vI 0]⟩ (vI y9) wz] H (by kernel_rfl) ⟨(token_scanner_peek_ok (b_c := b_c) _ _ _ _ hy9 _ (s0ro s0nil (hS.bk 1 rfl))), trivial⟩ fun _ wd10 H11 hb => ?_
  clear H
  replace hS := hS.below hb
  clear hb
  refine w_block ?_
  refine s_reg [(.bool (token_letter y9))] [0, 3, 4, 9] [(0, [], vP b_c), (3, [], vL g7 v6), (4, [], vI y9), (9, [], .bool (token_letter y9))] [fun wz => RetB Tryz.prog 53 ⟨[vI y9]⟩ (.bool (token_letter y9)) wz] H11 (by kernel_rfl) ⟨((token_letter_ok _).b), trivial⟩ fun _ wd12 H13 hb => ?_
  clear H11
  replace hS := hS.below hb
  clear hb
  refine w_if H13 rfl (fun hc => ?_) (fun hc => ?c46)
  case c46 =>
   replace hm := bF hc hm
   obtain ⟨y31, hy31, hm⟩ := bindE hm
   refine s_reg [(.bool y31)] [0, 3, 24] [(0, [], vP b_c), (3, [], vL g7 v6), (24, [], .bool (cond (y9 != (-1)) y31 false))] [fun wz => ((y9 != (-1)) = true ∧ True → RetB Tryz.prog 52 ⟨[vP b_c, vI 0]⟩ (.bool y31) wz)] H13 (by kernel_rfl) ⟨fun hg => token_scanner_escape_ok (b_c := b_c) _ _ _ _ (bT (hg.1) hy31) _ (s0ro s0nil (hS.bk 1 rfl)), trivial⟩ fun _ wd32 H33 hb => ?_
   clear H13
   replace hS := hS.below hb
   clear hb
   refine w_if H33 rfl (fun hc => ?_) (fun hc => ?c45)
   case c45 =>
    replace hm := bF hc hm
    refine s_reg [(.string ⟨⟨toB v6⟩⟩)] [2] [(2, [], .string ⟨⟨toB v6⟩⟩)] [fun wz => ∀ w', Below wz.heap.size wz w' → (convert 49 9 (vL g7 v6)).run Tryz.prog w' = .ok (.string ⟨⟨toB v6⟩⟩) w'] H33 (by kernel_rfl) ⟨(conv_slG (E := 5) (by kernel_rfl) (by kernel_rfl) (by kernel_rfl) (hS.osl 0 rfl)), trivial⟩ fun _ wd43 H44 hb => ?_
    clear H33
    replace hS := hS.below hb
    clear hb
    refine w_ret ?_
    obtain rfl := someE hm
    exact retR1 H44 rfl rfl ⟨_, rfl, rfl, (hS.sel [1] rfl)⟩
   replace hm := bT hc hm
   refine wl_start ?_
   refine wl_batch 0 2 [] [0, 31, 32] [(0, [], vP b_c), (31, [], vP b_c), (32, [], vL g7 v6)] [] H33 (by decide) (by kernel_rfl) trivial fun _ wd34 H35 hb => ?_
   clear H33
   replace hS := hS.below hb
   clear hb
   obtain ⟨y36, hy36, hm⟩ := bindE hm
   have hd := hS.hand [1, 0] [] rfl rfl
   refine m_stp [33, 0] [(0, [], vP b_c)] H35 rfl rfl rfl rfl (o_callx H35 rfl rfl (token_scanner_escaped_ok (b_c := b_c) (g_b_ := g7) m _ _ _ _ hy36 _ _ hd)) (fun _ => rfl) fun _ wd39 v H40 hq => ?_
   clear H35 hd
   obtain ⟨g37, rfl, hq⟩ := hq
   replace hS : SH M X w [eO 5 (tI .u8) y36.1 g37, eB b_c [vS c_s, vI y36.2]] _ := hS.join [1, 0] [] rfl rfl hq
   clear hq
   refine wl_batch 3 4 [] [0, 3] [(0, [], vP b_c), (3, [], .slice g37.a y36.1.length g37.c)] [] H40 (by decide) (by kernel_rfl) trivial fun _ wd41 H42 hb => ?_
   clear H40
   replace hS := hS.below hb
   clear hb
   refine wl_end rfl ?_
   exact ⟨_, Nat.lt_succ_self _, y36.1, y36.2, g37, hm, FrG.keep (ks := [0, 3]) H42 (by kernel_rfl), hS⟩
  replace hm := bT hc hm
  refine w_seq ?_
  refine wl_start ?_
  refine wl_batch 0 3 [] [0, 12, 14] [(0, [], vP b_c), (12, [], vL g7 v6), (14, [], vU (wu8 y9))] [] H13 (by decide) (by kernel_rfl) trivial fun _ wd14 H15 hb => ?_
  clear H13
  replace hS := hS.below hb
  clear hb
  have hd := hS.hand [] [0, 1] rfl rfl
  refine m_stp [15, 0, 12] [(0, [], vP b_c), (12, [], vL g7 v6)] H15 rfl rfl rfl rfl (o_lit (T := (tI .u8)) (E := 5) (zv := vU 0) [vU (wu8 y9)] ([wu8 y9] : List Int) [gL []] _ H15 hd rfl (by kernel_rfl) (by kernel_rfl) (by kernel_rfl) (by kernel_rfl) (by kernel_rfl) (by kernel_rfl) (by kernel_rfl) rfl (InnL.cons trivial InnL.nil)) (fun _ => rfl) fun _ wd18 v H19 hq => ?_
  clear H15 hd
  obtain ⟨g16, rfl, hq⟩ := hq
  replace hS : SH M X w [eO 5 (tI .u8) ([wu8 y9] : List Int) g16, eO 5 (tI .u8) v6 g7, eB b_c [vS c_s, vI v8]] _ := hS.join [] [0, 1] rfl rfl hq
  clear hq
  obtain ⟨ho20, hm⟩ := chkE hm
  obtain ⟨q21, hq21, hm⟩ := letE hm
  have hd := hS.hand [1, 0] [2] rfl rfl
  refine m_stp [16, 0] [(0, [], vP b_c)] H19 rfl rfl rfl rfl (o_app2 (T := (tI .u8)) (zv := vU 0) (g1 := g7) (g2 := g16) (l1 := v6) (l2 := ([wu8 y9] : List Int)) q21 hq21.symm H19 hd rfl rfl rfl rfl rfl rfl rfl (by kernel_rfl) (by kernel_rfl) rfl rfl ho20) (fun _ => rfl) fun _ wd22 v H23 hq => ?_
  clear H19 hd
  obtain ⟨g24, rfl, hq⟩ := hq
  replace hS : SH M X w [eO 5 (tI .u8) q21 g24, eO 5 (tI .u8) ([wu8 y9] : List Int) g16, eB b_c [vS c_s, vI v8]] _ := hS.join [1, 0] [2] rfl rfl hq
  clear hq
  refine wl_batch 5 6 [] [0, 3] [(0, [], vP b_c), (3, [], vL g24 q21)] [] H23 (by decide) (by kernel_rfl) trivial fun _ wd25 H26 hb => ?_
  clear H23
  replace hS := hS.below hb
  clear hb
  refine wl_end rfl ?_
  replace hS : SH M X w [eO 5 (tI .u8) q21 g24, eB b_c [vS c_s, vI v8]] _ := hS.sel [0, 2] rfl
  refine wl_start ?_
  refine wl_batch 0 7 [(vI v8)] [0, 3, 21, 23] [(0, [], vP b_c), (3, [], vL g24 q21), (21, [], vI (w64 (v8 + 1))), (23, [], vA b_c 1)] [fun wz => V.at1 ⟨b_c, 1, none⟩ (vI v8) wz] H26 (by decide) (by kernel_rfl) ⟨((hS.bk 1 rfl).at1 rfl), trivial⟩ fun _ wd27 H28 hb => ?_
  clear H26
  replace hS := hS.below hb
  clear hb
  have hd := hS.hand [1] [0] rfl rfl
  refine m_stp0 [0, 3] [(0, [], vP b_c), (3, [], vL g24 q21)] H28 rfl rfl rfl (o_store [vS c_s, vI (w64 (v8 + 1))] H28 hd rfl rfl (by kernel_rfl) rfl rfl rfl) rfl fun _ wd29 H30 hq => ?_
  clear H28 hd
  obtain ⟨_, hq⟩ := hq
  replace hS : SH M X w [eB b_c [vS c_s, vI (w64 (v8 + 1))], eO 5 (tI .u8) q21 g24] _ := hS.join [1] [0] rfl rfl hq
  clear hq
  refine wl_end rfl ?_
  replace hS : SH M X w [eO 5 (tI .u8) q21 g24, eB b_c [vS c_s, vI (w64 (v8 + 1))]] _ := hS.sel [1, 0] rfl
  exact ⟨_, Nat.lt_succ_self _, q21, w64 (v8 + 1), g24, hm, FrG.keep (ks := [0, 3]) H30 (by kernel_rfl), hS⟩
theorem token_scanner_word_ok {b_c : Nat} (m : Nat) (c_s : Str) (c_at_ : Int) (r : Str × Int) (hm : token_scanner_word m c_s c_at_ = some r) (M : Av) (w : World) (hS : S0 M [eB b_c [vS c_s, vI c_at_]] w) : DoesX Tryz.prog 36 ⟨[vP b_c]⟩ w (fun v w' => v = .string ⟨⟨r.1⟩⟩ ∧ SH M (fpl [eB b_c [vS c_s, vI c_at_]]) w [eB b_c [vS c_s, vI r.2]] w') := ⟨Tryz.call36 _, token_scanner_word_w M m   c_s c_at_ r hm w hS⟩

theorem token_scanner_number_w {b_c : Nat} (M : Av) (c_s : Str) (c_at_ : Int) (r : Bool) (hm : token_scanner_number c_s c_at_ = some r) (w : World) (hS : S0 M [Ent.ro b_c [vS c_s, vI c_at_]] w) : Calls Tryz.prog 32 ⟨[vP b_c]⟩ w (fun e w' => ∃ v, e = .returned v ∧ v = .bool r ∧ SH M (fpl [Ent.ro b_c [vS c_s, vI c_at_]]) w [] w') := by
 rw [token_scanner_number] at hm
 have hS0 : SH M (fpl [Ent.ro b_c [vS c_s, vI c_at_]]) w [Ent.ro b_c [vS c_s, vI c_at_]] w := hS
 generalize hX : fpl [Ent.ro b_c [vS c_s, vI c_at_]] = X at hS0 ⊢
 clear hS hX
 have hS := hS0
 clear hS0
 refine calls_entryP Tryz.func32 rfl Tryz.ntmps32 rfl fun _ H => ?_
 refine s_reg [] [0] [(0, [], vP b_c)] [] H (by kernel_rfl) trivial fun _ wd1 H2 hb => ?_
 clear H
 replace hS := hS.below hb
 clear hb
 refine s_reg [] [0, 3] [(0, [], vP b_c), (3, [], vI 0)] [] H2 (by kernel_rfl) trivial fun _ wd3 H4 hb => ?_
 clear H2
 replace hS := hS.below hb
 clear hb
 obtain ⟨z5, hz, hm⟩ := bindE hm
 refine w_cut (fun a' w' => Fr 25 [(0, [], vP b_c), (3, [], vI z5)] a' ∧ SH M X w [Ent.ro b_c [vS c_s, vI c_at_]] w') ?_ ?_
 ·replace hm := hz
  obtain ⟨y6, hy6, hm⟩ := bindE hm
  refine s_reg [(vI y6)] [0, 3, 4] [(0, [], vP b_c), (3, [], vI 0), (4, [], vI y6)] [fun wz => RetB Tryz.prog 45 ⟨[vP b_c, vI 0]⟩ (vI y6) wz] H4 (by kernel_rfl) ⟨(token_scanner_peek_ok (b_c := b_c) _ _ _ _ hy6 _ (s0ro s0nil (hS.ro 0 rfl))), trivial⟩ fun _ wd7 H8 hb => ?_
  clear H4
  replace hS := hS.below hb
  clear hb
  refine s_reg [] [0, 3, 12] [(0, [], vP b_c), (3, [], vI 0), (12, [], .bool (cond (y6 == 43) true (y6 == 45)))] [] H8 (by kernel_rfl) trivial fun _ wd9 H10 hb => ?_
  clear H8
  replace hS := hS.below hb
  clear hb
  refine w_if H10 rfl (fun hc => ?_) (fun hc => ?c13)
  case c13 =>
   replace hm := bF hc hm
   refine w_skip ?_
   obtain rfl := someE hm
   exact ⟨FrG.keep (ks := [0, 3]) H10 (by kernel_rfl), hS⟩
  replace hm := bT hc hm
  refine w_reg [] [0, 3] [(0, [], vP b_c), (3, [], vI 1)] [] H10 (by kernel_rfl) trivial fun _ wd11 H12 hb => ?_
  clear H10
  replace hS := hS.below hb
  clear hb
  obtain rfl := someE hm
  exact ⟨FrG.keep (ks := [0, 3]) H12 (by kernel_rfl), hS⟩
 ·rintro _ wd25 ⟨H, hS⟩
  obtain ⟨z14, hz, hm⟩ := bindE hm
  refine w_cut (fun a' w' => Fr 25 [(0, [], vP b_c), (3, [], vI z14)] a' ∧ SH M X w [Ent.ro b_c [vS c_s, vI c_at_]] w') ?_ ?_
  ·replace hm := hz
   obtain ⟨y15, hy15, hm⟩ := bindE hm
   refine s_reg [(vI y15)] [0, 3, 18] [(0, [], vP b_c), (3, [], vI z5), (18, [], .bool (y15 == 46))] [fun wz => RetB Tryz.prog 45 ⟨[vP b_c, vI z5]⟩ (vI y15) wz] H (by kernel_rfl) ⟨(token_scanner_peek_ok (b_c := b_c) _ _ _ _ hy15 _ (s0ro s0nil (hS.ro 0 rfl))), trivial⟩ fun _ wd16 H17 hb => ?_
   clear H
   replace hS := hS.below hb
   clear hb
   refine w_if H17 rfl (fun hc => ?_) (fun hc => ?c20)
   case c20 =>
    replace hm := bF hc hm
    refine w_skip ?_
    obtain rfl := someE hm
    exact ⟨FrG.keep (ks := [0, 3]) H17 (by kernel_rfl), hS⟩
   replace hm := bT hc hm
   refine w_reg [] [0, 3] [(0, [], vP b_c), (3, [], vI (w64 (z5 + 1)))] [] H17 (by kernel_rfl) trivial fun _ wd18 H19 hb => ?_
   clear H17
   replace hS := hS.below hb
   clear hb
   obtain rfl := someE hm
   exact ⟨FrG.keep (ks := [0, 3]) H19 (by kernel_rfl), hS⟩
  ·rintro _ wd24 ⟨H, hS⟩
   obtain ⟨y21, hy21, hm⟩ := bindE hm
   refine s_reg [(vI y21), (.bool (token_digit y21))] [2] [(2, [], .bool (token_digit y21))] [fun wz => RetB Tryz.prog 45 ⟨[vP b_c, vI z14]⟩ (vI y21) wz, fun wz => RetB Tryz.prog 46 ⟨[vI y21]⟩ (.bool (token_digit y21)) wz] H (by kernel_rfl) ⟨(token_scanner_peek_ok (b_c := b_c) _ _ _ _ hy21 _ (s0ro s0nil (hS.ro 0 rfl))), ((token_digit_ok _).b), trivial⟩ fun _ wd22 H23 hb => ?_
   clear H
   replace hS := hS.below hb
   clear hb
   replace hS : SH M X w [] _ := hS.sel [] rfl
   refine w_ret ?_
   obtain rfl := someE hm
   exact retR1 H23 rfl rfl ⟨_, rfl, rfl, (hS.sel [] rfl)⟩
theorem token_scanner_number_ok {b_c : Nat} (c_s : Str) (c_at_ : Int) (r : Bool) (hm : token_scanner_number c_s c_at_ = some r) (w : World) (hL : S0 F0 [Ent.ro b_c [vS c_s, vI c_at_]] w ∧ fpl [Ent.ro b_c [vS c_s, vI c_at_]] = []) : RetB Tryz.prog 32 ⟨[vP b_c]⟩ (.bool r) w := retB_of hL (Tryz.call32 _) (fun w' h => token_scanner_number_w F0   c_s c_at_ r hm w' h)

theorem token_scanner_while_2_w {b_c : Nat} (M : Av) (m : Nat) (c_s : Str) (c_at_ : Int) (r : Int) (hm : token_scanner_while_2 m c_s c_at_ = some r) (w : World) (hS : S0 M [eB b_c [vS c_s, vI c_at_]] w) : Calls Tryz.prog 47 ⟨[vP b_c, .func (.func 46) ⟨[]⟩ ⟨[]⟩]⟩ w (fun e w' => ∃ v, e = .returned v ∧ v = .tuple ⟨[]⟩ ∧ SH M (fpl [eB b_c [vS c_s, vI c_at_]]) w [eB b_c [vS c_s, vI r]] w') := by
 rw [token_scanner_while_2] at hm
 have hS0 : SH M (fpl [eB b_c [vS c_s, vI c_at_]]) w [eB b_c [vS c_s, vI c_at_]] w := hS
 generalize hX : fpl [eB b_c [vS c_s, vI c_at_]] = X at hS0 ⊢
 clear hS hX
 have hS := hS0
 clear hS0
 refine calls_entryP Tryz.func47 rfl Tryz.ntmps47 rfl fun _ H => ?_
 refine w_block ?_
 refine w_loop (fun kk a' w' => ∃ (v1 : Int), token_scanner_while_2_L1 m c_s kk v1 = some _ ∧ Fr 15 [(0, [], vP b_c), (1, [], .func (.func 46) ⟨[]⟩ ⟨[]⟩)] a' ∧ SH M X w [eB b_c [vS c_s, vI v1]] w') ⟨_, c_at_, hm, FrG.keep (ks := [0, 1]) H (by kernel_rfl), hS⟩ ?_
 clear hm H hS
 rintro kk _ wd10 ⟨v1, hm, H, hS⟩
 cases kk with
 | zero => exact noneE hm
 | succ kk =>
  rw [token_scanner_while_2_L1] at hm
  refine w_seq ?_
  obtain ⟨y2, hy2, hm⟩ := bindE hm
  refine s_reg [(vI y2), (.bool (token_digit y2))] [0, 1, 7] [(0, [], vP b_c), (1, [], .func (.func 46) ⟨[]⟩ ⟨[]⟩), (7, [], .bool (token_digit y2))] [fun wz => RetB Tryz.prog 45 ⟨[vP b_c, vI 0]⟩ (vI y2) wz, fun wz => RetB Tryz.prog 46 ⟨[vI y2]⟩ (.bool (token_digit y2)) wz] H (by kernel_rfl) ⟨(token_scanner_peek_ok (b_c := b_c) _ _ _ _ hy2 _ (s0ro s0nil (hS.bk 0 rfl))), ((token_digit_ok _).b), trivial⟩ fun _ wd3 H4 hb => ?_
  clear H
  replace hS := hS.below hb
  clear hb
  refine w_if H4 rfl (fun hc => ?_) (fun hc => ?c9)
  case c9 =>
   replace hm := bF hc hm
   refine w_exit rfl ?_
   obtain rfl := someE hm
   try dsimp only
   exact retR0 H4 rfl ⟨_, rfl, rfl, (hS.sel [0] rfl)⟩
  replace hm := bT hc hm
  refine w_skip ?_
  refine w_block ?_
  refine wl_start ?_
  refine wl_batch 0 7 [(vI v1)] [0, 1, 12, 14] [(0, [], vP b_c), (1, [], .func (.func 46) ⟨[]⟩ ⟨[]⟩), (12, [], vI (w64 (v1 + 1))), (14, [], vA b_c 1)] [fun wz => V.at1 ⟨b_c, 1, none⟩ (vI v1) wz] H4 (by decide) (by kernel_rfl) ⟨((hS.bk 0 rfl).at1 rfl), trivial⟩ fun _ wd5 H6 hb => ?_
  clear H4
  replace hS := hS.below hb
  clear hb
  have hd := hS.hand [0] [] rfl rfl
  refine m_stp0 [0, 1] [(0, [], vP b_c), (1, [], .func (.func 46) ⟨[]⟩ ⟨[]⟩)] H6 rfl rfl rfl (o_store [vS c_s, vI (w64 (v1 + 1))] H6 hd rfl rfl (by kernel_rfl) rfl rfl rfl) rfl fun _ wd7 H8 hq => ?_
  clear H6 hd
  obtain ⟨_, hq⟩ := hq
  replace hS : SH M X w [eB b_c [vS c_s, vI (w64 (v1 + 1))]] _ := hS.join [0] [] rfl rfl hq
  clear hq
  refine wl_end rfl ?_
  exact ⟨_, Nat.lt_succ_self _, w64 (v1 + 1), hm, FrG.keep (ks := [0, 1]) H8 (by kernel_rfl), hS⟩
theorem token_scanner_while_2_ok {b_c : Nat} (m : Nat) (c_s : Str) (c_at_ : Int) (r : Int) (hm : token_scanner_while_2 m c_s c_at_ = some r) (M : Av) (w : World) (hS : S0 M [eB b_c [vS c_s, vI c_at_]] w) : DoesX Tryz.prog 47 ⟨[vP b_c, .func (.func 46) ⟨[]⟩ ⟨[]⟩]⟩ w (fun v w' => v = .tuple ⟨[]⟩ ∧ SH M (fpl [eB b_c [vS c_s, vI c_at_]]) w [eB b_c [vS c_s, vI r]] w') := ⟨Tryz.call47 _, token_scanner_while_2_w M m   c_s c_at_ r hm w hS⟩

theorem token_scanner_figures_w {b_c : Nat} (M : Av) (m : Nat) (c_s : Str) (c_at_ : Int) (r : Bool × Int) (hm : token_scanner_figures m c_s c_at_ = some r) (w : World) (hS : S0 M [eB b_c [vS c_s, vI c_at_]] w) : Calls Tryz.prog 33 ⟨[vP b_c]⟩ w (fun e w' => ∃ v, e = .returned v ∧ v = .bool r.1 ∧ SH M (fpl [eB b_c [vS c_s, vI c_at_]]) w [eB b_c [vS c_s, vI r.2]] w') := by
 rw [token_scanner_figures] at hm
 have hS0 : SH M (fpl [eB b_c [vS c_s, vI c_at_]]) w [eB b_c [vS c_s, vI c_at_]] w := hS
 generalize hX : fpl [eB b_c [vS c_s, vI c_at_]] = X at hS0 ⊢
 clear hS hX
 have hS := hS0
 clear hS0
 refine calls_entryP Tryz.func33 rfl Tryz.ntmps33 rfl fun _ H => ?_
 refine s_reg [] [0] [(0, [], vP b_c)] [] H (by kernel_rfl) trivial fun _ wd1 H2 hb => ?_
 clear H
 replace hS := hS.below hb
 clear hb
 obtain ⟨z3, hz, hm⟩ := bindE hm
 refine w_cut (fun a' w' => Fr 74 [(0, [], vP b_c)] a' ∧ SH M X w [eB b_c [vS c_s, vI z3]] w') ?_ ?_
 ·replace hm := hz
  obtain ⟨y4, hy4, hm⟩ := bindE hm
  refine s_reg [(vI y4)] [0, 3] [(0, [], vP b_c), (3, [], vI y4)] [fun wz => RetB Tryz.prog 45 ⟨[vP b_c, vI 0]⟩ (vI y4) wz] H2 (by kernel_rfl) ⟨(token_scanner_peek_ok (b_c := b_c) _ _ _ _ hy4 _ (s0ro s0nil (hS.bk 0 rfl))), trivial⟩ fun _ wd5 H6 hb => ?_
  clear H2
  replace hS := hS.below hb
  clear hb
  refine s_reg [] [0, 14] [(0, [], vP b_c), (14, [], .bool (cond (y4 == 43) true (y4 == 45)))] [] H6 (by kernel_rfl) trivial fun _ wd7 H8 hb => ?_
  clear H6
  replace hS := hS.below hb
  clear hb
  refine w_if H8 rfl (fun hc => ?_) (fun hc => ?c13)
  case c13 =>
   replace hm := bF hc hm
   refine w_skip ?_
   obtain rfl := someE hm
   exact ⟨FrG.keep (ks := [0]) H8 (by kernel_rfl), hS⟩
  replace hm := bT hc hm
  refine wl_start ?_
  refine wl_batch 0 7 [(vI c_at_)] [0, 19, 21] [(0, [], vP b_c), (19, [], vI (w64 (c_at_ + 1))), (21, [], vA b_c 1)] [fun wz => V.at1 ⟨b_c, 1, none⟩ (vI c_at_) wz] H8 (by decide) (by kernel_rfl) ⟨((hS.bk 0 rfl).at1 rfl), trivial⟩ fun _ wd9 H10 hb => ?_
  clear H8
  replace hS := hS.below hb
  clear hb
  have hd := hS.hand [0] [] rfl rfl
  refine m_stp0 [0] [(0, [], vP b_c)] H10 rfl rfl rfl (o_store [vS c_s, vI (w64 (c_at_ + 1))] H10 hd rfl rfl (by kernel_rfl) rfl rfl rfl) rfl fun _ wd11 H12 hq => ?_
  clear H10 hd
  obtain ⟨_, hq⟩ := hq
  replace hS : SH M X w [eB b_c [vS c_s, vI (w64 (c_at_ + 1))]] _ := hS.join [0] [] rfl rfl hq
  clear hq
  refine wl_end rfl ?_
  obtain rfl := someE hm
  exact ⟨FrG.keep (ks := [0]) H12 (by kernel_rfl), hS⟩
 ·rintro _ wd75 ⟨H, hS⟩
  refine w_seq ?_
  refine wl_start ?_
  refine wl_batch 0 1 [] [0, 22] [(0, [], vP b_c), (22, [], vP b_c)] [] H (by decide) (by kernel_rfl) trivial fun _ wd14 H15 hb => ?_
  clear H
  replace hS := hS.below hb
  clear hb
  obtain ⟨y16, hy16, hm⟩ := bindE hm
  have hd := hS.hand [0] [] rfl rfl
  refine m_stp [23, 0] [(0, [], vP b_c)] H15 rfl rfl rfl rfl (o_callx H15 rfl rfl (token_scanner_while_2_ok (b_c := b_c) m _ _ _ hy16 _ _ hd)) (fun _ => rfl) fun _ wd17 v H18 hq => ?_
  clear H15 hd
  obtain ⟨rfl, hq⟩ := hq
  replace hS : SH M X w [eB b_c [vS c_s, vI y16]] _ := hS.join [0] [] rfl rfl hq
  clear hq
  refine wl_end rfl ?_
  refine s_reg [] [0, 4] [(0, [], vP b_c), (4, [], vT)] [] H18 (by kernel_rfl) trivial fun _ wd19 H20 hb => ?_
  clear H18
  replace hS := hS.below hb
  clear hb
  obtain ⟨z21, hz, hm⟩ := bindE hm
  refine w_cut (fun a' w' => Fr 74 [(0, [], vP b_c), (4, [], .bool z21.1)] a' ∧ SH M X w [eB b_c [vS c_s, vI z21.2]] w') ?_ ?_
  ·replace hm := hz
   obtain ⟨y22, hy22, hm⟩ := bindE hm
   obtain ⟨y23, hy23, hm⟩ := bindE hm
   refine s_reg [(vI y22), (vI y23), (.bool (token_digit y23))] [0, 4, 31] [(0, [], vP b_c), (4, [], vT), (31, [], .bool (cond (y22 == 46) (token_digit y23) false))] [fun wz => RetB Tryz.prog 45 ⟨[vP b_c, vI 0]⟩ (vI y22) wz, fun wz => ((y22 == 46) = true ∧ True → RetB Tryz.prog 45 ⟨[vP b_c, vI 1]⟩ (vI y23) wz), fun wz => ((y22 == 46) = true ∧ True → RetB Tryz.prog 46 ⟨[vI y23]⟩ (.bool (token_digit y23)) wz)] H20 (by kernel_rfl) ⟨(token_scanner_peek_ok (b_c := b_c) _ _ _ _ hy22 _ (s0ro s0nil (hS.bk 0 rfl))), fun hg => token_scanner_peek_ok (b_c := b_c) _ _ _ _ (bT (hg.1) hy23) _ (s0ro s0nil (hS.bk 0 rfl)), fun hg => (token_digit_ok _).b, trivial⟩ fun _ wd24 H25 hb => ?_
   clear H20
   replace hS := hS.below hb
   clear hb
   refine w_if H25 rfl (fun hc => ?_) (fun hc => ?c37)
   case c37 =>
    replace hm := bF hc hm
    refine w_skip ?_
    obtain rfl := someE hm
    exact ⟨FrG.keep (ks := [0, 4]) H25 (by kernel_rfl), hS⟩
   replace hm := bT hc hm
   refine w_seq ?_
   refine wl_start ?_
   refine wl_batch 0 7 [(vI y16)] [0, 36, 38] [(0, [], vP b_c), (36, [], vI (w64 (y16 + 1))), (38, [], vA b_c 1)] [fun wz => V.at1 ⟨b_c, 1, none⟩ (vI y16) wz] H25 (by decide) (by kernel_rfl) ⟨((hS.bk 0 rfl).at1 rfl), trivial⟩ fun _ wd26 H27 hb => ?_
   clear H25
   replace hS := hS.below hb
   clear hb
   have hd := hS.hand [0] [] rfl rfl
   refine m_stp0 [0] [(0, [], vP b_c)] H27 rfl rfl rfl (o_store [vS c_s, vI (w64 (y16 + 1))] H27 hd rfl rfl (by kernel_rfl) rfl rfl rfl) rfl fun _ wd28 H29 hq => ?_
   clear H27 hd
   obtain ⟨_, hq⟩ := hq
   replace hS : SH M X w [eB b_c [vS c_s, vI (w64 (y16 + 1))]] _ := hS.join [0] [] rfl rfl hq
   clear hq
   refine wl_end rfl ?_
   refine w_seq ?_
   refine wl_start ?_
   refine wl_batch 0 1 [] [0, 39] [(0, [], vP b_c), (39, [], vP b_c)] [] H29 (by decide) (by kernel_rfl) trivial fun _ wd30 H31 hb => ?_
   clear H29
   replace hS := hS.below hb
   clear hb
   obtain ⟨y32, hy32, hm⟩ := bindE hm
   have hd := hS.hand [0] [] rfl rfl
   refine m_stp [40, 0] [(0, [], vP b_c)] H31 rfl rfl rfl rfl (o_callx H31 rfl rfl (token_scanner_while_2_ok (b_c := b_c) m _ _ _ hy32 _ _ hd)) (fun _ => rfl) fun _ wd33 v H34 hq => ?_
   clear H31 hd
   obtain ⟨rfl, hq⟩ := hq
   replace hS : SH M X w [eB b_c [vS c_s, vI y32]] _ := hS.join [0] [] rfl rfl hq
   clear hq
   refine wl_end rfl ?_
   refine w_reg [] [0, 4] [(0, [], vP b_c), (4, [], vF)] [] H34 (by kernel_rfl) trivial fun _ wd35 H36 hb => ?_
   clear H34
   replace hS := hS.below hb
   clear hb
   obtain rfl := someE hm
   exact ⟨FrG.keep (ks := [0, 4]) H36 (by kernel_rfl), hS⟩
  ·rintro _ wd74 ⟨H, hS⟩
   obtain ⟨z38, hz, hm⟩ := bindE hm
   refine w_cut (fun a' w' => Fr 74 [(4, [], .bool z38.1)] a' ∧ SH M X w [eB b_c [vS c_s, vI z38.2]] w') ?_ ?_
   ·replace hm := hz
    obtain ⟨y39, hy39, hm⟩ := bindE hm
    obtain ⟨y40, hy40, hm⟩ := bindE hm
    refine s_reg [(vI y39), (vI y40)] [0, 4, 48] [(0, [], vP b_c), (4, [], .bool z21.1), (48, [], .bool (cond (y39 == 101) true (y40 == 69)))] [fun wz => RetB Tryz.prog 45 ⟨[vP b_c, vI 0]⟩ (vI y39) wz, fun wz => ((y39 == 101) = false ∧ True → RetB Tryz.prog 45 ⟨[vP b_c, vI 0]⟩ (vI y40) wz)] H (by kernel_rfl) ⟨(token_scanner_peek_ok (b_c := b_c) _ _ _ _ hy39 _ (s0ro s0nil (hS.bk 0 rfl))), fun hg => token_scanner_peek_ok (b_c := b_c) _ _ _ _ (bF (hg.1) hy40) _ (s0ro s0nil (hS.bk 0 rfl)), trivial⟩ fun _ wd41 H42 hb => ?_
    clear H
    replace hS := hS.below hb
    clear hb
    refine w_if H42 rfl (fun hc => ?_) (fun hc => ?c70)
    case c70 =>
     replace hm := bF hc hm
     refine w_skip ?_
     obtain rfl := someE hm
     exact ⟨FrG.keep (ks := [4]) H42 (by kernel_rfl), hS⟩
    replace hm := bT hc hm
    refine s_reg [] [0, 4, 5] [(0, [], vP b_c), (4, [], .bool z21.1), (5, [], vI 1)] [] H42 (by kernel_rfl) trivial fun _ wd43 H44 hb => ?_
    clear H42
    replace hS := hS.below hb
    clear hb
    obtain ⟨z45, hz, hm⟩ := bindE hm
    refine w_cut (fun a' w' => Fr 74 [(0, [], vP b_c), (4, [], .bool z21.1), (5, [], vI z45)] a' ∧ SH M X w [eB b_c [vS c_s, vI z21.2]] w') ?_ ?_
    ·replace hm := hz
     obtain ⟨y46, hy46, hm⟩ := bindE hm
     refine s_reg [(vI y46)] [0, 4, 5, 6] [(0, [], vP b_c), (4, [], .bool z21.1), (5, [], vI 1), (6, [], vI y46)] [fun wz => RetB Tryz.prog 45 ⟨[vP b_c, vI 1]⟩ (vI y46) wz] H44 (by kernel_rfl) ⟨(token_scanner_peek_ok (b_c := b_c) _ _ _ _ hy46 _ (s0ro s0nil (hS.bk 0 rfl))), trivial⟩ fun _ wd47 H48 hb => ?_
     clear H44
     replace hS := hS.below hb
     clear hb
     refine s_reg [] [0, 4, 5, 56] [(0, [], vP b_c), (4, [], .bool z21.1), (5, [], vI 1), (56, [], .bool (cond (y46 == 43) true (y46 == 45)))] [] H48 (by kernel_rfl) trivial fun _ wd49 H50 hb => ?_
     clear H48
     replace hS := hS.below hb
     clear hb
     refine w_if H50 rfl (fun hc => ?_) (fun hc => ?c53)
     case c53 =>
      replace hm := bF hc hm
      refine w_skip ?_
      obtain rfl := someE hm
      exact ⟨FrG.keep (ks := [0, 4, 5]) H50 (by kernel_rfl), hS⟩
     replace hm := bT hc hm
     refine w_reg [] [0, 4, 5] [(0, [], vP b_c), (4, [], .bool z21.1), (5, [], vI 2)] [] H50 (by kernel_rfl) trivial fun _ wd51 H52 hb => ?_
     clear H50
     replace hS := hS.below hb
     clear hb
     obtain rfl := someE hm
     exact ⟨FrG.keep (ks := [0, 4, 5]) H52 (by kernel_rfl), hS⟩
    ·rintro _ wd69 ⟨H, hS⟩
     obtain ⟨y54, hy54, hm⟩ := bindE hm
     refine s_reg [(vI y54), (.bool (token_digit y54))] [0, 4, 5, 62] [(0, [], vP b_c), (4, [], .bool z21.1), (5, [], vI z45), (62, [], .bool (token_digit y54))] [fun wz => RetB Tryz.prog 45 ⟨[vP b_c, vI z45]⟩ (vI y54) wz, fun wz => RetB Tryz.prog 46 ⟨[vI y54]⟩ (.bool (token_digit y54)) wz] H (by kernel_rfl) ⟨(token_scanner_peek_ok (b_c := b_c) _ _ _ _ hy54 _ (s0ro s0nil (hS.bk 0 rfl))), ((token_digit_ok _).b), trivial⟩ fun _ wd55 H56 hb => ?_
     clear H
     replace hS := hS.below hb
     clear hb
     refine w_if H56 rfl (fun hc => ?_) (fun hc => ?c68)
     case c68 =>
      replace hm := bF hc hm
      refine w_skip ?_
      obtain rfl := someE hm
      exact ⟨FrG.keep (ks := [4]) H56 (by kernel_rfl), hS⟩
     replace hm := bT hc hm
     refine w_seq ?_
     refine wl_start ?_
     refine wl_batch 0 8 [(vI z21.2)] [0, 68, 70] [(0, [], vP b_c), (68, [], vI (w64 (z21.2 + z45))), (70, [], vA b_c 1)] [fun wz => V.at1 ⟨b_c, 1, none⟩ (vI z21.2) wz] H56 (by decide) (by kernel_rfl) ⟨((hS.bk 0 rfl).at1 rfl), trivial⟩ fun _ wd57 H58 hb => ?_
     clear H56
     replace hS := hS.below hb
     clear hb
     have hd := hS.hand [0] [] rfl rfl
     refine m_stp0 [0] [(0, [], vP b_c)] H58 rfl rfl rfl (o_store [vS c_s, vI (w64 (z21.2 + z45))] H58 hd rfl rfl (by kernel_rfl) rfl rfl rfl) rfl fun _ wd59 H60 hq => ?_
     clear H58 hd
     obtain ⟨_, hq⟩ := hq
     replace hS : SH M X w [eB b_c [vS c_s, vI (w64 (z21.2 + z45))]] _ := hS.join [0] [] rfl rfl hq
     clear hq
     refine wl_end rfl ?_
     refine w_seq ?_
     refine wl_start ?_
     refine wl_batch 0 1 [] [71] [(71, [], vP b_c)] [] H60 (by decide) (by kernel_rfl) trivial fun _ wd61 H62 hb => ?_
     clear H60
     replace hS := hS.below hb
     clear hb
     obtain ⟨y63, hy63, hm⟩ := bindE hm
     have hd := hS.hand [0] [] rfl rfl
     refine m_stp [72] [] H62 rfl rfl rfl rfl (o_callx H62 rfl rfl (token_scanner_while_2_ok (b_c := b_c) m _ _ _ hy63 _ _ hd)) (fun _ => rfl) fun _ wd64 v H65 hq => ?_
     clear H62 hd
     obtain ⟨rfl, hq⟩ := hq
     replace hS : SH M X w [eB b_c [vS c_s, vI y63]] _ := hS.join [0] [] rfl rfl hq
     clear hq
     refine wl_end rfl ?_
     refine w_reg [] [4] [(4, [], vF)] [] H65 (by kernel_rfl) trivial fun _ wd66 H67 hb => ?_
     clear H65
     replace hS := hS.below hb
     clear hb
     obtain rfl := someE hm
     exact ⟨FrG.keep (ks := [4]) H67 (by kernel_rfl), hS⟩
   ·rintro _ wd73 ⟨H, hS⟩
    refine s_reg [] [2] [(2, [], .bool z38.1)] [] H (by kernel_rfl) trivial fun _ wd71 H72 hb => ?_
    clear H
    replace hS := hS.below hb
    clear hb
    refine w_ret ?_
    obtain rfl := someE hm
    exact retR1 H72 rfl rfl ⟨_, rfl, rfl, (hS.sel [0] rfl)⟩
theorem token_scanner_figures_ok {b_c : Nat} (m : Nat) (c_s : Str) (c_at_ : Int) (r : Bool × Int) (hm : token_scanner_figures m c_s c_at_ = some r) (M : Av) (w : World) (hS : S0 M [eB b_c [vS c_s, vI c_at_]] w) : DoesX Tryz.prog 33 ⟨[vP b_c]⟩ w (fun v w' => v = .bool r.1 ∧ SH M (fpl [eB b_c [vS c_s, vI c_at_]]) w [eB b_c [vS c_s, vI r.2]] w') := ⟨Tryz.call33 _, token_scanner_figures_w M m   c_s c_at_ r hm w hS⟩

theorem x_strings_TrimLeft_ok (x0 : Str) (x1 : Str) (r : Str) (hm : x_strings_TrimLeft x0 x1 = some r) (w : World) : RetB Tryz.prog 48 ⟨[vS x0, vS x1]⟩ (vS r) w := by
  obtain ⟨h, hm⟩ := chkE hm
  obtain rfl := someE hm
  exact .inl ⟨Tryz.call48 _, fun w' _ => (Any.strings_TrimLeft_laid Tryz.lays161 (by kernel_rfl) ⟨⟨x0⟩⟩ ⟨⟨x1⟩⟩ w' h.2 (ascB_get h.1)).mono fun e w'' he => ⟨he.1, he.2⟩⟩

theorem x_strings_IndexAny_ok (x0 : Str) (x1 : Str) (r : Int) (hm : x_strings_IndexAny x0 x1 = some r) (w : World) : RetB Tryz.prog 49 ⟨[vS x0, vS x1]⟩ (vI r) w := by
  obtain ⟨h, hm⟩ := chkE hm
  obtain rfl := someE hm
  exact .inl ⟨Tryz.call49 _, fun w' _ => (Any.strings_IndexAny_laid Tryz.lays153 (by kernel_rfl) ⟨⟨x0⟩⟩ ⟨⟨x1⟩⟩ w' h.2.2.1 h.2.2.2 (ascB_get h.1) (ascB_get h.2.1)).mono fun e w'' he => ⟨he.1, he.2⟩⟩

theorem nat116 (x0 : Str) (x1 : Int) (w : World) : RetB Tryz.prog 116 ⟨[vS x0, vU x1]⟩ (vI (nIndexByte x0 x1)) w := nat_IndexByteString Tryz.func116 (by kernel_rfl) rfl (by kernel_rfl) (by kernel_rfl) _ _ w

theorem stringslite_IndexByte_w  (M : Av) (s : Str) (c_ : Int) (r : Int) (hm : stringslite_IndexByte s c_ = r) (w : World) (hS : S0 M [] w) : Calls Tryz.prog 92 ⟨[vS s, vU c_]⟩ w (fun e w' => ∃ v, e = .returned v ∧ v = vI r ∧ SH M (fpl []) w [] w') := by
 rw [stringslite_IndexByte] at hm
 have hS0 : SH M (fpl []) w [] w := hS
 generalize hX : fpl [] = X at hS0 ⊢
 clear hS hX
 have hS := hS0
 clear hS0
 refine calls_entryP Tryz.func92 rfl Tryz.ntmps92 rfl fun _ H => ?_
 refine s_reg [] [0, 1] [(0, [], vS s), (1, [], vU c_)] [] H (by kernel_rfl) trivial fun _ wd1 H2 hb => ?_
 clear H
 replace hS := hS.below hb
 clear hb
 refine s_reg [(vI (nIndexByte s c_))] [4] [(4, [], vI (nIndexByte s c_))] [fun wz => RetB Tryz.prog 116 ⟨[vS s, vU c_]⟩ (vI (nIndexByte s c_)) wz] H2 (by kernel_rfl) ⟨(nat116 _ _ _), trivial⟩ fun _ wd3 H4 hb => ?_
 clear H2
 replace hS := hS.below hb
 clear hb
 refine w_ret ?_
 subst hm
 exact retR1 H4 rfl rfl ⟨_, rfl, rfl, (hS.sel [] rfl)⟩
theorem stringslite_IndexByte_ok  (s : Str) (c_ : Int) : Ret Tryz.prog 92 ⟨[vS s, vU c_]⟩ (vI (stringslite_IndexByte s c_)) := retP_of (Tryz.call92 _) (fun w h => stringslite_IndexByte_w F0   s c_ _ rfl w h)

theorem stringslite_Index_w  (M : Av) (s : Str) (substr : Str) (r : Int) (hm : stringslite_Index s substr = some r) (w : World) (hS : S0 M [] w) : Calls Tryz.prog 89 ⟨[vS s, vS substr]⟩ w (fun e w' => ∃ v, e = .returned v ∧ v = vI r ∧ SH M (fpl []) w [] w') := by
 rw [stringslite_Index] at hm
 have hS0 : SH M (fpl []) w [] w := hS
 generalize hX : fpl [] = X at hS0 ⊢
 clear hS hX
 have hS := hS0
 clear hS0
 refine calls_entryP Tryz.func89 rfl Tryz.ntmps89 rfl fun _ H => ?_
 refine s_reg [] [0, 1] [(0, [], vS s), (1, [], vS substr)] [] H (by kernel_rfl) trivial fun _ wd1 H2 hb => ?_
 clear H
 replace hS := hS.below hb
 clear hb
 refine s_reg [] [0, 1, 5] [(0, [], vS s), (1, [], vS substr), (5, [], vI (ln substr))] [] H2 (by kernel_rfl) trivial fun _ wd3 H4 hb => ?_
 clear H2
 replace hS := hS.below hb
 clear hb
 refine w_seq ?_
 refine w_block ?_
 obtain ⟨x5, hx5, hm⟩ := letE hm
 refine s_reg [] [0, 1, 5, 16] [(0, [], vS s), (1, [], vS substr), (5, [], vI (ln substr)), (16, [], .bool x5)] [] H4 (by subst hx5; kernel_rfl) trivial fun _ wd6 H7 hb => ?_
 clear H4
 replace hS := hS.below hb
 clear hb
 refine w_if H7 rfl (fun hc => ?c21) (fun hc => ?_)
 case c21 =>
  replace hm := bT hc hm
  refine s_reg [] [4] [(4, [], vI 0)] [] H7 (by kernel_rfl) trivial fun _ wd8 H9 hb => ?_
  clear H7
  replace hS := hS.below hb
  clear hb
  refine w_ret ?_
  obtain rfl := someE hm
  exact retR1 H9 rfl rfl ⟨_, rfl, rfl, (hS.sel [] rfl)⟩
 replace hm := bF hc hm
 refine s_reg [] [0, 1, 5, 24] [(0, [], vS s), (1, [], vS substr), (5, [], vI (ln substr)), (24, [], .bool ((ln substr) == 1))] [] H7 (by kernel_rfl) trivial fun _ wd10 H11 hb => ?_
 clear H7
 replace hS := hS.below hb
 clear hb
 refine w_if H11 rfl (fun hc => ?c20) (fun hc => ?_)
 case c20 =>
  replace hm := bT hc hm
  obtain ⟨ho12, hm⟩ := chkE hm
  refine s_reg [(vI (stringslite_IndexByte s (bat substr 0)))] [4] [(4, [], vI (stringslite_IndexByte s (bat substr 0)))] [fun _ => 0 ≤ (0 : Int) ∧ (0 : Int) < ln substr, fun wz => RetB Tryz.prog 92 ⟨[vS s, vU (bat substr 0)]⟩ (vI (stringslite_IndexByte s (bat substr 0))) wz] H11 (by kernel_rfl) ⟨ho12, ((stringslite_IndexByte_ok _ _).b), trivial⟩ fun _ wd13 H14 hb => ?_
  clear H11
  replace hS := hS.below hb
  clear hb
  refine w_ret ?_
  obtain rfl := someE hm
  exact retR1 H14 rfl rfl ⟨_, rfl, rfl, (hS.sel [] rfl)⟩
 replace hm := bF hc hm
 refine s_reg [] [0, 1, 5, 31] [(0, [], vS s), (1, [], vS substr), (5, [], vI (ln substr)), (31, [], .bool (decide ((ln s) ≤ (ln substr))))] [] H11 (by kernel_rfl) trivial fun _ wd15 H16 hb => ?_
 clear H11
 replace hS := hS.below hb
 clear hb
 refine w_if H16 rfl (fun hc => ?_) (fun hc => ?c19)
 case c19 =>
  replace hm := bF hc hm
  exact noneE hm
 replace hm := bT hc hm
 refine s_reg [] [4] [(4, [], vI (-1))] [] H16 (by kernel_rfl) trivial fun _ wd17 H18 hb => ?_
 clear H16
 replace hS := hS.below hb
 clear hb
 refine w_ret ?_
 obtain rfl := someE hm
 exact retR1 H18 rfl rfl ⟨_, rfl, rfl, (hS.sel [] rfl)⟩
theorem stringslite_Index_ok  (s : Str) (substr : Str) (r : Int) (hm : stringslite_Index s substr = some r) : Ret Tryz.prog 89 ⟨[vS s, vS substr]⟩ (vI r) := retP_of (Tryz.call89 _) (fun w h => stringslite_Index_w F0   s substr r hm w h)

theorem stringslite_Cut_w  (M : Av) (s : Str) (sep : Str) (r : Str × Str × Bool) (hm : stringslite_Cut s sep = some r) (w : World) (hS : S0 M [] w) : Calls Tryz.prog 85 ⟨[vS s, vS sep]⟩ w (fun e w' => ∃ v, e = .returned v ∧ v = .tuple ⟨[.string ⟨⟨r.1⟩⟩, .string ⟨⟨r.2.1⟩⟩, .bool r.2.2]⟩ ∧ SH M (fpl []) w [] w') := by
 rw [stringslite_Cut] at hm
 have hS0 : SH M (fpl []) w [] w := hS
 generalize hX : fpl [] = X at hS0 ⊢
 clear hS hX
 have hS := hS0
 clear hS0
 refine calls_entryP Tryz.func85 rfl Tryz.ntmps85 rfl fun _ H => ?_
 refine s_reg [] [0, 1] [(0, [], vS s), (1, [], vS sep)] [] H (by kernel_rfl) trivial fun _ wd1 H2 hb => ?_
 clear H
 replace hS := hS.below hb
 clear hb
 refine w_seq ?_
 obtain ⟨y3, hy3, hm⟩ := bindE hm
 refine s_reg [(vI y3)] [0, 1, 7] [(0, [], vS s), (1, [], vS sep), (7, [], vI y3)] [fun wz => RetB Tryz.prog 89 ⟨[vS s, vS sep]⟩ (vI y3) wz] H2 (by kernel_rfl) ⟨((stringslite_Index_ok _ _ _ hy3).b), trivial⟩ fun _ wd4 H5 hb => ?_
 clear H2
 replace hS := hS.below hb
 clear hb
 refine s_reg [] [0, 1, 7, 12] [(0, [], vS s), (1, [], vS sep), (7, [], vI y3), (12, [], .bool (decide (0 ≤ y3)))] [] H5 (by kernel_rfl) trivial fun _ wd6 H7 hb => ?_
 clear H5
 replace hS := hS.below hb
 clear hb
 refine w_if H7 rfl (fun hc => ?_) (fun hc => ?c14)
 case c14 =>
  replace hm := bF hc hm
  refine w_skip ?_
  refine s_reg [] [4, 5, 6] [(4, [], vS s), (5, [], vN), (6, [], vF)] [] H7 (by kernel_rfl) trivial fun _ wd12 H13 hb => ?_
  clear H7
  replace hS := hS.below hb
  clear hb
  refine w_ret ?_
  obtain rfl := someE hm
  exact retR3 H13 rfl rfl rfl rfl ⟨_, rfl, rfl, (hS.sel [] rfl)⟩
 replace hm := bT hc hm
 obtain ⟨ho8, hm⟩ := chkE hm
 obtain ⟨ho9, hm⟩ := chkE hm
 refine s_draw [] [4, 5, 6] [(4, [], .string ⟨⟨sub s 0 y3⟩⟩), (5, [], .string ⟨⟨sub s (w64 (y3 + (ln sep))) (ln s)⟩⟩), (6, [], vT)] [fun _ => 0 ≤ y3 ∧ y3 ≤ ln s, fun _ => 0 ≤ (w64 (y3 + (ln sep))) ∧ (w64 (y3 + (ln sep))) ≤ ln s] H7 (by kernel_rfl) (by kernel_rfl) (by kernel_rfl) ⟨ho8, ho9, trivial⟩ fun _ wd10 H11 hb => ?_
 clear H7
 replace hS := hS.below hb
 clear hb
 refine w_ret ?_
 obtain rfl := someE hm
 exact retR3 H11 rfl rfl rfl rfl ⟨_, rfl, rfl, (hS.sel [] rfl)⟩
theorem stringslite_Cut_ok  (s : Str) (sep : Str) (r : Str × Str × Bool) (hm : stringslite_Cut s sep = some r) : Ret Tryz.prog 85 ⟨[vS s, vS sep]⟩ (.tuple ⟨[.string ⟨⟨r.1⟩⟩, .string ⟨⟨r.2.1⟩⟩, .bool r.2.2]⟩) := retP_of (Tryz.call85 _) (fun w h => stringslite_Cut_w F0   s sep r hm w h)

theorem strings_Cut_w  (M : Av) (s : Str) (sep : Str) (r : Str × Str × Bool) (hm : strings_Cut s sep = some r) (w : World) (hS : S0 M [] w) : Calls Tryz.prog 50 ⟨[vS s, vS sep]⟩ w (fun e w' => ∃ v, e = .returned v ∧ v = .tuple ⟨[.string ⟨⟨r.1⟩⟩, .string ⟨⟨r.2.1⟩⟩, .bool r.2.2]⟩ ∧ SH M (fpl []) w [] w') := by
 rw [strings_Cut] at hm
 have hS0 : SH M (fpl []) w [] w := hS
 generalize hX : fpl [] = X at hS0 ⊢
 clear hS hX
 have hS := hS0
 clear hS0
 refine calls_entryP Tryz.func50 rfl Tryz.ntmps50 rfl fun _ H => ?_
 refine s_reg [] [0, 1] [(0, [], vS s), (1, [], vS sep)] [] H (by kernel_rfl) trivial fun _ wd1 H2 hb => ?_
 clear H
 replace hS := hS.below hb
 clear hb
 obtain ⟨y3, hy3, hm⟩ := bindE hm
 refine s_reg [(.tuple ⟨[.string ⟨⟨y3.1⟩⟩, .string ⟨⟨y3.2.1⟩⟩, .bool y3.2.2]⟩)] [4, 5, 6] [(4, [], .string ⟨⟨y3.1⟩⟩), (5, [], .string ⟨⟨y3.2.1⟩⟩), (6, [], .bool y3.2.2)] [fun wz => RetB Tryz.prog 85 ⟨[vS s, vS sep]⟩ (.tuple ⟨[.string ⟨⟨y3.1⟩⟩, .string ⟨⟨y3.2.1⟩⟩, .bool y3.2.2]⟩) wz] H2 (by kernel_rfl) ⟨((stringslite_Cut_ok _ _ _ hy3).b), trivial⟩ fun _ wd4 H5 hb => ?_
 clear H2
 replace hS := hS.below hb
 clear hb
 refine w_ret ?_
 obtain rfl := someE hm
 exact retR3 H5 rfl rfl rfl rfl ⟨_, rfl, rfl, (hS.sel [] rfl)⟩
theorem strings_Cut_ok  (s : Str) (sep : Str) (r : Str × Str × Bool) (hm : strings_Cut s sep = some r) : Ret Tryz.prog 50 ⟨[vS s, vS sep]⟩ (.tuple ⟨[.string ⟨⟨r.1⟩⟩, .string ⟨⟨r.2.1⟩⟩, .bool r.2.2]⟩) := retP_of (Tryz.call50 _) (fun w h => strings_Cut_w F0   s sep r hm w h)

theorem token_thousandths_w  (M : Av) (m : Nat) (s : Str) (r : Int) (hm : token_thousandths m s = some r) (w : World) (hS : S0 M [] w) : Calls Tryz.prog 34 ⟨[vS s]⟩ w (fun e w' => ∃ v, e = .returned v ∧ v = vI r ∧ SH M (fpl []) w [] w') := by
 rw [token_thousandths] at hm
 have hS0 : SH M (fpl []) w [] w := hS
 generalize hX : fpl [] = X at hS0 ⊢
 clear hS hX
 have hS := hS0
 clear hS0
 refine calls_entryP Tryz.func34 rfl Tryz.ntmps34 rfl fun _ H => ?_
 refine s_reg [] [0] [(0, [], vS s)] [] H (by kernel_rfl) trivial fun _ wd1 H2 hb => ?_
 clear H
 replace hS := hS.below hb
 clear hb
 obtain ⟨ho3, hm⟩ := chkE hm
 refine s_reg [] [0, 3] [(0, [], vS s), (3, [], .bool ((bat s 0) == 45))] [fun _ => 0 ≤ (0 : Int) ∧ (0 : Int) < ln s] H2 (by kernel_rfl) ⟨ho3, trivial⟩ fun _ wd4 H5 hb => ?_
 clear H2
 replace hS := hS.below hb
 clear hb
 obtain ⟨y6, hy6, hm⟩ := bindE hm
 refine s_reg [(vS y6)] [0, 3] [(0, [], vS y6), (3, [], .bool ((bat s 0) == 45))] [fun wz => RetB Tryz.prog 48 ⟨[vS s, vS [43, 45]]⟩ (vS y6) wz] H5 (by kernel_rfl) ⟨(x_strings_TrimLeft_ok _ _ _ hy6 _), trivial⟩ fun _ wd7 H8 hb => ?_
 clear H5
 replace hS := hS.below hb
 clear hb
 refine s_reg [] [0, 3, 4] [(0, [], vS y6), (3, [], .bool ((bat s 0) == 45)), (4, [], vI 3)] [] H8 (by kernel_rfl) trivial fun _ wd9 H10 hb => ?_
 clear H8
 replace hS := hS.below hb
 clear hb
 obtain ⟨z11, hz, hm⟩ := bindE hm
 refine w_cut (fun a' w' => Fr 112 [(3, [], .bool ((bat s 0) == 45)), (0, [], .string ⟨⟨z11.1⟩⟩), (4, [], vI z11.2)] a' ∧ SH M X w [] w') ?_ ?_
 ·replace hm := hz
  obtain ⟨y12, hy12, hm⟩ := bindE hm
  refine s_reg [(vI y12)] [0, 3, 4, 5] [(0, [], vS y6), (3, [], .bool ((bat s 0) == 45)), (4, [], vI 3), (5, [], vI y12)] [fun wz => RetB Tryz.prog 49 ⟨[vS y6, vS [101, 69]]⟩ (vI y12) wz] H10 (by kernel_rfl) ⟨(x_strings_IndexAny_ok _ _ _ hy12 _), trivial⟩ fun _ wd13 H14 hb => ?_
  clear H10
  replace hS := hS.below hb
  clear hb
  refine s_reg [] [0, 3, 4, 5, 23] [(0, [], vS y6), (3, [], .bool ((bat s 0) == 45)), (4, [], vI 3), (5, [], vI y12), (23, [], .bool (decide (0 ≤ y12)))] [] H14 (by kernel_rfl) trivial fun _ wd15 H16 hb => ?_
  clear H14
  replace hS := hS.below hb
  clear hb
  refine w_if H16 rfl (fun hc => ?_) (fun hc => ?c56)
  case c56 =>
   replace hm := bF hc hm
   refine w_skip ?_
   obtain rfl := someE hm
   exact ⟨FrG.keep (ks := [3, 0, 4]) H16 (by kernel_rfl), hS⟩
  replace hm := bT hc hm
  refine s_reg [] [0, 3, 4, 5, 6] [(0, [], vS y6), (3, [], .bool ((bat s 0) == 45)), (4, [], vI 3), (5, [], vI y12), (6, [], vI 0)] [] H16 (by kernel_rfl) trivial fun _ wd17 H18 hb => ?_
  clear H16
  replace hS := hS.below hb
  clear hb
  obtain ⟨z19, hz, hm⟩ := bindE hm
  refine w_cut (fun a' w' => Fr 112 [(0, [], vS y6), (3, [], .bool ((bat s 0) == 45)), (4, [], vI 3), (5, [], vI y12), (6, [], vI z19)] a' ∧ SH M X w [] w') ?_ ?_
  ·replace hm := hz
   refine w_seq ?_
   refine wl_start ?_
   obtain ⟨ho20, hm⟩ := chkE hm
   obtain ⟨y21, hy21, hm⟩ := bindE hm
   refine wl_batch 0 5 [(vS y21)] [0, 3, 4, 5, 6, 28] [(0, [], vS y6), (3, [], .bool ((bat s 0) == 45)), (4, [], vI 3), (5, [], vI y12), (6, [], vI 0), (28, [], vS y21)] [fun _ => 0 ≤ (w64 (y12 + 1)) ∧ (w64 (y12 + 1)) ≤ ln y6, fun wz => RetB Tryz.prog 48 ⟨[.string ⟨⟨sub y6 (w64 (y12 + 1)) (ln y6)⟩⟩, vS [43, 45]]⟩ (vS y21) wz] H18 (by decide) (by kernel_rfl) ⟨ho20, (x_strings_TrimLeft_ok _ _ _ hy21 _), trivial⟩ fun _ wd22 H23 hb => ?_
   clear H18
   replace hS := hS.below hb
   clear hb
   have hd := hS.hand [] [] rfl rfl
   refine m_stp [29, 0, 3, 4, 5, 6] [(0, [], vS y6), (3, [], .bool ((bat s 0) == 45)), (4, [], vI 3), (5, [], vI y12), (6, [], vI 0)] H23 rfl rfl rfl rfl (o_bytes (E := 5) H23 hd rfl (by kernel_rfl) (by kernel_rfl) (by kernel_rfl)) (fun _ => rfl) fun _ wd26 v H27 hq => ?_
   clear H23 hd
   obtain ⟨b24, c25, rfl, hc_b24, hq⟩ := hq
   replace hS : SH M X w [Ent.row .u8 b24 (ofB y21) (ln (ofB y21))] _ := hS.join [] [] rfl rfl hq
   clear hq
   refine wl_batch 6 8 [] [0, 3, 4, 5, 6, 29, 30, 31] [(0, [], vS y6), (3, [], .bool ((bat s 0) == 45)), (4, [], vI 3), (5, [], vI y12), (6, [], vI 0), (29, [], .slice (some ⟨b24, 0, none⟩) ((ofB y21).length) c25), (30, [], vI (ln (ofB y21))), (31, [], vI 0)] [] H27 (by decide) (by kernel_rfl) trivial fun _ wd28 H29 hb => ?_
   clear H27
   replace hS := hS.below hb
   clear hb
   refine wl_end rfl ?_
   refine w_block ?_
   refine w_loop (fun kk a' w' => ∃ (v30 : Int) (v31 : Int), token_thousandths_L1 m y21 kk v30 v31 = some _ ∧ Fr 112 [(0, [], vS y6), (3, [], .bool ((bat s 0) == 45)), (4, [], vI 3), (5, [], vI y12), (29, [], .slice (some ⟨b24, 0, none⟩) ((ofB y21).length) c25), (30, [], vI (ln (ofB y21))), (6, [], vI v30), (31, [], vI v31)] a' ∧ SH M X w [Ent.row .u8 b24 (ofB y21) (ln (ofB y21))] w') ⟨_, 0, 0, hm, FrG.keep (ks := [0, 3, 4, 5, 29, 30, 6, 31]) H29 (by kernel_rfl), hS⟩ ?_
   clear hm H29 hS
   rintro kk _ wd43 ⟨v30, v31, hm, H, hS⟩
   cases kk with
   | zero => exact noneE hm
   | succ kk =>
    rw [token_thousandths_L1] at hm
    refine s_reg [] [0, 3, 4, 5, 6, 29, 30, 31, 32] [(0, [], vS y6), (3, [], .bool ((bat s 0) == 45)), (4, [], vI 3), (5, [], vI y12), (6, [], vI v30), (29, [], .slice (some ⟨b24, 0, none⟩) ((ofB y21).length) c25), (30, [], vI (ln (ofB y21))), (31, [], vI v31), (32, [], .bool (decide (v31 < (ln (ofB y21)))))] [] H (by kernel_rfl) trivial fun _ wd32 H33 hb => ?_
    clear H
    replace hS := hS.below hb
    clear hb
    refine w_seq ?_
    refine w_if H33 rfl (fun hc => ?_) (fun hc => ?c42)
    case c42 =>
     replace hm := bF hc hm
     refine w_exit rfl ?_
     obtain rfl := someE hm
     replace hS : SH M X w [] _ := hS.sel [] rfl
     exact ⟨FrG.keep (ks := [0, 3, 4, 5, 6]) H33 (by kernel_rfl), hS⟩
    replace hm := bT hc hm
    refine w_skip ?_
    refine w_seq ?_
    refine w_block ?_
    obtain ⟨ho34, hm⟩ := chkE hm
    refine s_reg [(vU (gi (ofB y21) v31))] [0, 3, 4, 5, 6, 8, 29, 30, 31] [(0, [], vS y6), (3, [], .bool ((bat s 0) == 45)), (4, [], vI 3), (5, [], vI y12), (6, [], vI v30), (8, [], vU (gi (ofB y21) v31)), (29, [], .slice (some ⟨b24, 0, none⟩) ((ofB y21).length) c25), (30, [], vI (ln (ofB y21))), (31, [], vI v31)] [fun _ => oka (some ⟨b24, 0, none⟩) ∧ 0 ≤ v31 ∧ v31 < ln (ofB y21), fun wz => V.at1 ⟨b24, 0 + (v31).toNat * 1, none⟩ (vU (gi (ofB y21) v31)) wz] H33 (by kernel_rfl) ⟨(⟨rfl, ho34⟩), (Rw.ixn (hS.rw 0 rfl) ho34), trivial⟩ fun _ wd35 H36 hb => ?_
    clear H33
    replace hS := hS.below hb
    clear hb
    obtain ⟨x37, hx37, hm⟩ := letE hm
    refine w_reg [] [0, 3, 4, 5, 6, 29, 30, 31] [(0, [], vS y6), (3, [], .bool ((bat s 0) == 45)), (4, [], vI 3), (5, [], vI y12), (6, [], vI (if 1048576 < x37 then 1048576 else x37)), (29, [], .slice (some ⟨b24, 0, none⟩) ((ofB y21).length) c25), (30, [], vI (ln (ofB y21))), (31, [], vI v31)] [] H36 (by subst hx37; kernel_rfl) trivial fun _ wd38 H39 hb => ?_
    clear H36
    replace hS := hS.below hb
    clear hb
    refine w_reg [] [0, 3, 4, 5, 6, 29, 30, 31] [(0, [], vS y6), (3, [], .bool ((bat s 0) == 45)), (4, [], vI 3), (5, [], vI y12), (6, [], vI (if 1048576 < x37 then 1048576 else x37)), (29, [], .slice (some ⟨b24, 0, none⟩) ((ofB y21).length) c25), (30, [], vI (ln (ofB y21))), (31, [], vI (w64 (v31 + 1)))] [] H39 (by kernel_rfl) trivial fun _ wd40 H41 hb => ?_
    clear H39
    replace hS := hS.below hb
    clear hb
    exact ⟨_, Nat.lt_succ_self _, if 1048576 < x37 then 1048576 else x37, w64 (v31 + 1), hm, FrG.keep (ks := [0, 3, 4, 5, 29, 30, 6, 31]) H41 (by kernel_rfl), hS⟩
  ·rintro _ wd55 ⟨H, hS⟩
   obtain ⟨z44, hz, hm⟩ := bindE hm
   refine w_cut (fun a' w' => Fr 112 [(0, [], vS y6), (3, [], .bool ((bat s 0) == 45)), (4, [], vI 3), (5, [], vI y12), (6, [], vI z44)] a' ∧ SH M X w [] w') ?_ ?_
   ·replace hm := hz
    obtain ⟨ho45, hm⟩ := chkE hm
    refine s_reg [] [0, 3, 4, 5, 6, 47] [(0, [], vS y6), (3, [], .bool ((bat s 0) == 45)), (4, [], vI 3), (5, [], vI y12), (6, [], vI z19), (47, [], .bool ((bat y6 (w64 (y12 + 1))) == 45))] [fun _ => 0 ≤ (w64 (y12 + 1)) ∧ (w64 (y12 + 1)) < ln y6] H (by kernel_rfl) ⟨ho45, trivial⟩ fun _ wd46 H47 hb => ?_
    clear H
    replace hS := hS.below hb
    clear hb
    refine w_if H47 rfl (fun hc => ?_) (fun hc => ?c50)
    case c50 =>
     replace hm := bF hc hm
     refine w_skip ?_
     obtain rfl := someE hm
     exact ⟨FrG.keep (ks := [0, 3, 4, 5, 6]) H47 (by kernel_rfl), hS⟩
    replace hm := bT hc hm
    refine w_reg [] [0, 3, 4, 5, 6] [(0, [], vS y6), (3, [], .bool ((bat s 0) == 45)), (4, [], vI 3), (5, [], vI y12), (6, [], vI (w64 (0 - z19)))] [] H47 (by kernel_rfl) trivial fun _ wd48 H49 hb => ?_
    clear H47
    replace hS := hS.below hb
    clear hb
    obtain rfl := someE hm
    exact ⟨FrG.keep (ks := [0, 3, 4, 5, 6]) H49 (by kernel_rfl), hS⟩
   ·rintro _ wd54 ⟨H, hS⟩
    obtain ⟨ho51, hm⟩ := chkE hm
    refine w_draw [] [0, 3, 4] [(0, [], .string ⟨⟨sub y6 0 y12⟩⟩), (3, [], .bool ((bat s 0) == 45)), (4, [], vI (w64 (3 + z44)))] [fun _ => 0 ≤ y12 ∧ y12 ≤ ln y6] H (by kernel_rfl) (by kernel_rfl) (by kernel_rfl) ⟨ho51, trivial⟩ fun _ wd52 H53 hb => ?_
    clear H
    replace hS := hS.below hb
    clear hb
    obtain rfl := someE hm
    exact ⟨FrG.keep (ks := [3, 0, 4]) H53 (by kernel_rfl), hS⟩
 ·rintro _ wd127 ⟨H, hS⟩
  obtain ⟨y57, hy57, hm⟩ := bindE hm
  refine s_reg [(.tuple ⟨[.string ⟨⟨y57.1⟩⟩, .string ⟨⟨y57.2.1⟩⟩, .bool y57.2.2]⟩)] [3, 4, 9, 10] [(3, [], .bool ((bat s 0) == 45)), (4, [], vI z11.2), (9, [], .string ⟨⟨y57.1⟩⟩), (10, [], .string ⟨⟨y57.2.1⟩⟩)] [fun wz => RetB Tryz.prog 50 ⟨[.string ⟨⟨z11.1⟩⟩, vS [46]]⟩ (.tuple ⟨[.string ⟨⟨y57.1⟩⟩, .string ⟨⟨y57.2.1⟩⟩, .bool y57.2.2]⟩) wz] H (by kernel_rfl) ⟨((strings_Cut_ok _ _ _ hy57).b), trivial⟩ fun _ wd58 H59 hb => ?_
  clear H
  replace hS := hS.below hb
  clear hb
  refine s_reg [] [3, 4, 9, 10] [(3, [], .bool ((bat s 0) == 45)), (4, [], vI (w64 (z11.2 - (ln y57.2.1)))), (9, [], .string ⟨⟨y57.1⟩⟩), (10, [], .string ⟨⟨y57.2.1⟩⟩)] [] H59 (by kernel_rfl) trivial fun _ wd60 H61 hb => ?_
  clear H59
  replace hS := hS.below hb
  clear hb
  obtain ⟨ho62, hm⟩ := chkE hm
  refine s_reg [] [0, 3, 4] [(0, [], .string ⟨⟨y57.1 ++ y57.2.1⟩⟩), (3, [], .bool ((bat s 0) == 45)), (4, [], vI (w64 (z11.2 - (ln y57.2.1))))] [fun _ => ln y57.1 + ln y57.2.1 ≤ 9223372036854775807] H61 (by kernel_rfl) ⟨ho62, trivial⟩ fun _ wd63 H64 hb => ?_
  clear H61
  replace hS := hS.below hb
  clear hb
  obtain ⟨z65, hz, hm⟩ := bindE hm
  refine w_cut (fun a' w' => Fr 112 [(3, [], .bool ((bat s 0) == 45)), (4, [], vI (w64 (z11.2 - (ln y57.2.1)))), (0, [], vS z65)] a' ∧ SH M X w [] w') ?_ ?_
  ·replace hm := hz
   obtain ⟨x66, hx66, hm⟩ := letE hm
   refine s_reg [] [0, 3, 4, 70] [(0, [], .string ⟨⟨y57.1 ++ y57.2.1⟩⟩), (3, [], .bool ((bat s 0) == 45)), (4, [], vI (w64 (z11.2 - (ln y57.2.1)))), (70, [], .bool x66)] [] H64 (by subst hx66; kernel_rfl) trivial fun _ wd67 H68 hb => ?_
   clear H64
   replace hS := hS.below hb
   clear hb
   refine w_if H68 rfl (fun hc => ?_) (fun hc => ?c74)
   case c74 =>
    replace hm := bF hc hm
    refine w_skip ?_
    obtain rfl := someE hm
    exact ⟨FrG.keep (ks := [3, 4, 0]) H68 (by kernel_rfl), hS⟩
   replace hm := bT hc hm
   obtain ⟨x69, hx69, hm⟩ := letE hm
   obtain ⟨ho70, hm⟩ := chkE hm
   obtain ⟨x71, hx71, hm⟩ := letE hm
   refine w_reg [] [0, 3, 4] [(0, [], vS x71), (3, [], .bool ((bat s 0) == 45)), (4, [], vI (w64 (z11.2 - (ln y57.2.1))))] [fun _ => 0 ≤ (if 0 < x69 then x69 else 0) ∧ (if 0 < x69 then x69 else 0) ≤ ln (y57.1 ++ y57.2.1)] H68 (by subst hx69 hx71; kernel_rfl) ⟨ho70, trivial⟩ fun _ wd72 H73 hb => ?_
   clear H68
   replace hS := hS.below hb
   clear hb
   obtain rfl := someE hm
   exact ⟨FrG.keep (ks := [3, 4, 0]) H73 (by kernel_rfl), hS⟩
  ·rintro _ wd126 ⟨H, hS⟩
   refine s_reg [] [0, 3, 4, 12] [(0, [], vS z65), (3, [], .bool ((bat s 0) == 45)), (4, [], vI (w64 (z11.2 - (ln y57.2.1)))), (12, [], vI 0)] [] H (by kernel_rfl) trivial fun _ wd75 H76 hb => ?_
   clear H
   replace hS := hS.below hb
   clear hb
   obtain ⟨z77, hz, hm⟩ := bindE hm
   refine w_cut (fun a' w' => Fr 112 [(3, [], .bool ((bat s 0) == 45)), (4, [], vI (w64 (z11.2 - (ln y57.2.1)))), (12, [], vI z77)] a' ∧ SH M X w [] w') ?_ ?_
   ·replace hm := hz
    refine w_seq ?_
    refine wl_start ?_
    refine wl_batch 0 1 [] [3, 4, 12, 78] [(3, [], .bool ((bat s 0) == 45)), (4, [], vI (w64 (z11.2 - (ln y57.2.1)))), (12, [], vI 0), (78, [], vS z65)] [] H76 (by decide) (by kernel_rfl) trivial fun _ wd78 H79 hb => ?_
    clear H76
    replace hS := hS.below hb
    clear hb
    have hd := hS.hand [] [] rfl rfl
    refine m_stp [79, 3, 4, 12] [(3, [], .bool ((bat s 0) == 45)), (4, [], vI (w64 (z11.2 - (ln y57.2.1)))), (12, [], vI 0)] H79 rfl rfl rfl rfl (o_bytes (E := 5) H79 hd rfl (by kernel_rfl) (by kernel_rfl) (by kernel_rfl)) (fun _ => rfl) fun _ wd82 v H83 hq => ?_
    clear H79 hd
    obtain ⟨b80, c81, rfl, hc_b80, hq⟩ := hq
    replace hS : SH M X w [Ent.row .u8 b80 (ofB z65) (ln (ofB z65))] _ := hS.join [] [] rfl rfl hq
    clear hq
    refine wl_batch 2 4 [] [3, 4, 12, 79, 80, 81] [(3, [], .bool ((bat s 0) == 45)), (4, [], vI (w64 (z11.2 - (ln y57.2.1)))), (12, [], vI 0), (79, [], .slice (some ⟨b80, 0, none⟩) ((ofB z65).length) c81), (80, [], vI (ln (ofB z65))), (81, [], vI 0)] [] H83 (by decide) (by kernel_rfl) trivial fun _ wd84 H85 hb => ?_
    clear H83
    replace hS := hS.below hb
    clear hb
    refine wl_end rfl ?_
    refine w_block ?_
    refine w_loop (fun kk a' w' => ∃ (v86 : Int) (v87 : Int), token_thousandths_L2 m z65 kk v86 v87 = some _ ∧ Fr 112 [(3, [], .bool ((bat s 0) == 45)), (4, [], vI (w64 (z11.2 - (ln y57.2.1)))), (79, [], .slice (some ⟨b80, 0, none⟩) ((ofB z65).length) c81), (80, [], vI (ln (ofB z65))), (12, [], vI v86), (81, [], vI v87)] a' ∧ SH M X w [Ent.row .u8 b80 (ofB z65) (ln (ofB z65))] w') ⟨_, 0, 0, hm, FrG.keep (ks := [3, 4, 79, 80, 12, 81]) H85 (by kernel_rfl), hS⟩ ?_
    clear hm H85 hS
    rintro kk _ wd100 ⟨v86, v87, hm, H, hS⟩
    cases kk with
    | zero => exact noneE hm
    | succ kk =>
     rw [token_thousandths_L2] at hm
     refine s_reg [] [3, 4, 12, 79, 80, 81, 82] [(3, [], .bool ((bat s 0) == 45)), (4, [], vI (w64 (z11.2 - (ln y57.2.1)))), (12, [], vI v86), (79, [], .slice (some ⟨b80, 0, none⟩) ((ofB z65).length) c81), (80, [], vI (ln (ofB z65))), (81, [], vI v87), (82, [], .bool (decide (v87 < (ln (ofB z65)))))] [] H (by kernel_rfl) trivial fun _ wd88 H89 hb => ?_
     clear H
     replace hS := hS.below hb
     clear hb
     refine w_seq ?_
     refine w_if H89 rfl (fun hc => ?_) (fun hc => ?c99)
     case c99 =>
      replace hm := bF hc hm
      refine w_exit rfl ?_
      obtain rfl := someE hm
      replace hS : SH M X w [] _ := hS.sel [] rfl
      exact ⟨FrG.keep (ks := [3, 4, 12]) H89 (by kernel_rfl), hS⟩
     replace hm := bT hc hm
     refine w_skip ?_
     refine w_seq ?_
     refine w_block ?_
     obtain ⟨ho90, hm⟩ := chkE hm
     refine s_reg [(vU (gi (ofB z65) v87))] [3, 4, 12, 14, 79, 80, 81] [(3, [], .bool ((bat s 0) == 45)), (4, [], vI (w64 (z11.2 - (ln y57.2.1)))), (12, [], vI v86), (14, [], vU (gi (ofB z65) v87)), (79, [], .slice (some ⟨b80, 0, none⟩) ((ofB z65).length) c81), (80, [], vI (ln (ofB z65))), (81, [], vI v87)] [fun _ => oka (some ⟨b80, 0, none⟩) ∧ 0 ≤ v87 ∧ v87 < ln (ofB z65), fun wz => V.at1 ⟨b80, 0 + (v87).toNat * 1, none⟩ (vU (gi (ofB z65) v87)) wz] H89 (by kernel_rfl) ⟨(⟨rfl, ho90⟩), (Rw.ixn (hS.rw 0 rfl) ho90), trivial⟩ fun _ wd91 H92 hb => ?_
     clear H89
     replace hS := hS.below hb
     clear hb
     obtain ⟨x93, hx93, hm⟩ := letE hm
     obtain ⟨x94, hx94, hm⟩ := letE hm
     refine w_reg [] [3, 4, 12, 79, 80, 81] [(3, [], .bool ((bat s 0) == 45)), (4, [], vI (w64 (z11.2 - (ln y57.2.1)))), (12, [], vI x94), (79, [], .slice (some ⟨b80, 0, none⟩) ((ofB z65).length) c81), (80, [], vI (ln (ofB z65))), (81, [], vI v87)] [] H92 (by subst hx93 hx94; kernel_rfl) trivial fun _ wd95 H96 hb => ?_
     clear H92
     replace hS := hS.below hb
     clear hb
     refine w_reg [] [3, 4, 12, 79, 80, 81] [(3, [], .bool ((bat s 0) == 45)), (4, [], vI (w64 (z11.2 - (ln y57.2.1)))), (12, [], vI x94), (79, [], .slice (some ⟨b80, 0, none⟩) ((ofB z65).length) c81), (80, [], vI (ln (ofB z65))), (81, [], vI (w64 (v87 + 1)))] [] H96 (by kernel_rfl) trivial fun _ wd97 H98 hb => ?_
     clear H96
     replace hS := hS.below hb
     clear hb
     exact ⟨_, Nat.lt_succ_self _, x94, w64 (v87 + 1), hm, FrG.keep (ks := [3, 4, 79, 80, 12, 81]) H98 (by kernel_rfl), hS⟩
   ·rintro _ wd125 ⟨H, hS⟩
    obtain ⟨z101, hz, hm⟩ := bindE hm
    refine w_cut (fun a' w' => Fr 112 [(3, [], .bool ((bat s 0) == 45)), (12, [], vI z101)] a' ∧ SH M X w [] w') ?_ ?_
    ·replace hm := hz
     refine w_block ?_
     refine w_loop (fun kk a' w' => ∃ (v102 : Int) (v103 : Int), token_thousandths_L3 m  kk v102 v103 = some _ ∧ Fr 112 [(3, [], .bool ((bat s 0) == 45)), (4, [], vI v102), (12, [], vI v103)] a' ∧ SH M X w [] w') ⟨_, w64 (z11.2 - (ln y57.2.1)), z77, hm, FrG.keep (ks := [3, 4, 12]) H (by kernel_rfl), hS⟩ ?_
     clear hm H hS
     rintro kk _ wd114 ⟨v102, v103, hm, H, hS⟩
     cases kk with
     | zero => exact noneE hm
     | succ kk =>
      rw [token_thousandths_L3] at hm
      refine w_seq ?_
      obtain ⟨x104, hx104, hm⟩ := letE hm
      obtain ⟨x105, hx105, hm⟩ := letE hm
      refine s_reg [] [3, 4, 12, 102] [(3, [], .bool ((bat s 0) == 45)), (4, [], vI v102), (12, [], vI v103), (102, [], .bool x105)] [] H (by subst hx104 hx105; kernel_rfl) trivial fun _ wd106 H107 hb => ?_
      clear H
      replace hS := hS.below hb
      clear hb
      refine w_if H107 rfl (fun hc => ?_) (fun hc => ?c113)
      case c113 =>
       replace hm := bF hc hm
       refine w_exit rfl ?_
       obtain rfl := someE hm
       exact ⟨FrG.keep (ks := [3, 12]) H107 (by kernel_rfl), hS⟩
      replace hm := bT hc hm
      refine w_skip ?_
      refine w_seq ?_
      refine w_block ?_
      obtain ⟨x108, hx108, hm⟩ := letE hm
      refine w_reg [] [3, 4, 12] [(3, [], .bool ((bat s 0) == 45)), (4, [], vI v102), (12, [], vI x108)] [] H107 (by subst hx108; kernel_rfl) trivial fun _ wd109 H110 hb => ?_
      clear H107
      replace hS := hS.below hb
      clear hb
      refine w_reg [] [3, 4, 12] [(3, [], .bool ((bat s 0) == 45)), (4, [], vI (w64 (v102 - 1))), (12, [], vI x108)] [] H110 (by kernel_rfl) trivial fun _ wd111 H112 hb => ?_
      clear H110
      replace hS := hS.below hb
      clear hb
      exact ⟨_, Nat.lt_succ_self _, w64 (v102 - 1), x108, hm, FrG.keep (ks := [3, 4, 12]) H112 (by kernel_rfl), hS⟩
    ·rintro _ wd124 ⟨H, hS⟩
     obtain ⟨z115, hz, hm⟩ := bindE hm
     refine w_cut (fun a' w' => Fr 112 [(12, [], vI z115)] a' ∧ SH M X w [] w') ?_ ?_
     ·replace hm := hz
      refine s_reg [] [12, 108] [(12, [], vI z101), (108, [], .bool ((bat s 0) == 45))] [] H (by kernel_rfl) trivial fun _ wd116 H117 hb => ?_
      clear H
      replace hS := hS.below hb
      clear hb
      refine w_if H117 rfl (fun hc => ?_) (fun hc => ?c120)
      case c120 =>
       replace hm := bF hc hm
       refine w_skip ?_
       obtain rfl := someE hm
       exact ⟨FrG.keep (ks := [12]) H117 (by kernel_rfl), hS⟩
      replace hm := bT hc hm
      refine w_reg [] [12] [(12, [], vI (w64 (0 - z101)))] [] H117 (by kernel_rfl) trivial fun _ wd118 H119 hb => ?_
      clear H117
      replace hS := hS.below hb
      clear hb
      obtain rfl := someE hm
      exact ⟨FrG.keep (ks := [12]) H119 (by kernel_rfl), hS⟩
     ·rintro _ wd123 ⟨H, hS⟩
      refine s_reg [] [2] [(2, [], vI z115)] [] H (by kernel_rfl) trivial fun _ wd121 H122 hb => ?_
      clear H
      replace hS := hS.below hb
      clear hb
      refine w_ret ?_
      obtain rfl := someE hm
      exact retR1 H122 rfl rfl ⟨_, rfl, rfl, (hS.sel [] rfl)⟩
theorem token_thousandths_ok  (m : Nat) (s : Str) (r : Int) (hm : token_thousandths m s = some r) : Ret Tryz.prog 34 ⟨[vS s]⟩ (vI r) := retP_of (Tryz.call34 _) (fun w h => token_thousandths_w F0 m   s r hm w h)

theorem token_scanner_numeric_w {b_c : Nat} (M : Av) (m : Nat) (c_s : Str) (c_at_ : Int) (r : TToken × Int) (hm : token_scanner_numeric m c_s c_at_ = some r) (w : World) (hS : S0 M [eB b_c [vS c_s, vI c_at_]] w) : Calls Tryz.prog 59 ⟨[vP b_c]⟩ w (fun e w' => ∃ v, e = .returned v ∧ v = .agg ⟨[vU r.1.Kind, .string ⟨⟨r.1.Text⟩⟩, vI r.1.Num, .string ⟨⟨r.1.Unit⟩⟩, .bool r.1.Flag]⟩ ∧ SH M (fpl [eB b_c [vS c_s, vI c_at_]]) w [eB b_c [vS c_s, vI r.2]] w') := by
 rw [token_scanner_numeric] at hm
 have hS0 : SH M (fpl [eB b_c [vS c_s, vI c_at_]]) w [eB b_c [vS c_s, vI c_at_]] w := hS
 generalize hX : fpl [eB b_c [vS c_s, vI c_at_]] = X at hS0 ⊢
 clear hS hX
 have hS := hS0
 clear hS0
 refine calls_entryP Tryz.func59 rfl Tryz.ntmps59 rfl fun _ H => ?_
 refine w_seq ?_
 refine wl_start ?_
 have hd := hS.hand [] [0] rfl rfl
 refine m_stp [2, 0] [(0, [], vP b_c)] H rfl rfl rfl rfl (o_alloc [vU 0, vN, vI 0, vN, vF] (z := .agg ⟨[vU 0, vN, vI 0, vN, vF]⟩) hd (by kernel_rfl) rfl) (fun _ => rfl) fun _ wd2 v H3 hq => ?_
 clear H hd
 obtain ⟨b1, rfl, hq⟩ := hq
 replace hS : SH M X w [eB b1 [vU 0, vN, vI 0, vN, vF], eB b_c [vS c_s, vI c_at_]] _ := hS.join [] [0] rfl rfl hq
 clear hq
 refine wl_end rfl ?_
 refine s_reg [(vI c_at_)] [0, 2, 3] [(0, [], vP b_c), (2, [], vP b1), (3, [], vI c_at_)] [fun wz => V.at1 ⟨b_c, 1, none⟩ (vI c_at_) wz] H3 (by kernel_rfl) ⟨((hS.bk 1 rfl).at1 rfl), trivial⟩ fun _ wd4 H5 hb => ?_
 clear H3
 replace hS := hS.below hb
 clear hb
 refine w_seq ?_
 refine wl_start ?_
 refine wl_batch 0 1 [] [0, 2, 3, 10] [(0, [], vP b_c), (2, [], vP b1), (3, [], vI c_at_), (10, [], vP b_c)] [] H5 (by decide) (by kernel_rfl) trivial fun _ wd6 H7 hb => ?_
 clear H5
 replace hS := hS.below hb
 clear hb
 obtain ⟨y8, hy8, hm⟩ := bindE hm
 have hd := hS.hand [1] [0] rfl rfl
 refine m_stp [11, 0, 2, 3] [(0, [], vP b_c), (2, [], vP b1), (3, [], vI c_at_)] H7 rfl rfl rfl rfl (o_callx H7 rfl rfl (token_scanner_figures_ok (b_c := b_c) m _ _ _ hy8 _ _ hd)) (fun _ => rfl) fun _ wd9 v H10 hq => ?_
 clear H7 hd
 obtain ⟨rfl, hq⟩ := hq
 replace hS : SH M X w [eB b_c [vS c_s, vI y8.2], eB b1 [vU 0, vN, vI 0, vN, vF]] _ := hS.join [1] [0] rfl rfl hq
 clear hq
 refine wl_batch 2 3 [] [0, 2, 3, 4] [(0, [], vP b_c), (2, [], vP b1), (3, [], vI c_at_), (4, [], .bool y8.1)] [] H10 (by decide) (by kernel_rfl) trivial fun _ wd11 H12 hb => ?_
 clear H10
 replace hS := hS.below hb
 clear hb
 refine wl_end rfl ?_
 obtain ⟨ho14, hm⟩ := chkE hm
 obtain ⟨y15, hy15, hm⟩ := bindE hm
 refine s_drawS (base := [(0, [], vP b_c), (2, [], vP b1), (3, [], vI c_at_), (4, [], .bool y8.1)]) (L := [eB b_c [vS c_s, vI y8.2], eB b1 [vU 0, vN, vI 0, vN, vF]]) 15 2 (fun yg13 => [vP b_c, vP b_c, vP b_c, vS c_s, vI c_at_, vP b_c, vP b_c, vA b_c 1, vI y8.2, .string ⟨⟨sub c_s c_at_ y8.2⟩⟩, vI y15, .bool y8.1, .agg ⟨[vU 10, vN, vI y15, vN, .bool y8.1]⟩, .pointer (some ⟨(ab (yg13 13 0).a), 0, none⟩), undef]) (fun yg13 => [[], [], [], [], [], [], [], [], [], [], [], [], [], [eB (ab (yg13 13 0).a) [vU 0, vN, vI 0, vN, vF]], [eB (ab (yg13 13 0).a) [vU 10, vN, vI y15, vN, .bool y8.1]]]) [[15], [15], [15], [15], [], [15], [15], [15], [15], [], [], [], [], [], [13]] [[], [], [], [], [], [], [], [], [], [], [], [], [], [], [13]] [[0], [0, 1], [0, 1, 2], [0, 1, 2, 3], [4], [5], [5, 6], [5, 6, 7], [5, 6, 7, 8], [0, 1, 2, 3, 4, 5, 6, 7, 8, 9], [0, 1, 2, 3, 4, 5, 6, 7, 8, 9, 10], [11], [0, 1, 2, 3, 4, 5, 6, 7, 8, 9, 10, 11, 12], [13], [0, 1, 2, 3, 4, 5, 6, 7, 8, 9, 10, 11, 12, 13, 14]] [] (FrG.keep (ks := [0, 2, 3, 4]) H12 (by kernel_rfl)) (fun _ _ h => by cases h) (by kernel_rfl) hS (by kernel_rfl) rfl rfl (by kernel_rfl) (by kernel_rfl) (by kernel_rfl) (gd_none (by kernel_rfl) _ _) ?hloc_yg13 ?hstep_yg13 fun _ wd17 yg13 H18 hv hS => ?hK_yg13
 case hloc_yg13 => exact ⟨(fun _ _ _ _ => ⟨rfl, rfl⟩), (fun _ _ _ _ => ⟨rfl, rfl⟩), (fun _ _ _ _ => ⟨rfl, rfl⟩), (fun _ _ _ _ => ⟨rfl, rfl⟩), (fun _ _ _ _ => ⟨rfl, rfl⟩), (fun _ _ _ _ => ⟨rfl, rfl⟩), (fun _ _ _ _ => ⟨rfl, rfl⟩), (fun _ _ _ _ => ⟨rfl, rfl⟩), (fun _ _ _ _ => ⟨rfl, rfl⟩), (fun _ _ _ _ => ⟨rfl, rfl⟩), (fun _ _ _ _ => ⟨rfl, rfl⟩), (fun _ _ _ _ => ⟨rfl, rfl⟩), (fun _ _ _ _ => ⟨rfl, rfl⟩), (fun yg13 i g hi => by have h13 : updC yg13 i g 13 = yg13 13 := updC_out hi rfl; exact ⟨(show (.pointer (some ⟨(ab ((updC yg13 i g) 13 0).a), 0, none⟩) : Value) = .pointer (some ⟨(ab (yg13 13 0).a), 0, none⟩) by simp only [h13]), (show ([eB (ab ((updC yg13 i g) 13 0).a) [vU 0, vN, vI 0, vN, vF]] : List Ent) = [eB (ab (yg13 13 0).a) [vU 0, vN, vI 0, vN, vF]] by simp only [h13])⟩), (fun yg13 i g hi => by have h13 : updC yg13 i g 13 = yg13 13 := updC_out hi rfl; exact ⟨(show (undef : Value) = undef by simp only []), (show ([eB (ab ((updC yg13 i g) 13 0).a) [vU 10, vN, vI y15, vN, .bool y8.1]] : List Ent) = [eB (ab (yg13 13 0).a) [vU 10, vN, vI y15, vN, .bool y8.1]] by simp only [h13])⟩), trivial⟩
 case hstep_yg13 =>
  refine ⟨?_, ?_, ?_, ?_, ?_, ?_, ?_, ?_, ?_, ?_, ?_, ?_, ?_, ?_, ?_, trivial⟩
  ·intro o ho a w yg13 M Hb hv hO hS
   obtain rfl := Option.some.inj ho
   exact Stp.mono (o_evs [] (vP b_c) none [] Hb rfl (by kernel_rfl) (fun q e => by cases e)) fun _ _ hq => ⟨gL [], fun _ _ => hq.1, (hS.below hq.2.below).sel [0] rfl⟩
  ·intro o ho a w yg13 M Hb hv hO hS
   obtain rfl := Option.some.inj ho
   exact Stp.mono (o_evs [] (vP b_c) none [] ((Hb).add (hv 0 (by decide) (by decide) 12 rfl)) rfl (by kernel_rfl) (fun q e => by cases e)) fun _ _ hq => ⟨gL [], fun _ _ => hq.1, (hS.below hq.2.below).sel [0] rfl⟩
  ·intro o ho a w yg13 M Hb hv hO hS
   obtain rfl := Option.some.inj ho
   exact Stp.mono (o_evs [] (vP b_c) none [] ((Hb).add (hv 1 (by decide) (by decide) 13 rfl)) rfl (by kernel_rfl) (fun q e => by cases e)) fun _ _ hq => ⟨gL [], fun _ _ => hq.1, (hS.below hq.2.below).sel [0] rfl⟩
  ·intro o ho a w yg13 M Hb hv hO hS
   obtain rfl := Option.some.inj ho
   exact Stp.mono (o_evs [(vS c_s)] (vS c_s) (some (fun wz => V.at1 ⟨b_c, 0, none⟩ (vS c_s) wz)) [] ((Hb).add (hv 2 (by decide) (by decide) 14 rfl)) rfl (by kernel_rfl) (fun q e => by cases e; exact ((hS.bk 0 rfl).at1 rfl))) fun _ _ hq => ⟨gL [], fun _ _ => hq.1, (hS.below hq.2.below).sel [0] rfl⟩
  ·intro o ho a w yg13 M Hb hv hO hS
   obtain rfl := Option.some.inj ho
   exact Stp.mono (o_evs [] (vI c_at_) none [] Hb rfl (by kernel_rfl) (fun q e => by cases e)) fun _ _ hq => ⟨gL [], fun _ _ => hq.1, (hS.below hq.2.below).sel [] rfl⟩
  ·intro o ho a w yg13 M Hb hv hO hS
   obtain rfl := Option.some.inj ho
   exact Stp.mono (o_evs [] (vP b_c) none [] Hb rfl (by kernel_rfl) (fun q e => by cases e)) fun _ _ hq => ⟨gL [], fun _ _ => hq.1, (hS.below hq.2.below).sel [0] rfl⟩
  ·intro o ho a w yg13 M Hb hv hO hS
   obtain rfl := Option.some.inj ho
   exact Stp.mono (o_evs [] (vP b_c) none [] ((Hb).add (hv 5 (by decide) (by decide) 17 rfl)) rfl (by kernel_rfl) (fun q e => by cases e)) fun _ _ hq => ⟨gL [], fun _ _ => hq.1, (hS.below hq.2.below).sel [0] rfl⟩
  ·intro o ho a w yg13 M Hb hv hO hS
   obtain rfl := Option.some.inj ho
   exact Stp.mono (o_evs [] (vA b_c 1) none [] ((Hb).add (hv 6 (by decide) (by decide) 18 rfl)) rfl (by kernel_rfl) (fun q e => by cases e)) fun _ _ hq => ⟨gL [], fun _ _ => hq.1, (hS.below hq.2.below).sel [0] rfl⟩
  ·intro o ho a w yg13 M Hb hv hO hS
   obtain rfl := Option.some.inj ho
   exact Stp.mono (o_evs [(vI y8.2)] (vI y8.2) (some (fun wz => V.at1 ⟨b_c, 1, none⟩ (vI y8.2) wz)) [] ((Hb).add (hv 7 (by decide) (by decide) 19 rfl)) rfl (by kernel_rfl) (fun q e => by cases e; exact ((hS.bk 0 rfl).at1 rfl))) fun _ _ hq => ⟨gL [], fun _ _ => hq.1, (hS.below hq.2.below).sel [0] rfl⟩
  ·intro o ho a w yg13 M Hb hv hO hS
   obtain rfl := Option.some.inj ho
   exact Stp.mono (o_evs [] (.string ⟨⟨sub c_s c_at_ y8.2⟩⟩) (some (fun _ => 0 ≤ c_at_ ∧ c_at_ ≤ y8.2 ∧ y8.2 ≤ ln c_s)) [] ((((Hb).add (hv 3 (by decide) (by decide) 15 rfl)).add (hv 4 (by decide) (by decide) 16 rfl)).add (hv 8 (by decide) (by decide) 20 rfl)) rfl (by kernel_rfl) (fun q e => by cases e; exact ho14)) fun _ _ hq => ⟨gL [], fun _ _ => hq.1, (hS.below hq.2.below).sel [] rfl⟩
  ·intro o ho a w yg13 M Hb hv hO hS
   obtain rfl := Option.some.inj ho
   exact Stp.mono (o_evs [(vI y15)] (vI y15) (some (fun wz => RetB Tryz.prog 34 ⟨[.string ⟨⟨sub c_s c_at_ y8.2⟩⟩]⟩ (vI y15) wz)) [] ((Hb).add (hv 9 (by decide) (by decide) 21 rfl)) rfl (by kernel_rfl) (fun q e => by cases e; exact ((token_thousandths_ok m _ _ hy15).b))) fun _ _ hq => ⟨gL [], fun _ _ => hq.1, (hS.below hq.2.below).sel [] rfl⟩
  ·intro o ho a w yg13 M Hb hv hO hS
   obtain rfl := Option.some.inj ho
   exact Stp.mono (o_evs [] (.bool y8.1) none [] Hb rfl (by kernel_rfl) (fun q e => by cases e)) fun _ _ hq => ⟨gL [], fun _ _ => hq.1, (hS.below hq.2.below).sel [] rfl⟩
  ·intro o ho a w yg13 M Hb hv hO hS
   obtain rfl := Option.some.inj ho
   exact Stp.mono (o_evs [] (.agg ⟨[vU 10, vN, vI y15, vN, .bool y8.1]⟩) none [] (((Hb).add (hv 10 (by decide) (by decide) 22 rfl)).add (hv 11 (by decide) (by decide) 23 rfl)) rfl (by kernel_rfl) (fun q e => by cases e)) fun _ _ hq => ⟨gL [], fun _ _ => hq.1, (hS.below hq.2.below).sel [] rfl⟩
  ·intro o ho a w yg13 M Hb hv hO hS0
   obtain rfl := Option.some.inj ho
   have H : Fr 46 ([] ++ [(0, [], vP b_c), (2, [], vP b1), (3, [], vI c_at_), (4, [], .bool y8.1)]) _ := Hb
   obtain ⟨X, hX⟩ : ∃ X, X = fpl [] := ⟨_, rfl⟩
   have hS : SH M X w [] w := by rw [hX]; exact hS0
   have hd := hS.hand [] [] rfl rfl
   refine Stp.mono (o_alloc [vU 0, vN, vI 0, vN, vF] (z := .agg ⟨[vU 0, vN, vI 0, vN, vF]⟩) hd (by kernel_rfl) rfl) ?_
   rintro v w2 hq
   obtain ⟨b16, rfl, hq⟩ := hq
   replace hS : SH M X w [eB b16 [vU 0, vN, vI 0, vN, vF]] _ := hS.join [] [] rfl rfl hq
   clear hq
   rw [hX] at hS
   exact ⟨gL [Gh.mk (some ⟨b16, 0, none⟩) 0 fun _ _ => .nil], fun _ _ => rfl, hS.sel [0] rfl⟩
  ·intro o ho a w yg13 M Hb hv hO hS0
   obtain rfl := Option.some.inj ho
   have H : Fr 46 ([(24, [], .agg ⟨[vU 10, vN, vI y15, vN, .bool y8.1]⟩), (5, [], .pointer (some ⟨(ab (yg13 13 0).a), 0, none⟩))] ++ [(0, [], vP b_c), (2, [], vP b1), (3, [], vI c_at_), (4, [], .bool y8.1)]) _ := ((Hb).add (hv 13 (by decide) (by decide) 5 rfl)).add (hv 12 (by decide) (by decide) 24 rfl)
   obtain ⟨X, hX⟩ : ∃ X, X = fpl [eB (ab (yg13 13 0).a) [vU 0, vN, vI 0, vN, vF]] := ⟨_, rfl⟩
   have hS : SH M X w [eB (ab (yg13 13 0).a) [vU 0, vN, vI 0, vN, vF]] w := by rw [hX]; exact hS0
   have hd := hS.hand [0] [] rfl rfl
   refine Stp.mono (o_store [vU 10, vN, vI y15, vN, .bool y8.1] H hd rfl rfl (by kernel_rfl) rfl rfl rfl) ?_
   rintro v w2 hq
   replace hS : SH M X w [eB (ab (yg13 13 0).a) [vU 10, vN, vI y15, vN, .bool y8.1]] _ := hS.join [0] [] rfl rfl hq
   clear hq
   rw [hX] at hS
   exact ⟨gL [], (fun _ h => by cases h), hS.sel [0] rfl⟩
 have H19 : Fr 46 [(5, [], .pointer (some ⟨(ab (yg13 13 0).a), 0, none⟩)), (0, [], vP b_c), (2, [], vP b1)] _ := (FrG.add (FrG.keep (ks := [0, 2]) H18 (by kernel_rfl)) (hv 13 5 rfl))
 replace hS : SH M X w [eB (ab (yg13 13 0).a) [vU 10, vN, vI y15, vN, .bool y8.1], eB b_c [vS c_s, vI y8.2], eB b1 [vU 0, vN, vI 0, vN, vF]] _ := hS
 clear hv H18
 generalize ab (yg13 13 0).a = b20 at H19 hS
 obtain ⟨z21, hz, hm⟩ := bindE hm
 refine w_cut (fun a' w' => Fr 46 [(2, [], vP b1), (5, [], vP b20)] a' ∧ SH M X w [eB b20 [vU z21.1, vN, vI y15, .string ⟨⟨z21.2.1⟩⟩, .bool z21.2.2.2], eB b_c [vS c_s, vI z21.2.2.1], eB b1 [vU 0, vN, vI 0, vN, vF]] w') ?_ ?_
 ·replace hm := hz
  refine w_block ?_
  obtain ⟨y22, hy22, hm⟩ := bindE hm
  refine s_reg [(.bool y22)] [0, 2, 5, 25] [(0, [], vP b_c), (2, [], vP b1), (5, [], vP b20), (25, [], .bool y22)] [fun wz => RetB Tryz.prog 35 ⟨[vP b_c, vI 0]⟩ (.bool y22) wz] H19 (by kernel_rfl) ⟨(token_scanner_name_ok (b_c := b_c) _ _ _ _ hy22 _ (s0ro s0nil (hS.bk 1 rfl))), trivial⟩ fun _ wd23 H24 hb => ?_
  clear H19
  replace hS := hS.below hb
  clear hb
  refine w_if H24 rfl (fun hc => ?c54) (fun hc => ?_)
  case c54 =>
   replace hm := bT hc hm
   refine wl_start ?_
   refine wl_batch 0 1 [] [2, 5, 28] [(2, [], vP b1), (5, [], vP b20), (28, [], vP b_c)] [] H24 (by decide) (by kernel_rfl) trivial fun _ wd25 H26 hb => ?_
   clear H24
   replace hS := hS.below hb
   clear hb
   obtain ⟨y27, hy27, hm⟩ := bindE hm
   have hd := hS.hand [1] [0, 2] rfl rfl
   refine m_stp [29, 2, 5] [(2, [], vP b1), (5, [], vP b20)] H26 rfl rfl rfl rfl (o_callx H26 rfl rfl (token_scanner_word_ok (b_c := b_c) m _ _ _ hy27 _ _ hd)) (fun _ => rfl) fun _ wd28 v H29 hq => ?_
   clear H26 hd
   obtain ⟨rfl, hq⟩ := hq
   replace hS : SH M X w [eB b_c [vS c_s, vI y27.2], eB b20 [vU 10, vN, vI y15, vN, .bool y8.1], eB b1 [vU 0, vN, vI 0, vN, vF]] _ := hS.join [1] [0, 2] rfl rfl hq
   clear hq
   refine wl_batch 2 3 [] [2, 5, 29, 30] [(2, [], vP b1), (5, [], vP b20), (29, [], .string ⟨⟨y27.1⟩⟩), (30, [], vP b20)] [] H29 (by decide) (by kernel_rfl) trivial fun _ wd30 H31 hb => ?_
   clear H29
   replace hS := hS.below hb
   clear hb
   have hd := hS.hand [1] [0, 2] rfl rfl
   refine m_stp0 [2, 5, 29] [(2, [], vP b1), (5, [], vP b20), (29, [], .string ⟨⟨y27.1⟩⟩)] H31 rfl rfl rfl (o_store [vU 12, vN, vI y15, vN, .bool y8.1] H31 hd rfl rfl (by kernel_rfl) rfl rfl rfl) rfl fun _ wd32 H33 hq => ?_
   clear H31 hd
   obtain ⟨_, hq⟩ := hq
   replace hS : SH M X w [eB b20 [vU 12, vN, vI y15, vN, .bool y8.1], eB b_c [vS c_s, vI y27.2], eB b1 [vU 0, vN, vI 0, vN, vF]] _ := hS.join [1] [0, 2] rfl rfl hq
   clear hq
   refine wl_batch 4 5 [] [2, 5, 29, 31] [(2, [], vP b1), (5, [], vP b20), (29, [], .string ⟨⟨y27.1⟩⟩), (31, [], vA b20 3)] [] H33 (by decide) (by kernel_rfl) trivial fun _ wd34 H35 hb => ?_
   clear H33
   replace hS := hS.below hb
   clear hb
   have hd := hS.hand [0] [1, 2] rfl rfl
   refine m_stp0 [2, 5] [(2, [], vP b1), (5, [], vP b20)] H35 rfl rfl rfl (o_store [vU 12, vN, vI y15, .string ⟨⟨y27.1⟩⟩, .bool y8.1] H35 hd rfl rfl (by kernel_rfl) rfl rfl rfl) rfl fun _ wd36 H37 hq => ?_
   clear H35 hd
   obtain ⟨_, hq⟩ := hq
   replace hS : SH M X w [eB b20 [vU 12, vN, vI y15, .string ⟨⟨y27.1⟩⟩, .bool y8.1], eB b_c [vS c_s, vI y27.2], eB b1 [vU 0, vN, vI 0, vN, vF]] _ := hS.join [0] [1, 2] rfl rfl hq
   clear hq
   refine wl_end rfl ?_
   obtain rfl := someE hm
   exact ⟨FrG.keep (ks := [2, 5]) H37 (by kernel_rfl), hS⟩
  replace hm := bF hc hm
  obtain ⟨y38, hy38, hm⟩ := bindE hm
  refine s_reg [(vI y38)] [0, 2, 5, 32] [(0, [], vP b_c), (2, [], vP b1), (5, [], vP b20), (32, [], .bool (y38 == 37))] [fun wz => RetB Tryz.prog 45 ⟨[vP b_c, vI 0]⟩ (vI y38) wz] H24 (by kernel_rfl) ⟨(token_scanner_peek_ok (b_c := b_c) _ _ _ _ hy38 _ (s0ro s0nil (hS.bk 1 rfl))), trivial⟩ fun _ wd39 H40 hb => ?_
  clear H24
  replace hS := hS.below hb
  clear hb
  refine w_if H40 rfl (fun hc => ?_) (fun hc => ?c53)
  case c53 =>
   replace hm := bF hc hm
   refine w_skip ?_
   obtain rfl := someE hm
   exact ⟨FrG.keep (ks := [2, 5]) H40 (by kernel_rfl), hS⟩
  replace hm := bT hc hm
  refine w_seq ?_
  refine wl_start ?_
  refine wl_batch 0 7 [(vI y8.2)] [2, 5, 40, 42] [(2, [], vP b1), (5, [], vP b20), (40, [], vI (w64 (y8.2 + 1))), (42, [], vA b_c 1)] [fun wz => V.at1 ⟨b_c, 1, none⟩ (vI y8.2) wz] H40 (by decide) (by kernel_rfl) ⟨((hS.bk 1 rfl).at1 rfl), trivial⟩ fun _ wd41 H42 hb => ?_
  clear H40
  replace hS := hS.below hb
  clear hb
  have hd := hS.hand [1] [0, 2] rfl rfl
  refine m_stp0 [2, 5] [(2, [], vP b1), (5, [], vP b20)] H42 rfl rfl rfl (o_store [vS c_s, vI (w64 (y8.2 + 1))] H42 hd rfl rfl (by kernel_rfl) rfl rfl rfl) rfl fun _ wd43 H44 hq => ?_
  clear H42 hd
  obtain ⟨_, hq⟩ := hq
  replace hS : SH M X w [eB b_c [vS c_s, vI (w64 (y8.2 + 1))], eB b20 [vU 10, vN, vI y15, vN, .bool y8.1], eB b1 [vU 0, vN, vI 0, vN, vF]] _ := hS.join [1] [0, 2] rfl rfl hq
  clear hq
  refine wl_end rfl ?_
  refine wl_start ?_
  refine wl_batch 0 1 [] [2, 5, 43] [(2, [], vP b1), (5, [], vP b20), (43, [], vP b20)] [] H44 (by decide) (by kernel_rfl) trivial fun _ wd45 H46 hb => ?_
  clear H44
  replace hS := hS.below hb
  clear hb
  have hd := hS.hand [1] [0, 2] rfl rfl
  refine m_stp0 [2, 5] [(2, [], vP b1), (5, [], vP b20)] H46 rfl rfl rfl (o_store [vU 11, vN, vI y15, vN, .bool y8.1] H46 hd rfl rfl (by kernel_rfl) rfl rfl rfl) rfl fun _ wd47 H48 hq => ?_
  clear H46 hd
  obtain ⟨_, hq⟩ := hq
  replace hS : SH M X w [eB b20 [vU 11, vN, vI y15, vN, .bool y8.1], eB b_c [vS c_s, vI (w64 (y8.2 + 1))], eB b1 [vU 0, vN, vI 0, vN, vF]] _ := hS.join [1] [0, 2] rfl rfl hq
  clear hq
  refine wl_batch 2 3 [] [2, 5, 44] [(2, [], vP b1), (5, [], vP b20), (44, [], vA b20 4)] [] H48 (by decide) (by kernel_rfl) trivial fun _ wd49 H50 hb => ?_
  clear H48
  replace hS := hS.below hb
  clear hb
  have hd := hS.hand [0] [1, 2] rfl rfl
  refine m_stp0 [2, 5] [(2, [], vP b1), (5, [], vP b20)] H50 rfl rfl rfl (o_store [vU 11, vN, vI y15, vN, vF] H50 hd rfl rfl (by kernel_rfl) rfl rfl rfl) rfl fun _ wd51 H52 hq => ?_
  clear H50 hd
  obtain ⟨_, hq⟩ := hq
  replace hS : SH M X w [eB b20 [vU 11, vN, vI y15, vN, vF], eB b_c [vS c_s, vI (w64 (y8.2 + 1))], eB b1 [vU 0, vN, vI 0, vN, vF]] _ := hS.join [0] [1, 2] rfl rfl hq
  clear hq
  refine wl_end rfl ?_
  obtain rfl := someE hm
  exact ⟨FrG.keep (ks := [2, 5]) H52 (by kernel_rfl), hS⟩
 ·rintro _ wd59 ⟨H, hS⟩
  refine w_seq ?_
  refine wl_start ?_
  refine wl_batch 0 1 [(.agg ⟨[vU z21.1, vN, vI y15, .string ⟨⟨z21.2.1⟩⟩, .bool z21.2.2.2]⟩)] [2, 45] [(2, [], vP b1), (45, [], .agg ⟨[vU z21.1, vN, vI y15, .string ⟨⟨z21.2.1⟩⟩, .bool z21.2.2.2]⟩)] [fun wz => V.atN b20 0 [vU z21.1, vN, vI y15, .string ⟨⟨z21.2.1⟩⟩, .bool z21.2.2.2] 0 wz] H (by decide) (by kernel_rfl) ⟨((hS.bk 0 rfl).atD rfl), trivial⟩ fun _ wd55 H56 hb => ?_
  clear H
  replace hS := hS.below hb
  clear hb
  have hd := hS.hand [2] [0, 1] rfl rfl
  refine m_stp0 [2] [(2, [], vP b1)] H56 rfl rfl rfl (o_store [vU z21.1, vN, vI y15, .string ⟨⟨z21.2.1⟩⟩, .bool z21.2.2.2] H56 hd rfl rfl (by kernel_rfl) rfl rfl rfl) rfl fun _ wd57 H58 hq => ?_
  clear H56 hd
  obtain ⟨_, hq⟩ := hq
  replace hS : SH M X w [eB b1 [vU z21.1, vN, vI y15, .string ⟨⟨z21.2.1⟩⟩, .bool z21.2.2.2], eB b20 [vU z21.1, vN, vI y15, .string ⟨⟨z21.2.1⟩⟩, .bool z21.2.2.2], eB b_c [vS c_s, vI z21.2.2.1]] _ := hS.join [2] [0, 1] rfl rfl hq
  clear hq
  refine wl_end rfl ?_
  replace hS : SH M X w [eB b1 [vU z21.1, vN, vI y15, .string ⟨⟨z21.2.1⟩⟩, .bool z21.2.2.2], eB b_c [vS c_s, vI z21.2.2.1]] _ := hS.sel [0, 2] rfl
  refine w_ret ?_
  obtain rfl := someE hm
  exact retR1 H58 rfl (oneRes_agg rfl (hS.bk 0 rfl) Tryz.underlying44 rfl (by kernel_rfl)) ⟨_, rfl, rfl, (hS.sel [1] rfl)⟩
theorem token_scanner_numeric_ok {b_c : Nat} (m : Nat) (c_s : Str) (c_at_ : Int) (r : TToken × Int) (hm : token_scanner_numeric m c_s c_at_ = some r) (M : Av) (w : World) (hS : S0 M [eB b_c [vS c_s, vI c_at_]] w) : DoesX Tryz.prog 59 ⟨[vP b_c]⟩ w (fun v w' => v = .agg ⟨[vU r.1.Kind, .string ⟨⟨r.1.Text⟩⟩, vI r.1.Num, .string ⟨⟨r.1.Unit⟩⟩, .bool r.1.Flag]⟩ ∧ SH M (fpl [eB b_c [vS c_s, vI c_at_]]) w [eB b_c [vS c_s, vI r.2]] w') := ⟨Tryz.call59 _, token_scanner_numeric_w M m   c_s c_at_ r hm w hS⟩

theorem input_Lower_w  (M : Av) (m : Nat) (s : Str) (r : Str) (hm : input_Lower m s = some r) (w : World) (hS : S0 M [] w) : Calls Tryz.prog 114 ⟨[vS s]⟩ w (fun e w' => ∃ v, e = .returned v ∧ v = vS r ∧ SH M (fpl []) w [] w') := by
 rw [input_Lower] at hm
 have hS0 : SH M (fpl []) w [] w := hS
 generalize hX : fpl [] = X at hS0 ⊢
 clear hS hX
 have hS := hS0
 clear hS0
 refine calls_entryP Tryz.func114 rfl Tryz.ntmps114 rfl fun _ H => ?_
 refine s_reg [] [0] [(0, [], vS s)] [] H (by kernel_rfl) trivial fun _ wd1 H2 hb => ?_
 clear H
 replace hS := hS.below hb
 clear hb
 refine w_seq ?_
 refine wl_start ?_
 refine wl_batch 0 1 [] [6] [(6, [], vS s)] [] H2 (by decide) (by kernel_rfl) trivial fun _ wd3 H4 hb => ?_
 clear H2
 replace hS := hS.below hb
 clear hb
 have hd := hS.hand [] [] rfl rfl
 refine m_stp [7] [] H4 rfl rfl rfl rfl (o_bytes (E := 5) H4 hd rfl (by kernel_rfl) (by kernel_rfl) (by kernel_rfl)) (fun _ => rfl) fun _ wd7 v H8 hq => ?_
 clear H4 hd
 obtain ⟨b5, c6, rfl, hc_b5, hq⟩ := hq
 replace hS : SH M X w [Ent.row .u8 b5 (ofB s) (ln (ofB s))] _ := hS.join [] [] rfl rfl hq
 clear hq
 refine wl_batch 2 3 [] [3] [(3, [], .slice (some ⟨b5, 0, none⟩) ((ofB s).length) c6)] [] H8 (by decide) (by kernel_rfl) trivial fun _ wd9 H10 hb => ?_
 clear H8
 replace hS := hS.below hb
 clear hb
 refine wl_end rfl ?_
 obtain ⟨z11, hz, hm⟩ := bindE hm
 refine w_cut (fun a' w' => Fr 30 [(3, [], .slice (some ⟨b5, 0, none⟩) ((ofB s).length) c6)] a' ∧ SH M X w [Ent.row .u8 b5 z11 (ln (ofB s))] w') ?_ ?_
 ·replace hm := hz
  refine s_reg [] [3, 8, 9, 10] [(3, [], .slice (some ⟨b5, 0, none⟩) ((ofB s).length) c6), (8, [], .slice (some ⟨b5, 0, none⟩) ((ofB s).length) c6), (9, [], vI (ln (ofB s))), (10, [], vI 0)] [] H10 (by kernel_rfl) trivial fun _ wd12 H13 hb => ?_
  clear H10
  replace hS := hS.below hb
  clear hb
  refine w_block ?_
  refine w_loop (fun kk a' w' => ∃ (v14 : Int) (v15 : List Int), input_Lower_L1 m s kk v14 v15 = some _ ∧ Fr 30 [(3, [], .slice (some ⟨b5, 0, none⟩) ((ofB s).length) c6), (8, [], .slice (some ⟨b5, 0, none⟩) ((ofB s).length) c6), (9, [], vI (ln (ofB s))), (10, [], vI v14)] a' ∧ SH M X w [Ent.row .u8 b5 v15 (ln (ofB s))] w') ⟨_, 0, ofB s, hm, FrG.keep (ks := [3, 8, 9, 10]) H13 (by kernel_rfl), hS⟩ ?_
  clear hm H13 hS
  rintro kk _ wd35 ⟨v14, v15, hm, H, hS⟩
  cases kk with
  | zero => exact noneE hm
  | succ kk =>
   rw [input_Lower_L1] at hm
   refine s_reg [] [3, 8, 9, 10, 11] [(3, [], .slice (some ⟨b5, 0, none⟩) ((ofB s).length) c6), (8, [], .slice (some ⟨b5, 0, none⟩) ((ofB s).length) c6), (9, [], vI (ln (ofB s))), (10, [], vI v14), (11, [], .bool (decide (v14 < (ln (ofB s)))))] [] H (by kernel_rfl) trivial fun _ wd16 H17 hb => ?_
   clear H
   replace hS := hS.below hb
   clear hb
   refine w_seq ?_
   refine w_if H17 rfl (fun hc => ?_) (fun hc => ?c34)
   case c34 =>
    replace hm := bF hc hm
    refine w_exit rfl ?_
    obtain rfl := someE hm
    exact ⟨FrG.keep (ks := [3]) H17 (by kernel_rfl), hS⟩
   replace hm := bT hc hm
   refine w_skip ?_
   obtain ⟨z18, hz, hm⟩ := bindE hm
   refine w_cut (fun a' w' => Fr 30 [(3, [], .slice (some ⟨b5, 0, none⟩) ((ofB s).length) c6), (8, [], .slice (some ⟨b5, 0, none⟩) ((ofB s).length) c6), (9, [], vI (ln (ofB s))), (10, [], vI v14)] a' ∧ SH M X w [Ent.row .u8 b5 z18 (ln (ofB s))] w') ?_ ?_
   ·replace hm := hz
    refine w_block ?_
    obtain ⟨ho19, hm⟩ := chkE hm
    refine s_reg [(vU (gi v15 v14))] [3, 4, 5, 8, 9, 10] [(3, [], .slice (some ⟨b5, 0, none⟩) ((ofB s).length) c6), (4, [], vI v14), (5, [], vU (gi v15 v14)), (8, [], .slice (some ⟨b5, 0, none⟩) ((ofB s).length) c6), (9, [], vI (ln (ofB s))), (10, [], vI v14)] [fun _ => oka (some ⟨b5, 0, none⟩) ∧ 0 ≤ v14 ∧ v14 < ln (ofB s), fun wz => V.at1 ⟨b5, 0 + (v14).toNat * 1, none⟩ (vU (gi v15 v14)) wz] H17 (by kernel_rfl) ⟨(⟨rfl, ho19⟩), (Rw.ixn (hS.rw 0 rfl) ho19), trivial⟩ fun _ wd20 H21 hb => ?_
    clear H17
    replace hS := hS.below hb
    clear hb
    obtain ⟨x22, hx22, hm⟩ := letE hm
    refine s_reg [] [3, 4, 8, 9, 10, 20] [(3, [], .slice (some ⟨b5, 0, none⟩) ((ofB s).length) c6), (4, [], vI v14), (8, [], .slice (some ⟨b5, 0, none⟩) ((ofB s).length) c6), (9, [], vI (ln (ofB s))), (10, [], vI v14), (20, [], .bool x22)] [] H21 (by subst hx22; kernel_rfl) trivial fun _ wd23 H24 hb => ?_
    clear H21
    replace hS := hS.below hb
    clear hb
    refine w_if H24 rfl (fun hc => ?_) (fun hc => ?c30)
    case c30 =>
     replace hm := bF hc hm
     refine w_skip ?_
     obtain rfl := someE hm
     exact ⟨FrG.keep (ks := [3, 8, 9, 10]) H24 (by kernel_rfl), hS⟩
    replace hm := bT hc hm
    refine wl_start ?_
    refine wl_batch 0 6 [(vU (gi v15 v14))] [3, 8, 9, 10, 25, 26] [(3, [], .slice (some ⟨b5, 0, none⟩) ((ofB s).length) c6), (8, [], .slice (some ⟨b5, 0, none⟩) ((ofB s).length) c6), (9, [], vI (ln (ofB s))), (10, [], vI v14), (25, [], vU (ibit .or .u8 (gi v15 v14) 32)), (26, [], .pointer (some ⟨b5, 0 + (v14).toNat * 1, none⟩))] [fun _ => oka (some ⟨b5, 0, none⟩) ∧ 0 ≤ v14 ∧ v14 < ln (ofB s), fun wz => V.at1 ⟨b5, 0 + (v14).toNat * 1, none⟩ (vU (gi v15 v14)) wz, fun _ => oka (some ⟨b5, 0, none⟩) ∧ 0 ≤ v14 ∧ v14 < ln (ofB s)] H24 (by decide) (by kernel_rfl) ⟨(⟨rfl, ho19⟩), (Rw.ixn (hS.rw 0 rfl) ho19), (⟨rfl, ho19⟩), trivial⟩ fun _ wd25 H26 hb => ?_
    clear H24
    replace hS := hS.below hb
    clear hb
    have hd := hS.hand [0] [] rfl rfl
    refine m_stp0 [3, 8, 9, 10] [(3, [], .slice (some ⟨b5, 0, none⟩) ((ofB s).length) c6), (8, [], .slice (some ⟨b5, 0, none⟩) ((ofB s).length) c6), (9, [], vI (ln (ofB s))), (10, [], vI v14)] H26 rfl rfl rfl (o_rstore H26 hd rfl rfl (by kernel_rfl) ho19) rfl fun _ wd27 H28 hq => ?_
    clear H26 hd
    obtain ⟨_, hq⟩ := hq
    obtain ⟨q29, hq29, hm⟩ := letE hm
    rw [← hq29] at hq
    replace hS : SH M X w [Ent.row .u8 b5 q29 (ln (ofB s))] _ := hS.join [0] [] rfl rfl hq
    clear hq
    refine wl_end rfl ?_
    obtain rfl := someE hm
    exact ⟨FrG.keep (ks := [3, 8, 9, 10]) H28 (by kernel_rfl), hS⟩
   ·rintro _ wd33 ⟨H, hS⟩
    refine w_reg [] [3, 8, 9, 10] [(3, [], .slice (some ⟨b5, 0, none⟩) ((ofB s).length) c6), (8, [], .slice (some ⟨b5, 0, none⟩) ((ofB s).length) c6), (9, [], vI (ln (ofB s))), (10, [], vI (w64 (v14 + 1)))] [] H (by kernel_rfl) trivial fun _ wd31 H32 hb => ?_
    clear H
    replace hS := hS.below hb
    clear hb
    exact ⟨_, Nat.lt_succ_self _, w64 (v14 + 1), z18, hm, FrG.keep (ks := [3, 8, 9, 10]) H32 (by kernel_rfl), hS⟩
 ·rintro _ wd38 ⟨H, hS⟩
  refine s_reg [(.string ⟨⟨toB z11⟩⟩)] [2] [(2, [], .string ⟨⟨toB z11⟩⟩)] [fun wz => ∀ w', Below wz.heap.size wz w' → (convert 49 9 (.slice (some ⟨b5, 0, none⟩) ((ofB s).length) c6)).run Tryz.prog w' = .ok (.string ⟨⟨toB z11⟩⟩) w'] H (by kernel_rfl) ⟨(conv_row (E := 5) (by kernel_rfl) (by kernel_rfl) (by kernel_rfl) (hS.rw 0 rfl).1 (hS.rw 0 rfl).2), trivial⟩ fun _ wd36 H37 hb => ?_
  clear H
  replace hS := hS.below hb
  clear hb
  replace hS : SH M X w [] _ := hS.sel [] rfl
  refine w_ret ?_
  obtain rfl := someE hm
  exact retR1 H37 rfl rfl ⟨_, rfl, rfl, (hS.sel [] rfl)⟩
theorem input_Lower_ok  (m : Nat) (s : Str) (r : Str) (hm : input_Lower m s = some r) : Ret Tryz.prog 114 ⟨[vS s]⟩ (vS r) := retP_of (Tryz.call114 _) (fun w h => input_Lower_w F0 m   s r hm w h)

theorem input_Alike_w  (M : Av) (m : Nat) (a_ : Str) (b_ : Str) (r : Bool) (hm : input_Alike m a_ b_ = some r) (w : World) (hS : S0 M [] w) : Calls Tryz.prog 90 ⟨[vS a_, vS b_]⟩ w (fun e w' => ∃ v, e = .returned v ∧ v = .bool r ∧ SH M (fpl []) w [] w') := by
 rw [input_Alike] at hm
 have hS0 : SH M (fpl []) w [] w := hS
 generalize hX : fpl [] = X at hS0 ⊢
 clear hS hX
 have hS := hS0
 clear hS0
 refine calls_entryP Tryz.func90 rfl Tryz.ntmps90 rfl fun _ H => ?_
 refine s_reg [] [0, 1] [(0, [], vS a_), (1, [], vS b_)] [] H (by kernel_rfl) trivial fun _ wd1 H2 hb => ?_
 clear H
 replace hS := hS.below hb
 clear hb
 obtain ⟨y3, hy3, hm⟩ := bindE hm
 obtain ⟨y4, hy4, hm⟩ := bindE hm
 refine s_reg [(vS y3), (vS y4)] [4] [(4, [], .bool (y3 == y4))] [fun wz => RetB Tryz.prog 114 ⟨[vS a_]⟩ (vS y3) wz, fun wz => RetB Tryz.prog 114 ⟨[vS b_]⟩ (vS y4) wz] H2 (by kernel_rfl) ⟨((input_Lower_ok m _ _ hy3).b), ((input_Lower_ok m _ _ hy4).b), trivial⟩ fun _ wd5 H6 hb => ?_
 clear H2
 replace hS := hS.below hb
 clear hb
 refine w_ret ?_
 obtain rfl := someE hm
 exact retR1 H6 rfl rfl ⟨_, rfl, rfl, (hS.sel [] rfl)⟩
theorem input_Alike_ok  (m : Nat) (a_ : Str) (b_ : Str) (r : Bool) (hm : input_Alike m a_ b_ = some r) : Ret Tryz.prog 90 ⟨[vS a_, vS b_]⟩ (.bool r) := retP_of (Tryz.call90 _) (fun w h => input_Alike_w F0 m   a_ b_ r hm w h)

theorem token_scanner_bad_w {b_c : Nat} (M : Av) (m : Nat) (c_s : Str) (c_at_ : Int) (r : TToken × Int) (hm : token_scanner_bad m c_s c_at_ = some r) (w : World) (hS : S0 M [eB b_c [vS c_s, vI c_at_]] w) : Calls Tryz.prog 115 ⟨[vP b_c]⟩ w (fun e w' => ∃ v, e = .returned v ∧ v = .agg ⟨[vU r.1.Kind, .string ⟨⟨r.1.Text⟩⟩, vI r.1.Num, .string ⟨⟨r.1.Unit⟩⟩, .bool r.1.Flag]⟩ ∧ SH M (fpl [eB b_c [vS c_s, vI c_at_]]) w [eB b_c [vS c_s, vI r.2]] w') := by
 rw [token_scanner_bad] at hm
 have hS0 : SH M (fpl [eB b_c [vS c_s, vI c_at_]]) w [eB b_c [vS c_s, vI c_at_]] w := hS
 generalize hX : fpl [eB b_c [vS c_s, vI c_at_]] = X at hS0 ⊢
 clear hS hX
 have hS := hS0
 clear hS0
 refine calls_entryP Tryz.func115 rfl Tryz.ntmps115 rfl fun _ H => ?_
 refine w_seq ?_
 refine wl_start ?_
 have hd := hS.hand [] [0] rfl rfl
 refine m_stp [2, 0] [(0, [], vP b_c)] H rfl rfl rfl rfl (o_alloc [vU 0, vN, vI 0, vN, vF] (z := .agg ⟨[vU 0, vN, vI 0, vN, vF]⟩) hd (by kernel_rfl) rfl) (fun _ => rfl) fun _ wd2 v H3 hq => ?_
 clear H hd
 obtain ⟨b1, rfl, hq⟩ := hq
 replace hS : SH M X w [eB b1 [vU 0, vN, vI 0, vN, vF], eB b_c [vS c_s, vI c_at_]] _ := hS.join [] [0] rfl rfl hq
 clear hq
 refine wl_end rfl ?_
 refine w_block ?_
 refine w_loop (fun kk a' w' => ∃ (v4 : Int), token_scanner_bad_L1 m c_s kk v4 = some _ ∧ Fr 32 [(0, [], vP b_c), (2, [], vP b1)] a' ∧ SH M X w [eB b1 [vU 0, vN, vI 0, vN, vF], eB b_c [vS c_s, vI v4]] w') ⟨_, c_at_, hm, FrG.keep (ks := [0, 2]) H3 (by kernel_rfl), hS⟩ ?_
 clear hm H3 hS
 rintro kk _ wd38 ⟨v4, hm, H, hS⟩
 cases kk with
 | zero => exact noneE hm
 | succ kk =>
  rw [token_scanner_bad_L1] at hm
  refine w_block ?_
  refine w_seq ?_
  refine w_block ?_
  obtain ⟨y5, hy5, hm⟩ := bindE hm
  refine s_reg [(vI y5)] [0, 2, 3] [(0, [], vP b_c), (2, [], vP b1), (3, [], .bool (y5 == (-1)))] [fun wz => RetB Tryz.prog 45 ⟨[vP b_c, vI 0]⟩ (vI y5) wz] H (by kernel_rfl) ⟨(token_scanner_peek_ok (b_c := b_c) _ _ _ _ hy5 _ (s0ro s0nil (hS.bk 1 rfl))), trivial⟩ fun _ wd6 H7 hb => ?_
  clear H
  replace hS := hS.below hb
  clear hb
  refine w_if H7 rfl (fun hc => ?c37) (fun hc => ?_)
  case c37 =>
   replace hm := bT hc hm
   refine w_seq ?_
   refine wl_start ?_
   refine wl_batch 0 1 [] [2, 7] [(2, [], vP b1), (7, [], .agg ⟨[vU 8, vN, vI 0, vN, vF]⟩)] [] H7 (by decide) (by kernel_rfl) trivial fun _ wd8 H9 hb => ?_
   clear H7
   replace hS := hS.below hb
   clear hb
   have hd := hS.hand [0] [1] rfl rfl
   refine m_stp0 [2] [(2, [], vP b1)] H9 rfl rfl rfl (o_store [vU 8, vN, vI 0, vN, vF] H9 hd rfl rfl (by kernel_rfl) rfl rfl rfl) rfl fun _ wd10 H11 hq => ?_
   clear H9 hd
   obtain ⟨_, hq⟩ := hq
   replace hS : SH M X w [eB b1 [vU 8, vN, vI 0, vN, vF], eB b_c [vS c_s, vI v4]] _ := hS.join [0] [1] rfl rfl hq
   clear hq
   refine wl_end rfl ?_
   refine w_ret ?_
   obtain rfl := someE hm
   exact retR1 H11 rfl (oneRes_agg rfl (hS.bk 0 rfl) Tryz.underlying44 rfl (by kernel_rfl)) ⟨_, rfl, rfl, (hS.sel [1] rfl)⟩
  replace hm := bF hc hm
  obtain ⟨y12, hy12, hm⟩ := bindE hm
  refine s_reg [(.bool y12)] [0, 2, 8] [(0, [], vP b_c), (2, [], vP b1), (8, [], .bool y12)] [fun wz => RetB Tryz.prog 52 ⟨[vP b_c, vI 0]⟩ (.bool y12) wz] H7 (by kernel_rfl) ⟨(token_scanner_escape_ok (b_c := b_c) _ _ _ _ hy12 _ (s0ro s0nil (hS.bk 1 rfl))), trivial⟩ fun _ wd13 H14 hb => ?_
  clear H7
  replace hS := hS.below hb
  clear hb
  refine w_if H14 rfl (fun hc => ?c36) (fun hc => ?_)
  case c36 =>
   replace hm := bT hc hm
   refine w_seq ?_
   refine wl_start ?_
   refine wl_batch 0 1 [] [0, 2, 11] [(0, [], vP b_c), (2, [], vP b1), (11, [], vP b_c)] [] H14 (by decide) (by kernel_rfl) trivial fun _ wd15 H16 hb => ?_
   clear H14
   replace hS := hS.below hb
   clear hb
   replace hS : SH M X w [eO 5 (tI .u8) ([] : List Int) (.nil), eB b1 [vU 0, vN, vI 0, vN, vF], eB b_c [vS c_s, vI v4]] _ := hS.addNil 5 (tI .u8)
   obtain ⟨y18, hy18, hm⟩ := bindE hm
   have hd := hS.hand [2, 0] [1] rfl rfl
   refine m_stp [12, 0, 2] [(0, [], vP b_c), (2, [], vP b1)] H16 rfl rfl rfl rfl (o_callx H16 rfl rfl (token_scanner_escaped_ok (b_c := b_c) (g_b_ := Gh.nil) m _ _ _ _ hy18 _ _ hd)) (fun _ => rfl) fun _ wd21 v H22 hq => ?_
   clear H16 hd
   obtain ⟨g19, rfl, hq⟩ := hq
   replace hS : SH M X w [eO 5 (tI .u8) y18.1 g19, eB b_c [vS c_s, vI y18.2], eB b1 [vU 0, vN, vI 0, vN, vF]] _ := hS.join [2, 0] [1] rfl rfl hq
   clear hq
   refine wl_end rfl ?_
   replace hS : SH M X w [eB b_c [vS c_s, vI y18.2], eB b1 [vU 0, vN, vI 0, vN, vF]] _ := hS.sel [1, 2] rfl
   refine w_exit rfl ?_
   replace hS : SH M X w [eB b1 [vU 0, vN, vI 0, vN, vF], eB b_c [vS c_s, vI y18.2]] _ := hS.sel [1, 0] rfl
   exact ⟨_, Nat.lt_succ_self _, y18.2, hm, FrG.keep (ks := [0, 2]) H22 (by kernel_rfl), hS⟩
  replace hm := bF hc hm
  refine w_skip ?_
  refine w_seq ?_
  refine wl_start ?_
  refine wl_batch 0 7 [(vI v4)] [0, 2, 17, 19] [(0, [], vP b_c), (2, [], vP b1), (17, [], vI (w64 (v4 + 1))), (19, [], vA b_c 1)] [fun wz => V.at1 ⟨b_c, 1, none⟩ (vI v4) wz] H14 (by decide) (by kernel_rfl) ⟨((hS.bk 1 rfl).at1 rfl), trivial⟩ fun _ wd23 H24 hb => ?_
  clear H14
  replace hS := hS.below hb
  clear hb
  have hd := hS.hand [1] [0] rfl rfl
  refine m_stp0 [0, 2] [(0, [], vP b_c), (2, [], vP b1)] H24 rfl rfl rfl (o_store [vS c_s, vI (w64 (v4 + 1))] H24 hd rfl rfl (by kernel_rfl) rfl rfl rfl) rfl fun _ wd25 H26 hq => ?_
  clear H24 hd
  obtain ⟨_, hq⟩ := hq
  replace hS : SH M X w [eB b_c [vS c_s, vI (w64 (v4 + 1))], eB b1 [vU 0, vN, vI 0, vN, vF]] _ := hS.join [1] [0] rfl rfl hq
  clear hq
  refine wl_end rfl ?_
  obtain ⟨ho27, hm⟩ := chkE hm
  obtain ⟨x28, hx28, hm⟩ := letE hm
  refine s_draw [(vS c_s), (vI (w64 (v4 + 1)))] [0, 2, 30] [(0, [], vP b_c), (2, [], vP b1), (30, [], .bool x28)] [fun wz => V.at1 ⟨b_c, 0, none⟩ (vS c_s) wz, fun wz => V.at1 ⟨b_c, 1, none⟩ (vI (w64 (v4 + 1))) wz, fun _ => 0 ≤ (w64 ((w64 (v4 + 1)) - 1)) ∧ (w64 ((w64 (v4 + 1)) - 1)) < ln c_s] H26 (by kernel_rfl) (by kernel_rfl) (by subst hx28; kernel_rfl) ⟨((hS.bk 0 rfl).at1 rfl), ((hS.bk 0 rfl).at1 rfl), ho27, trivial⟩ fun _ wd29 H30 hb => ?_
  clear H26
  replace hS := hS.below hb
  clear hb
  refine w_if H30 rfl (fun hc => ?_) (fun hc => ?c35)
  case c35 =>
   replace hm := bF hc hm
   refine w_skip ?_
   replace hS : SH M X w [eB b1 [vU 0, vN, vI 0, vN, vF], eB b_c [vS c_s, vI (w64 (v4 + 1))]] _ := hS.sel [1, 0] rfl
   exact ⟨_, Nat.lt_succ_self _, w64 (v4 + 1), hm, FrG.keep (ks := [0, 2]) H30 (by kernel_rfl), hS⟩
  replace hm := bT hc hm
  refine w_seq ?_
  refine wl_start ?_
  refine wl_batch 0 1 [] [2, 31] [(2, [], vP b1), (31, [], .agg ⟨[vU 8, vN, vI 0, vN, vF]⟩)] [] H30 (by decide) (by kernel_rfl) trivial fun _ wd31 H32 hb => ?_
  clear H30
  replace hS := hS.below hb
  clear hb
  have hd := hS.hand [1] [0] rfl rfl
  refine m_stp0 [2] [(2, [], vP b1)] H32 rfl rfl rfl (o_store [vU 8, vN, vI 0, vN, vF] H32 hd rfl rfl (by kernel_rfl) rfl rfl rfl) rfl fun _ wd33 H34 hq => ?_
  clear H32 hd
  obtain ⟨_, hq⟩ := hq
  replace hS : SH M X w [eB b1 [vU 8, vN, vI 0, vN, vF], eB b_c [vS c_s, vI (w64 (v4 + 1))]] _ := hS.join [1] [0] rfl rfl hq
  clear hq
  refine wl_end rfl ?_
  refine w_ret ?_
  obtain rfl := someE hm
  exact retR1 H34 rfl (oneRes_agg rfl (hS.bk 0 rfl) Tryz.underlying44 rfl (by kernel_rfl)) ⟨_, rfl, rfl, (hS.sel [1] rfl)⟩
theorem token_scanner_bad_ok {b_c : Nat} (m : Nat) (c_s : Str) (c_at_ : Int) (r : TToken × Int) (hm : token_scanner_bad m c_s c_at_ = some r) (M : Av) (w : World) (hS : S0 M [eB b_c [vS c_s, vI c_at_]] w) : DoesX Tryz.prog 115 ⟨[vP b_c]⟩ w (fun v w' => v = .agg ⟨[vU r.1.Kind, .string ⟨⟨r.1.Text⟩⟩, vI r.1.Num, .string ⟨⟨r.1.Unit⟩⟩, .bool r.1.Flag]⟩ ∧ SH M (fpl [eB b_c [vS c_s, vI c_at_]]) w [eB b_c [vS c_s, vI r.2]] w') := ⟨Tryz.call115 _, token_scanner_bad_w M m   c_s c_at_ r hm w hS⟩

theorem token_scanner_url_w {b_c : Nat} (M : Av) (m : Nat) (c_s : Str) (c_at_ : Int) (r : TToken × Int) (hm : token_scanner_url m c_s c_at_ = some r) (w : World) (hS : S0 M [eB b_c [vS c_s, vI c_at_]] w) : Calls Tryz.prog 91 ⟨[vP b_c]⟩ w (fun e w' => ∃ v, e = .returned v ∧ v = .agg ⟨[vU r.1.Kind, .string ⟨⟨r.1.Text⟩⟩, vI r.1.Num, .string ⟨⟨r.1.Unit⟩⟩, .bool r.1.Flag]⟩ ∧ SH M (fpl [eB b_c [vS c_s, vI c_at_]]) w [eB b_c [vS c_s, vI r.2]] w') := by
 rw [token_scanner_url] at hm
 have hS0 : SH M (fpl [eB b_c [vS c_s, vI c_at_]]) w [eB b_c [vS c_s, vI c_at_]] w := hS
 generalize hX : fpl [eB b_c [vS c_s, vI c_at_]] = X at hS0 ⊢
 clear hS hX
 have hS := hS0
 clear hS0
 refine calls_entryP Tryz.func91 rfl Tryz.ntmps91 rfl fun _ H => ?_
 refine w_seq ?_
 refine wl_start ?_
 have hd := hS.hand [] [0] rfl rfl
 refine m_stp [2, 0] [(0, [], vP b_c)] H rfl rfl rfl rfl (o_alloc [vU 0, vN, vI 0, vN, vF] (z := .agg ⟨[vU 0, vN, vI 0, vN, vF]⟩) hd (by kernel_rfl) rfl) (fun _ => rfl) fun _ wd2 v H3 hq => ?_
 clear H hd
 obtain ⟨b1, rfl, hq⟩ := hq
 replace hS : SH M X w [eB b1 [vU 0, vN, vI 0, vN, vF], eB b_c [vS c_s, vI c_at_]] _ := hS.join [] [0] rfl rfl hq
 clear hq
 refine wl_end rfl ?_
 refine w_seq ?_
 refine wl_start ?_
 refine wl_batch 0 1 [] [0, 2, 5] [(0, [], vP b_c), (2, [], vP b1), (5, [], vP b_c)] [] H3 (by decide) (by kernel_rfl) trivial fun _ wd4 H5 hb => ?_
 clear H3
 replace hS := hS.below hb
 clear hb
 obtain ⟨y6, hy6, hm⟩ := bindE hm
 have hd := hS.hand [1] [0] rfl rfl
 refine m_stp [6, 0, 2] [(0, [], vP b_c), (2, [], vP b1)] H5 rfl rfl rfl rfl (o_callx H5 rfl rfl (token_scanner_while_ok (b_c := b_c) m _ _ _ hy6 _ _ hd)) (fun _ => rfl) fun _ wd7 v H8 hq => ?_
 clear H5 hd
 obtain ⟨rfl, hq⟩ := hq
 replace hS : SH M X w [eB b_c [vS c_s, vI y6], eB b1 [vU 0, vN, vI 0, vN, vF]] _ := hS.join [1] [0] rfl rfl hq
 clear hq
 refine wl_end rfl ?_
 refine s_reg [] [0, 2, 3] [(0, [], vP b_c), (2, [], vP b1), (3, [], vO)] [] H8 (by kernel_rfl) trivial fun _ wd9 H10 hb => ?_
 clear H8
 replace hS := hS.below hb
 clear hb
 refine w_block ?_
 replace hS : SH M X w [eO 5 (tI .u8) ([] : List Int) (.nil), eB b_c [vS c_s, vI y6], eB b1 [vU 0, vN, vI 0, vN, vF]] _ := hS.addNil 5 (tI .u8)
 refine w_loop (fun kk a' w' => ∃ (v12 : List Int) (v14 : Int) (g13 : Gh), token_scanner_url_L1 m c_s kk v12 v14 = some _ ∧ Fr 94 [(0, [], vP b_c), (2, [], vP b1), (3, [], vL g13 v12)] a' ∧ SH M X w [eO 5 (tI .u8) v12 g13, eB b_c [vS c_s, vI v14], eB b1 [vU 0, vN, vI 0, vN, vF]] w') ⟨_, ([] : List Int), y6, Gh.nil, hm, FrG.keep (ks := [0, 2, 3]) H10 (by kernel_rfl), hS⟩ ?_
 clear hm H10 hS
 rintro kk _ wd112 ⟨v12, v14, g13, hm, H, hS⟩
 cases kk with
 | zero => exact noneE hm
 | succ kk =>
  rw [token_scanner_url_L1] at hm
  refine w_block ?_
  obtain ⟨y15, hy15, hm⟩ := bindE hm
  refine s_reg [(vI y15)] [0, 2, 3, 4] [(0, [], vP b_c), (2, [], vP b1), (3, [], vL g13 v12), (4, [], vI y15)] [fun wz => RetB Tryz.prog 45 ⟨[vP b_c, vI 0]⟩ (vI y15) wz] H (by kernel_rfl) ⟨(token_scanner_peek_ok (b_c := b_c) _ _ _ _ hy15 _ (s0ro s0nil (hS.bk 1 rfl))), trivial⟩ fun _ wd16 H17 hb => ?_
  clear H
  replace hS := hS.below hb
  clear hb
  obtain ⟨z18, hz, hm_z18⟩ := bindE hm
  refine w_cut (fun a' w' => ∃ s_z18 : Int × Int, z18 = Sum.inr s_z18 ∧ Fr 94 [(0, [], vP b_c), (2, [], vP b1), (3, [], vL g13 v12), (4, [], vI s_z18.1)] a' ∧ SH M X w [eO 5 (tI .u8) v12 g13, eB b_c [vS c_s, vI s_z18.2], eB b1 [vU 0, vN, vI 0, vN, vF]] w') ?_ ?_
  ·replace hm := hz
   refine s_reg [(.bool (token_space y15))] [0, 2, 3, 4, 10] [(0, [], vP b_c), (2, [], vP b1), (3, [], vL g13 v12), (4, [], vI y15), (10, [], .bool (token_space y15))] [fun wz => RetB Tryz.prog 57 ⟨[vI y15]⟩ (.bool (token_space y15)) wz] H17 (by kernel_rfl) ⟨((token_space_ok _).b), trivial⟩ fun _ wd19 H20 hb => ?_
   clear H17
   replace hS := hS.below hb
   clear hb
   refine w_if H20 rfl (fun hc => ?_) (fun hc => ?c39)
   case c39 =>
    replace hm := bF hc hm
    refine w_skip ?_
    obtain rfl := someE hm
    exact ⟨_, rfl, FrG.keep (ks := [0, 2, 3, 4]) H20 (by kernel_rfl), hS⟩
   replace hm := bT hc hm
   refine w_seq ?_
   refine wl_start ?_
   refine wl_batch 0 1 [] [0, 2, 3, 11] [(0, [], vP b_c), (2, [], vP b1), (3, [], vL g13 v12), (11, [], vP b_c)] [] H20 (by decide) (by kernel_rfl) trivial fun _ wd21 H22 hb => ?_
   clear H20
   replace hS := hS.below hb
   clear hb
   obtain ⟨y23, hy23, hm⟩ := bindE hm
   have hd := hS.hand [1] [0, 2] rfl rfl
   refine m_stp [12, 0, 2, 3] [(0, [], vP b_c), (2, [], vP b1), (3, [], vL g13 v12)] H22 rfl rfl rfl rfl (o_callx H22 rfl rfl (token_scanner_while_ok (b_c := b_c) m _ _ _ hy23 _ _ hd)) (fun _ => rfl) fun _ wd24 v H25 hq => ?_
   clear H22 hd
   obtain ⟨rfl, hq⟩ := hq
   replace hS : SH M X w [eB b_c [vS c_s, vI y23], eO 5 (tI .u8) v12 g13, eB b1 [vU 0, vN, vI 0, vN, vF]] _ := hS.join [1] [0, 2] rfl rfl hq
   clear hq
   refine wl_end rfl ?_
   obtain ⟨y26, hy26, hm⟩ := bindE hm
   refine s_reg [(vI y26)] [0, 2, 3, 4] [(0, [], vP b_c), (2, [], vP b1), (3, [], vL g13 v12), (4, [], vI y26)] [fun wz => RetB Tryz.prog 45 ⟨[vP b_c, vI 0]⟩ (vI y26) wz] H25 (by kernel_rfl) ⟨(token_scanner_peek_ok (b_c := b_c) _ _ _ _ hy26 _ (s0ro s0nil (hS.bk 0 rfl))), trivial⟩ fun _ wd27 H28 hb => ?_
   clear H25
   replace hS := hS.below hb
   clear hb
   refine s_reg [] [0, 2, 3, 4, 20] [(0, [], vP b_c), (2, [], vP b1), (3, [], vL g13 v12), (4, [], vI y26), (20, [], .bool (cond (y26 != 41) (y26 != (-1)) false))] [] H28 (by kernel_rfl) trivial fun _ wd29 H30 hb => ?_
   clear H28
   replace hS := hS.below hb
   clear hb
   refine w_if H30 rfl (fun hc => ?_) (fun hc => ?c38)
   case c38 =>
    replace hm := bF hc hm
    refine w_skip ?_
    obtain rfl := someE hm
    replace hS : SH M X w [eO 5 (tI .u8) v12 g13, eB b_c [vS c_s, vI y23], eB b1 [vU 0, vN, vI 0, vN, vF]] _ := hS.sel [1, 0, 2] rfl
    exact ⟨_, rfl, FrG.keep (ks := [0, 2, 3, 4]) H30 (by kernel_rfl), hS⟩
   replace hm := bT hc hm
   refine w_seq ?_
   refine wl_start ?_
   refine wl_batch 0 1 [] [2, 21] [(2, [], vP b1), (21, [], vP b_c)] [] H30 (by decide) (by kernel_rfl) trivial fun _ wd31 H32 hb => ?_
   clear H30
   replace hS := hS.below hb
   clear hb
   obtain ⟨y33, hy33, hm⟩ := bindE hm
   have hd := hS.hand [0] [1, 2] rfl rfl
   refine m_stp [22, 2] [(2, [], vP b1)] H32 rfl rfl rfl rfl (o_callx H32 rfl rfl (token_scanner_bad_ok (b_c := b_c) m _ _ _ hy33 _ _ hd)) (fun _ => rfl) fun _ wd34 v H35 hq => ?_
   clear H32 hd
   obtain ⟨rfl, hq⟩ := hq
   replace hS : SH M X w [eB b_c [vS c_s, vI y33.2], eO 5 (tI .u8) v12 g13, eB b1 [vU 0, vN, vI 0, vN, vF]] _ := hS.join [0] [1, 2] rfl rfl hq
   clear hq
   have hd := hS.hand [2] [0, 1] rfl rfl
   refine m_stp0 [2] [(2, [], vP b1)] H35 rfl rfl rfl (o_store [vU y33.1.Kind, .string ⟨⟨y33.1.Text⟩⟩, vI y33.1.Num, .string ⟨⟨y33.1.Unit⟩⟩, .bool y33.1.Flag] H35 hd rfl rfl (by kernel_rfl) rfl rfl rfl) rfl fun _ wd36 H37 hq => ?_
   clear H35 hd
   obtain ⟨_, hq⟩ := hq
   replace hS : SH M X w [eB b1 [vU y33.1.Kind, .string ⟨⟨y33.1.Text⟩⟩, vI y33.1.Num, .string ⟨⟨y33.1.Unit⟩⟩, .bool y33.1.Flag], eB b_c [vS c_s, vI y33.2], eO 5 (tI .u8) v12 g13] _ := hS.join [2] [0, 1] rfl rfl hq
   clear hq
   refine wl_end rfl ?_
   refine w_ret ?_
   obtain rfl := someE hm
   have hm := hm_z18
   obtain rfl := someE hm
   exact retR1 H37 rfl (oneRes_agg rfl (hS.bk 0 rfl) Tryz.underlying44 rfl (by kernel_rfl)) ⟨_, rfl, rfl, (hS.sel [1] rfl)⟩
  ·rintro _ wd111 ⟨s_z18, hz, H, hS⟩
   subst hz
   replace hm := sumR hm_z18
   refine w_block ?_
   refine s_reg [] [0, 2, 3, 4, 25] [(0, [], vP b_c), (2, [], vP b1), (3, [], vL g13 v12), (4, [], vI s_z18.1), (25, [], .bool (s_z18.1 == (-1)))] [] H (by kernel_rfl) trivial fun _ wd40 H41 hb => ?_
   clear H
   replace hS := hS.below hb
   clear hb
   refine w_if H41 rfl (fun hc => ?c110) (fun hc => ?_)
   case c110 =>
    replace hm := bT hc hm
    refine w_seq ?_
    refine wl_start ?_
    refine wl_batch 0 3 [(.string ⟨⟨toB v12⟩⟩)] [2, 30] [(2, [], vP b1), (30, [], .agg ⟨[vU 7, .string ⟨⟨toB v12⟩⟩, vI 0, vN, vF]⟩)] [fun wz => ∀ w', Below wz.heap.size wz w' → (convert 49 9 (vL g13 v12)).run Tryz.prog w' = .ok (.string ⟨⟨toB v12⟩⟩) w'] H41 (by decide) (by kernel_rfl) ⟨(conv_slG (E := 5) (by kernel_rfl) (by kernel_rfl) (by kernel_rfl) (hS.osl 0 rfl)), trivial⟩ fun _ wd42 H43 hb => ?_
    clear H41
    replace hS := hS.below hb
    clear hb
    have hd := hS.hand [2] [0, 1] rfl rfl
    refine m_stp0 [2] [(2, [], vP b1)] H43 rfl rfl rfl (o_store [vU 7, .string ⟨⟨toB v12⟩⟩, vI 0, vN, vF] H43 hd rfl rfl (by kernel_rfl) rfl rfl rfl) rfl fun _ wd44 H45 hq => ?_
    clear H43 hd
    obtain ⟨_, hq⟩ := hq
    replace hS : SH M X w [eB b1 [vU 7, .string ⟨⟨toB v12⟩⟩, vI 0, vN, vF], eO 5 (tI .u8) v12 g13, eB b_c [vS c_s, vI s_z18.2]] _ := hS.join [2] [0, 1] rfl rfl hq
    clear hq
    refine wl_end rfl ?_
    refine w_ret ?_
    obtain rfl := someE hm
    exact retR1 H45 rfl (oneRes_agg rfl (hS.bk 0 rfl) Tryz.underlying44 rfl (by kernel_rfl)) ⟨_, rfl, rfl, (hS.sel [2] rfl)⟩
   replace hm := bF hc hm
   refine s_reg [] [0, 2, 3, 4, 31] [(0, [], vP b_c), (2, [], vP b1), (3, [], vL g13 v12), (4, [], vI s_z18.1), (31, [], .bool (s_z18.1 == 41))] [] H41 (by kernel_rfl) trivial fun _ wd46 H47 hb => ?_
   clear H41
   replace hS := hS.below hb
   clear hb
   refine w_if H47 rfl (fun hc => ?c109) (fun hc => ?_)
   case c109 =>
    replace hm := bT hc hm
    refine w_seq ?_
    refine wl_start ?_
    refine wl_batch 0 7 [(vI s_z18.2)] [2, 3, 38, 40] [(2, [], vP b1), (3, [], vL g13 v12), (38, [], vI (w64 (s_z18.2 + 1))), (40, [], vA b_c 1)] [fun wz => V.at1 ⟨b_c, 1, none⟩ (vI s_z18.2) wz] H47 (by decide) (by kernel_rfl) ⟨((hS.bk 1 rfl).at1 rfl), trivial⟩ fun _ wd48 H49 hb => ?_
    clear H47
    replace hS := hS.below hb
    clear hb
    have hd := hS.hand [1] [0, 2] rfl rfl
    refine m_stp0 [2, 3] [(2, [], vP b1), (3, [], vL g13 v12)] H49 rfl rfl rfl (o_store [vS c_s, vI (w64 (s_z18.2 + 1))] H49 hd rfl rfl (by kernel_rfl) rfl rfl rfl) rfl fun _ wd50 H51 hq => ?_
    clear H49 hd
    obtain ⟨_, hq⟩ := hq
    replace hS : SH M X w [eB b_c [vS c_s, vI (w64 (s_z18.2 + 1))], eO 5 (tI .u8) v12 g13, eB b1 [vU 0, vN, vI 0, vN, vF]] _ := hS.join [1] [0, 2] rfl rfl hq
    clear hq
    refine wl_end rfl ?_
    refine w_seq ?_
    refine wl_start ?_
    refine wl_batch 0 3 [(.string ⟨⟨toB v12⟩⟩)] [2, 43] [(2, [], vP b1), (43, [], .agg ⟨[vU 7, .string ⟨⟨toB v12⟩⟩, vI 0, vN, vF]⟩)] [fun wz => ∀ w', Below wz.heap.size wz w' → (convert 49 9 (vL g13 v12)).run Tryz.prog w' = .ok (.string ⟨⟨toB v12⟩⟩) w'] H51 (by decide) (by kernel_rfl) ⟨(conv_slG (E := 5) (by kernel_rfl) (by kernel_rfl) (by kernel_rfl) (hS.osl 1 rfl)), trivial⟩ fun _ wd52 H53 hb => ?_
    clear H51
    replace hS := hS.below hb
    clear hb
    have hd := hS.hand [2] [0, 1] rfl rfl
    refine m_stp0 [2] [(2, [], vP b1)] H53 rfl rfl rfl (o_store [vU 7, .string ⟨⟨toB v12⟩⟩, vI 0, vN, vF] H53 hd rfl rfl (by kernel_rfl) rfl rfl rfl) rfl fun _ wd54 H55 hq => ?_
    clear H53 hd
    obtain ⟨_, hq⟩ := hq
    replace hS : SH M X w [eB b1 [vU 7, .string ⟨⟨toB v12⟩⟩, vI 0, vN, vF], eB b_c [vS c_s, vI (w64 (s_z18.2 + 1))], eO 5 (tI .u8) v12 g13] _ := hS.join [2] [0, 1] rfl rfl hq
    clear hq
    refine wl_end rfl ?_
    refine w_ret ?_
    obtain rfl := someE hm
    exact retR1 H55 rfl (oneRes_agg rfl (hS.bk 0 rfl) Tryz.underlying44 rfl (by kernel_rfl)) ⟨_, rfl, rfl, (hS.sel [1] rfl)⟩
   replace hm := bF hc hm
   obtain ⟨x56, hx56, hm⟩ := letE hm
   obtain ⟨x57, hx57, hm⟩ := letE hm
   obtain ⟨x58, hx58, hm⟩ := letE hm
   refine s_reg [(.bool (token_within s_z18.1 14 31))] [0, 2, 3, 4, 44] [(0, [], vP b_c), (2, [], vP b1), (3, [], vL g13 v12), (4, [], vI s_z18.1), (44, [], .bool (cond x58 true (s_z18.1 == 127)))] [fun wz => ((cond x57 true (s_z18.1 == 11)) = false ∧ True → RetB Tryz.prog 77 ⟨[vI s_z18.1, vI 14, vI 31]⟩ (.bool (token_within s_z18.1 14 31)) wz)] H47 (by subst hx56 hx57 hx58; kernel_rfl) ⟨fun hg => (token_within_ok _ _ _).b, trivial⟩ fun _ wd59 H60 hb => ?_
   clear H47
   replace hS := hS.below hb
   clear hb
   refine w_if H60 rfl (fun hc => ?c108) (fun hc => ?_)
   case c108 =>
    replace hm := bT hc hm
    refine w_seq ?_
    refine wl_start ?_
    refine wl_batch 0 1 [] [2, 71] [(2, [], vP b1), (71, [], vP b_c)] [] H60 (by decide) (by kernel_rfl) trivial fun _ wd61 H62 hb => ?_
    clear H60
    replace hS := hS.below hb
    clear hb
    obtain ⟨y63, hy63, hm⟩ := bindE hm
    have hd := hS.hand [1] [0, 2] rfl rfl
    refine m_stp [72, 2] [(2, [], vP b1)] H62 rfl rfl rfl rfl (o_callx H62 rfl rfl (token_scanner_bad_ok (b_c := b_c) m _ _ _ hy63 _ _ hd)) (fun _ => rfl) fun _ wd64 v H65 hq => ?_
    clear H62 hd
    obtain ⟨rfl, hq⟩ := hq
    replace hS : SH M X w [eB b_c [vS c_s, vI y63.2], eO 5 (tI .u8) v12 g13, eB b1 [vU 0, vN, vI 0, vN, vF]] _ := hS.join [1] [0, 2] rfl rfl hq
    clear hq
    have hd := hS.hand [2] [0, 1] rfl rfl
    refine m_stp0 [2] [(2, [], vP b1)] H65 rfl rfl rfl (o_store [vU y63.1.Kind, .string ⟨⟨y63.1.Text⟩⟩, vI y63.1.Num, .string ⟨⟨y63.1.Unit⟩⟩, .bool y63.1.Flag] H65 hd rfl rfl (by kernel_rfl) rfl rfl rfl) rfl fun _ wd66 H67 hq => ?_
    clear H65 hd
    obtain ⟨_, hq⟩ := hq
    replace hS : SH M X w [eB b1 [vU y63.1.Kind, .string ⟨⟨y63.1.Text⟩⟩, vI y63.1.Num, .string ⟨⟨y63.1.Unit⟩⟩, .bool y63.1.Flag], eB b_c [vS c_s, vI y63.2], eO 5 (tI .u8) v12 g13] _ := hS.join [2] [0, 1] rfl rfl hq
    clear hq
    refine wl_end rfl ?_
    refine w_ret ?_
    obtain rfl := someE hm
    exact retR1 H67 rfl (oneRes_agg rfl (hS.bk 0 rfl) Tryz.underlying44 rfl (by kernel_rfl)) ⟨_, rfl, rfl, (hS.sel [1] rfl)⟩
   replace hm := bF hc hm
   refine s_reg [] [0, 2, 3, 4, 73] [(0, [], vP b_c), (2, [], vP b1), (3, [], vL g13 v12), (4, [], vI s_z18.1), (73, [], .bool (s_z18.1 != 92))] [] H60 (by kernel_rfl) trivial fun _ wd68 H69 hb => ?_
   clear H60
   replace hS := hS.below hb
   clear hb
   refine w_if H69 rfl (fun hc => ?c107) (fun hc => ?_)
   case c107 =>
    replace hm := bT hc hm
    refine w_seq ?_
    refine wl_start ?_
    refine wl_batch 0 3 [] [0, 2, 76, 78] [(0, [], vP b_c), (2, [], vP b1), (76, [], vL g13 v12), (78, [], vU (wu8 s_z18.1))] [] H69 (by decide) (by kernel_rfl) trivial fun _ wd70 H71 hb => ?_
    clear H69
    replace hS := hS.below hb
    clear hb
    have hd := hS.hand [] [0, 1, 2] rfl rfl
    refine m_stp [79, 0, 2, 76] [(0, [], vP b_c), (2, [], vP b1), (76, [], vL g13 v12)] H71 rfl rfl rfl rfl (o_lit (T := (tI .u8)) (E := 5) (zv := vU 0) [vU (wu8 s_z18.1)] ([wu8 s_z18.1] : List Int) [gL []] _ H71 hd rfl (by kernel_rfl) (by kernel_rfl) (by kernel_rfl) (by kernel_rfl) (by kernel_rfl) (by kernel_rfl) (by kernel_rfl) rfl (InnL.cons trivial InnL.nil)) (fun _ => rfl) fun _ wd74 v H75 hq => ?_
    clear H71 hd
    obtain ⟨g72, rfl, hq⟩ := hq
    replace hS : SH M X w [eO 5 (tI .u8) ([wu8 s_z18.1] : List Int) g72, eO 5 (tI .u8) v12 g13, eB b_c [vS c_s, vI s_z18.2], eB b1 [vU 0, vN, vI 0, vN, vF]] _ := hS.join [] [0, 1, 2] rfl rfl hq
    clear hq
    obtain ⟨ho76, hm⟩ := chkE hm
    obtain ⟨q77, hq77, hm⟩ := letE hm
    have hd := hS.hand [1, 0] [2, 3] rfl rfl
    refine m_stp [80, 0, 2] [(0, [], vP b_c), (2, [], vP b1)] H75 rfl rfl rfl rfl (o_app2 (T := (tI .u8)) (zv := vU 0) (g1 := g13) (g2 := g72) (l1 := v12) (l2 := ([wu8 s_z18.1] : List Int)) q77 hq77.symm H75 hd rfl rfl rfl rfl rfl rfl rfl (by kernel_rfl) (by kernel_rfl) rfl rfl ho76) (fun _ => rfl) fun _ wd78 v H79 hq => ?_
    clear H75 hd
    obtain ⟨g80, rfl, hq⟩ := hq
    replace hS : SH M X w [eO 5 (tI .u8) q77 g80, eO 5 (tI .u8) ([wu8 s_z18.1] : List Int) g72, eB b_c [vS c_s, vI s_z18.2], eB b1 [vU 0, vN, vI 0, vN, vF]] _ := hS.join [1, 0] [2, 3] rfl rfl hq
    clear hq
    refine wl_batch 5 6 [] [0, 2, 3] [(0, [], vP b_c), (2, [], vP b1), (3, [], vL g80 q77)] [] H79 (by decide) (by kernel_rfl) trivial fun _ wd81 H82 hb => ?_
    clear H79
    replace hS := hS.below hb
    clear hb
    refine wl_end rfl ?_
    replace hS : SH M X w [eO 5 (tI .u8) q77 g80, eB b_c [vS c_s, vI s_z18.2], eB b1 [vU 0, vN, vI 0, vN, vF]] _ := hS.sel [0, 2, 3] rfl
    refine wl_start ?_
    refine wl_batch 0 7 [(vI s_z18.2)] [0, 2, 3, 85, 87] [(0, [], vP b_c), (2, [], vP b1), (3, [], vL g80 q77), (85, [], vI (w64 (s_z18.2 + 1))), (87, [], vA b_c 1)] [fun wz => V.at1 ⟨b_c, 1, none⟩ (vI s_z18.2) wz] H82 (by decide) (by kernel_rfl) ⟨((hS.bk 1 rfl).at1 rfl), trivial⟩ fun _ wd83 H84 hb => ?_
    clear H82
    replace hS := hS.below hb
    clear hb
    have hd := hS.hand [1] [0, 2] rfl rfl
    refine m_stp0 [0, 2, 3] [(0, [], vP b_c), (2, [], vP b1), (3, [], vL g80 q77)] H84 rfl rfl rfl (o_store [vS c_s, vI (w64 (s_z18.2 + 1))] H84 hd rfl rfl (by kernel_rfl) rfl rfl rfl) rfl fun _ wd85 H86 hq => ?_
    clear H84 hd
    obtain ⟨_, hq⟩ := hq
    replace hS : SH M X w [eB b_c [vS c_s, vI (w64 (s_z18.2 + 1))], eO 5 (tI .u8) q77 g80, eB b1 [vU 0, vN, vI 0, vN, vF]] _ := hS.join [1] [0, 2] rfl rfl hq
    clear hq
    refine wl_end rfl ?_
    replace hS : SH M X w [eO 5 (tI .u8) q77 g80, eB b_c [vS c_s, vI (w64 (s_z18.2 + 1))], eB b1 [vU 0, vN, vI 0, vN, vF]] _ := hS.sel [1, 0, 2] rfl
    exact ⟨_, Nat.lt_succ_self _, q77, w64 (s_z18.2 + 1), g80, hm, FrG.keep (ks := [0, 2, 3]) H86 (by kernel_rfl), hS⟩
   replace hm := bF hc hm
   obtain ⟨y87, hy87, hm⟩ := bindE hm
   refine s_reg [(.bool y87)] [0, 2, 3, 88] [(0, [], vP b_c), (2, [], vP b1), (3, [], vL g13 v12), (88, [], .bool y87)] [fun wz => RetB Tryz.prog 52 ⟨[vP b_c, vI 0]⟩ (.bool y87) wz] H69 (by kernel_rfl) ⟨(token_scanner_escape_ok (b_c := b_c) _ _ _ _ hy87 _ (s0ro s0nil (hS.bk 1 rfl))), trivial⟩ fun _ wd88 H89 hb => ?_
   clear H69
   replace hS := hS.below hb
   clear hb
   refine w_if H89 rfl (fun hc => ?c106) (fun hc => ?_)
   case c106 =>
    replace hm := bT hc hm
    refine wl_start ?_
    refine wl_batch 0 2 [] [0, 2, 91, 92] [(0, [], vP b_c), (2, [], vP b1), (91, [], vP b_c), (92, [], vL g13 v12)] [] H89 (by decide) (by kernel_rfl) trivial fun _ wd90 H91 hb => ?_
    clear H89
    replace hS := hS.below hb
    clear hb
    obtain ⟨y92, hy92, hm⟩ := bindE hm
    have hd := hS.hand [1, 0] [2] rfl rfl
    refine m_stp [93, 0, 2] [(0, [], vP b_c), (2, [], vP b1)] H91 rfl rfl rfl rfl (o_callx H91 rfl rfl (token_scanner_escaped_ok (b_c := b_c) (g_b_ := g13) m _ _ _ _ hy92 _ _ hd)) (fun _ => rfl) fun _ wd95 v H96 hq => ?_
    clear H91 hd
    obtain ⟨g93, rfl, hq⟩ := hq
    replace hS : SH M X w [eO 5 (tI .u8) y92.1 g93, eB b_c [vS c_s, vI y92.2], eB b1 [vU 0, vN, vI 0, vN, vF]] _ := hS.join [1, 0] [2] rfl rfl hq
    clear hq
    refine wl_batch 3 4 [] [0, 2, 3] [(0, [], vP b_c), (2, [], vP b1), (3, [], .slice g93.a y92.1.length g93.c)] [] H96 (by decide) (by kernel_rfl) trivial fun _ wd97 H98 hb => ?_
    clear H96
    replace hS := hS.below hb
    clear hb
    refine wl_end rfl ?_
    exact ⟨_, Nat.lt_succ_self _, y92.1, y92.2, g93, hm, FrG.keep (ks := [0, 2, 3]) H98 (by kernel_rfl), hS⟩
   replace hm := bF hc hm
   refine w_seq ?_
   refine wl_start ?_
   refine wl_batch 0 1 [] [2, 23] [(2, [], vP b1), (23, [], vP b_c)] [] H89 (by decide) (by kernel_rfl) trivial fun _ wd99 H100 hb => ?_
   clear H89
   replace hS := hS.below hb
   clear hb
   obtain ⟨y101, hy101, hm⟩ := bindE hm
   have hd := hS.hand [1] [0, 2] rfl rfl
   refine m_stp [24, 2] [(2, [], vP b1)] H100 rfl rfl rfl rfl (o_callx H100 rfl rfl (token_scanner_bad_ok (b_c := b_c) m _ _ _ hy101 _ _ hd)) (fun _ => rfl) fun _ wd102 v H103 hq => ?_
   clear H100 hd
   obtain ⟨rfl, hq⟩ := hq
   replace hS : SH M X w [eB b_c [vS c_s, vI y101.2], eO 5 (tI .u8) v12 g13, eB b1 [vU 0, vN, vI 0, vN, vF]] _ := hS.join [1] [0, 2] rfl rfl hq
   clear hq
   have hd := hS.hand [2] [0, 1] rfl rfl
   refine m_stp0 [2] [(2, [], vP b1)] H103 rfl rfl rfl (o_store [vU y101.1.Kind, .string ⟨⟨y101.1.Text⟩⟩, vI y101.1.Num, .string ⟨⟨y101.1.Unit⟩⟩, .bool y101.1.Flag] H103 hd rfl rfl (by kernel_rfl) rfl rfl rfl) rfl fun _ wd104 H105 hq => ?_
   clear H103 hd
   obtain ⟨_, hq⟩ := hq
   replace hS : SH M X w [eB b1 [vU y101.1.Kind, .string ⟨⟨y101.1.Text⟩⟩, vI y101.1.Num, .string ⟨⟨y101.1.Unit⟩⟩, .bool y101.1.Flag], eB b_c [vS c_s, vI y101.2], eO 5 (tI .u8) v12 g13] _ := hS.join [2] [0, 1] rfl rfl hq
   clear hq
   refine wl_end rfl ?_
   refine w_ret ?_
   obtain rfl := someE hm
   exact retR1 H105 rfl (oneRes_agg rfl (hS.bk 0 rfl) Tryz.underlying44 rfl (by kernel_rfl)) ⟨_, rfl, rfl, (hS.sel [1] rfl)⟩
theorem token_scanner_url_ok {b_c : Nat} (m : Nat) (c_s : Str) (c_at_ : Int) (r : TToken × Int) (hm : token_scanner_url m c_s c_at_ = some r) (M : Av) (w : World) (hS : S0 M [eB b_c [vS c_s, vI c_at_]] w) : DoesX Tryz.prog 91 ⟨[vP b_c]⟩ w (fun v w' => v = .agg ⟨[vU r.1.Kind, .string ⟨⟨r.1.Text⟩⟩, vI r.1.Num, .string ⟨⟨r.1.Unit⟩⟩, .bool r.1.Flag]⟩ ∧ SH M (fpl [eB b_c [vS c_s, vI c_at_]]) w [eB b_c [vS c_s, vI r.2]] w') := ⟨Tryz.call91 _, token_scanner_url_w M m   c_s c_at_ r hm w hS⟩

theorem token_scanner_ident_w {b_c : Nat} (M : Av) (m : Nat) (c_s : Str) (c_at_ : Int) (r : TToken × Int) (hm : token_scanner_ident m c_s c_at_ = some r) (w : World) (hS : S0 M [eB b_c [vS c_s, vI c_at_]] w) : Calls Tryz.prog 60 ⟨[vP b_c]⟩ w (fun e w' => ∃ v, e = .returned v ∧ v = .agg ⟨[vU r.1.Kind, .string ⟨⟨r.1.Text⟩⟩, vI r.1.Num, .string ⟨⟨r.1.Unit⟩⟩, .bool r.1.Flag]⟩ ∧ SH M (fpl [eB b_c [vS c_s, vI c_at_]]) w [eB b_c [vS c_s, vI r.2]] w') := by
 rw [token_scanner_ident] at hm
 have hS0 : SH M (fpl [eB b_c [vS c_s, vI c_at_]]) w [eB b_c [vS c_s, vI c_at_]] w := hS
 generalize hX : fpl [eB b_c [vS c_s, vI c_at_]] = X at hS0 ⊢
 clear hS hX
 have hS := hS0
 clear hS0
 refine calls_entryP Tryz.func60 rfl Tryz.ntmps60 rfl fun _ H => ?_
 refine w_seq ?_
 refine wl_start ?_
 have hd := hS.hand [] [0] rfl rfl
 refine m_stp [2, 0] [(0, [], vP b_c)] H rfl rfl rfl rfl (o_alloc [vU 0, vN, vI 0, vN, vF] (z := .agg ⟨[vU 0, vN, vI 0, vN, vF]⟩) hd (by kernel_rfl) rfl) (fun _ => rfl) fun _ wd2 v H3 hq => ?_
 clear H hd
 obtain ⟨b1, rfl, hq⟩ := hq
 replace hS : SH M X w [eB b1 [vU 0, vN, vI 0, vN, vF], eB b_c [vS c_s, vI c_at_]] _ := hS.join [] [0] rfl rfl hq
 clear hq
 refine wl_end rfl ?_
 refine w_seq ?_
 refine wl_start ?_
 refine wl_batch 0 1 [] [0, 2, 6] [(0, [], vP b_c), (2, [], vP b1), (6, [], vP b_c)] [] H3 (by decide) (by kernel_rfl) trivial fun _ wd4 H5 hb => ?_
 clear H3
 replace hS := hS.below hb
 clear hb
 obtain ⟨y6, hy6, hm⟩ := bindE hm
 have hd := hS.hand [1] [0] rfl rfl
 refine m_stp [7, 0, 2] [(0, [], vP b_c), (2, [], vP b1)] H5 rfl rfl rfl rfl (o_callx H5 rfl rfl (token_scanner_word_ok (b_c := b_c) m _ _ _ hy6 _ _ hd)) (fun _ => rfl) fun _ wd7 v H8 hq => ?_
 clear H5 hd
 obtain ⟨rfl, hq⟩ := hq
 replace hS : SH M X w [eB b_c [vS c_s, vI y6.2], eB b1 [vU 0, vN, vI 0, vN, vF]] _ := hS.join [1] [0] rfl rfl hq
 clear hq
 refine wl_batch 2 3 [] [0, 2, 3] [(0, [], vP b_c), (2, [], vP b1), (3, [], .string ⟨⟨y6.1⟩⟩)] [] H8 (by decide) (by kernel_rfl) trivial fun _ wd9 H10 hb => ?_
 clear H8
 replace hS := hS.below hb
 clear hb
 refine wl_end rfl ?_
 refine w_seq ?_
 obtain ⟨y11, hy11, hm⟩ := bindE hm
 refine s_reg [(vI y11)] [0, 2, 3, 10] [(0, [], vP b_c), (2, [], vP b1), (3, [], .string ⟨⟨y6.1⟩⟩), (10, [], .bool (y11 != 40))] [fun wz => RetB Tryz.prog 45 ⟨[vP b_c, vI 0]⟩ (vI y11) wz] H10 (by kernel_rfl) ⟨(token_scanner_peek_ok (b_c := b_c) _ _ _ _ hy11 _ (s0ro s0nil (hS.bk 0 rfl))), trivial⟩ fun _ wd12 H13 hb => ?_
 clear H10
 replace hS := hS.below hb
 clear hb
 refine w_if H13 rfl (fun hc => ?c55) (fun hc => ?_)
 case c55 =>
  replace hm := bT hc hm
  refine w_seq ?_
  refine wl_start ?_
  refine wl_batch 0 2 [] [2, 12] [(2, [], vP b1), (12, [], .agg ⟨[vU 1, .string ⟨⟨y6.1⟩⟩, vI 0, vN, vF]⟩)] [] H13 (by decide) (by kernel_rfl) trivial fun _ wd14 H15 hb => ?_
  clear H13
  replace hS := hS.below hb
  clear hb
  have hd := hS.hand [1] [0] rfl rfl
  refine m_stp0 [2] [(2, [], vP b1)] H15 rfl rfl rfl (o_store [vU 1, .string ⟨⟨y6.1⟩⟩, vI 0, vN, vF] H15 hd rfl rfl (by kernel_rfl) rfl rfl rfl) rfl fun _ wd16 H17 hq => ?_
  clear H15 hd
  obtain ⟨_, hq⟩ := hq
  replace hS : SH M X w [eB b1 [vU 1, .string ⟨⟨y6.1⟩⟩, vI 0, vN, vF], eB b_c [vS c_s, vI y6.2]] _ := hS.join [1] [0] rfl rfl hq
  clear hq
  refine wl_end rfl ?_
  refine w_ret ?_
  obtain rfl := someE hm
  exact retR1 H17 rfl (oneRes_agg rfl (hS.bk 0 rfl) Tryz.underlying44 rfl (by kernel_rfl)) ⟨_, rfl, rfl, (hS.sel [1] rfl)⟩
 replace hm := bF hc hm
 refine w_skip ?_
 refine w_seq ?_
 refine wl_start ?_
 refine wl_batch 0 7 [(vI y6.2)] [0, 2, 3, 17, 19] [(0, [], vP b_c), (2, [], vP b1), (3, [], .string ⟨⟨y6.1⟩⟩), (17, [], vI (w64 (y6.2 + 1))), (19, [], vA b_c 1)] [fun wz => V.at1 ⟨b_c, 1, none⟩ (vI y6.2) wz] H13 (by decide) (by kernel_rfl) ⟨((hS.bk 0 rfl).at1 rfl), trivial⟩ fun _ wd18 H19 hb => ?_
 clear H13
 replace hS := hS.below hb
 clear hb
 have hd := hS.hand [0] [1] rfl rfl
 refine m_stp0 [0, 2, 3] [(0, [], vP b_c), (2, [], vP b1), (3, [], .string ⟨⟨y6.1⟩⟩)] H19 rfl rfl rfl (o_store [vS c_s, vI (w64 (y6.2 + 1))] H19 hd rfl rfl (by kernel_rfl) rfl rfl rfl) rfl fun _ wd20 H21 hq => ?_
 clear H19 hd
 obtain ⟨_, hq⟩ := hq
 replace hS : SH M X w [eB b_c [vS c_s, vI (w64 (y6.2 + 1))], eB b1 [vU 0, vN, vI 0, vN, vF]] _ := hS.join [0] [1] rfl rfl hq
 clear hq
 refine wl_end rfl ?_
 obtain ⟨z22, hz, hm_z22⟩ := bindE hm
 refine w_cut (fun a' w' => ∃ s_z22 : Unit, z22 = Sum.inr s_z22 ∧ Fr 37 [(2, [], vP b1), (3, [], .string ⟨⟨y6.1⟩⟩)] a' ∧ SH M X w [eB b_c [vS c_s, vI (w64 (y6.2 + 1))], eB b1 [vU 0, vN, vI 0, vN, vF]] w') ?_ ?_
 ·replace hm := hz
  obtain ⟨y23, hy23, hm⟩ := bindE hm
  refine s_reg [(.bool y23)] [0, 2, 3, 21] [(0, [], vP b_c), (2, [], vP b1), (3, [], .string ⟨⟨y6.1⟩⟩), (21, [], .bool y23)] [fun wz => RetB Tryz.prog 90 ⟨[.string ⟨⟨y6.1⟩⟩, vS [117, 114, 108]]⟩ (.bool y23) wz] H21 (by kernel_rfl) ⟨((input_Alike_ok m _ _ _ hy23).b), trivial⟩ fun _ wd24 H25 hb => ?_
  clear H21
  replace hS := hS.below hb
  clear hb
  refine w_if H25 rfl (fun hc => ?_) (fun hc => ?c49)
  case c49 =>
   replace hm := bF hc hm
   refine w_skip ?_
   obtain rfl := someE hm
   exact ⟨_, rfl, FrG.keep (ks := [2, 3]) H25 (by kernel_rfl), hS⟩
  replace hm := bT hc hm
  refine w_seq ?_
  refine wl_start ?_
  refine wl_batch 0 3 [(.agg ⟨[vS c_s, vI (w64 (y6.2 + 1))]⟩)] [0, 2, 3, 24] [(0, [], vP b_c), (2, [], vP b1), (3, [], .string ⟨⟨y6.1⟩⟩), (24, [], .agg ⟨[vS c_s, vI (w64 (y6.2 + 1))]⟩)] [fun wz => V.atN b_c 0 [vS c_s, vI (w64 (y6.2 + 1))] 0 wz] H25 (by decide) (by kernel_rfl) ⟨((hS.bk 0 rfl).atD rfl), trivial⟩ fun _ wd26 H27 hb => ?_
  clear H25
  replace hS := hS.below hb
  clear hb
  have hd := hS.hand [] [0, 1] rfl rfl
  refine m_stp [4, 0, 2, 3, 24] [(0, [], vP b_c), (2, [], vP b1), (3, [], .string ⟨⟨y6.1⟩⟩), (24, [], .agg ⟨[vS c_s, vI (w64 (y6.2 + 1))]⟩)] H27 rfl rfl rfl rfl (o_alloc [vN, vI 0] (z := .agg ⟨[vN, vI 0]⟩) hd (by kernel_rfl) rfl) (fun _ => rfl) fun _ wd29 v H30 hq => ?_
  clear H27 hd
  obtain ⟨b28, rfl, hq⟩ := hq
  replace hS : SH M X w [eB b28 [vN, vI 0], eB b_c [vS c_s, vI (w64 (y6.2 + 1))], eB b1 [vU 0, vN, vI 0, vN, vF]] _ := hS.join [] [0, 1] rfl rfl hq
  clear hq
  have hd := hS.hand [0] [1, 2] rfl rfl
  refine m_stp0 [0, 2, 3, 4] [(0, [], vP b_c), (2, [], vP b1), (3, [], .string ⟨⟨y6.1⟩⟩), (4, [], vP b28)] H30 rfl rfl rfl (o_store [vS c_s, vI (w64 (y6.2 + 1))] H30 hd rfl rfl (by kernel_rfl) rfl rfl rfl) rfl fun _ wd31 H32 hq => ?_
  clear H30 hd
  obtain ⟨_, hq⟩ := hq
  replace hS : SH M X w [eB b28 [vS c_s, vI (w64 (y6.2 + 1))], eB b_c [vS c_s, vI (w64 (y6.2 + 1))], eB b1 [vU 0, vN, vI 0, vN, vF]] _ := hS.join [0] [1, 2] rfl rfl hq
  clear hq
  refine wl_end rfl ?_
  refine w_seq ?_
  refine wl_start ?_
  obtain ⟨y33, hy33, hm⟩ := bindE hm
  have hd := hS.hand [0] [1, 2] rfl rfl
  refine m_stp [25, 0, 2, 3, 4] [(0, [], vP b_c), (2, [], vP b1), (3, [], .string ⟨⟨y6.1⟩⟩), (4, [], vP b28)] H32 rfl rfl rfl rfl (o_callx H32 rfl rfl (token_scanner_while_ok (b_c := b28) m _ _ _ hy33 _ _ hd)) (fun _ => rfl) fun _ wd34 v H35 hq => ?_
  clear H32 hd
  obtain ⟨rfl, hq⟩ := hq
  replace hS : SH M X w [eB b28 [vS c_s, vI y33], eB b_c [vS c_s, vI (w64 (y6.2 + 1))], eB b1 [vU 0, vN, vI 0, vN, vF]] _ := hS.join [0] [1, 2] rfl rfl hq
  clear hq
  refine wl_end rfl ?_
  obtain ⟨y36, hy36, hm⟩ := bindE hm
  refine s_reg [(vI y36)] [0, 2, 3, 5] [(0, [], vP b_c), (2, [], vP b1), (3, [], .string ⟨⟨y6.1⟩⟩), (5, [], vI y36)] [fun wz => RetB Tryz.prog 45 ⟨[vP b28, vI 0]⟩ (vI y36) wz] H35 (by kernel_rfl) ⟨(token_scanner_peek_ok (b_c := b28) _ _ _ _ hy36 _ (s0ro s0nil (hS.bk 0 rfl))), trivial⟩ fun _ wd37 H38 hb => ?_
  clear H35
  replace hS := hS.below hb
  clear hb
  replace hS : SH M X w [eB b_c [vS c_s, vI (w64 (y6.2 + 1))], eB b1 [vU 0, vN, vI 0, vN, vF]] _ := hS.sel [1, 2] rfl
  refine s_reg [] [0, 2, 3, 32] [(0, [], vP b_c), (2, [], vP b1), (3, [], .string ⟨⟨y6.1⟩⟩), (32, [], .bool (cond (y36 != 34) (y36 != 39) false))] [] H38 (by kernel_rfl) trivial fun _ wd39 H40 hb => ?_
  clear H38
  replace hS := hS.below hb
  clear hb
  refine w_if H40 rfl (fun hc => ?_) (fun hc => ?c48)
  case c48 =>
   replace hm := bF hc hm
   refine w_skip ?_
   obtain rfl := someE hm
   exact ⟨_, rfl, FrG.keep (ks := [2, 3]) H40 (by kernel_rfl), hS⟩
  replace hm := bT hc hm
  refine w_seq ?_
  refine wl_start ?_
  refine wl_batch 0 1 [] [2, 33] [(2, [], vP b1), (33, [], vP b_c)] [] H40 (by decide) (by kernel_rfl) trivial fun _ wd41 H42 hb => ?_
  clear H40
  replace hS := hS.below hb
  clear hb
  obtain ⟨y43, hy43, hm⟩ := bindE hm
  have hd := hS.hand [0] [1] rfl rfl
  refine m_stp [34, 2] [(2, [], vP b1)] H42 rfl rfl rfl rfl (o_callx H42 rfl rfl (token_scanner_url_ok (b_c := b_c) m _ _ _ hy43 _ _ hd)) (fun _ => rfl) fun _ wd44 v H45 hq => ?_
  clear H42 hd
  obtain ⟨rfl, hq⟩ := hq
  replace hS : SH M X w [eB b_c [vS c_s, vI y43.2], eB b1 [vU 0, vN, vI 0, vN, vF]] _ := hS.join [0] [1] rfl rfl hq
  clear hq
  have hd := hS.hand [1] [0] rfl rfl
  refine m_stp0 [2] [(2, [], vP b1)] H45 rfl rfl rfl (o_store [vU y43.1.Kind, .string ⟨⟨y43.1.Text⟩⟩, vI y43.1.Num, .string ⟨⟨y43.1.Unit⟩⟩, .bool y43.1.Flag] H45 hd rfl rfl (by kernel_rfl) rfl rfl rfl) rfl fun _ wd46 H47 hq => ?_
  clear H45 hd
  obtain ⟨_, hq⟩ := hq
  replace hS : SH M X w [eB b1 [vU y43.1.Kind, .string ⟨⟨y43.1.Text⟩⟩, vI y43.1.Num, .string ⟨⟨y43.1.Unit⟩⟩, .bool y43.1.Flag], eB b_c [vS c_s, vI y43.2]] _ := hS.join [1] [0] rfl rfl hq
  clear hq
  refine wl_end rfl ?_
  refine w_ret ?_
  obtain rfl := someE hm
  have hm := hm_z22
  obtain rfl := someE hm
  exact retR1 H47 rfl (oneRes_agg rfl (hS.bk 0 rfl) Tryz.underlying44 rfl (by kernel_rfl)) ⟨_, rfl, rfl, (hS.sel [1] rfl)⟩
 ·rintro _ wd54 ⟨s_z22, hz, H, hS⟩
  subst hz
  replace hm := sumR hm_z22
  refine w_seq ?_
  refine wl_start ?_
  refine wl_batch 0 2 [] [2, 36] [(2, [], vP b1), (36, [], .agg ⟨[vU 2, .string ⟨⟨y6.1⟩⟩, vI 0, vN, vF]⟩)] [] H (by decide) (by kernel_rfl) trivial fun _ wd50 H51 hb => ?_
  clear H
  replace hS := hS.below hb
  clear hb
  have hd := hS.hand [1] [0] rfl rfl
  refine m_stp0 [2] [(2, [], vP b1)] H51 rfl rfl rfl (o_store [vU 2, .string ⟨⟨y6.1⟩⟩, vI 0, vN, vF] H51 hd rfl rfl (by kernel_rfl) rfl rfl rfl) rfl fun _ wd52 H53 hq => ?_
  clear H51 hd
  obtain ⟨_, hq⟩ := hq
  replace hS : SH M X w [eB b1 [vU 2, .string ⟨⟨y6.1⟩⟩, vI 0, vN, vF], eB b_c [vS c_s, vI (w64 (y6.2 + 1))]] _ := hS.join [1] [0] rfl rfl hq
  clear hq
  refine wl_end rfl ?_
  refine w_ret ?_
  obtain rfl := someE hm
  exact retR1 H53 rfl (oneRes_agg rfl (hS.bk 0 rfl) Tryz.underlying44 rfl (by kernel_rfl)) ⟨_, rfl, rfl, (hS.sel [1] rfl)⟩
theorem token_scanner_ident_ok {b_c : Nat} (m : Nat) (c_s : Str) (c_at_ : Int) (r : TToken × Int) (hm : token_scanner_ident m c_s c_at_ = some r) (M : Av) (w : World) (hS : S0 M [eB b_c [vS c_s, vI c_at_]] w) : DoesX Tryz.prog 60 ⟨[vP b_c]⟩ w (fun v w' => v = .agg ⟨[vU r.1.Kind, .string ⟨⟨r.1.Text⟩⟩, vI r.1.Num, .string ⟨⟨r.1.Unit⟩⟩, .bool r.1.Flag]⟩ ∧ SH M (fpl [eB b_c [vS c_s, vI c_at_]]) w [eB b_c [vS c_s, vI r.2]] w') := ⟨Tryz.call60 _, token_scanner_ident_w M m   c_s c_at_ r hm w hS⟩

theorem strings_IndexByte_w  (M : Av) (s : Str) (c_ : Int) (r : Int) (hm : strings_IndexByte s c_ = r) (w : World) (hS : S0 M [] w) : Calls Tryz.prog 61 ⟨[vS s, vU c_]⟩ w (fun e w' => ∃ v, e = .returned v ∧ v = vI r ∧ SH M (fpl []) w [] w') := by
 rw [strings_IndexByte] at hm
 have hS0 : SH M (fpl []) w [] w := hS
 generalize hX : fpl [] = X at hS0 ⊢
 clear hS hX
 have hS := hS0
 clear hS0
 refine calls_entryP Tryz.func61 rfl Tryz.ntmps61 rfl fun _ H => ?_
 refine s_reg [] [0, 1] [(0, [], vS s), (1, [], vU c_)] [] H (by kernel_rfl) trivial fun _ wd1 H2 hb => ?_
 clear H
 replace hS := hS.below hb
 clear hb
 refine s_reg [(vI (stringslite_IndexByte s c_))] [4] [(4, [], vI (stringslite_IndexByte s c_))] [fun wz => RetB Tryz.prog 92 ⟨[vS s, vU c_]⟩ (vI (stringslite_IndexByte s c_)) wz] H2 (by kernel_rfl) ⟨((stringslite_IndexByte_ok _ _).b), trivial⟩ fun _ wd3 H4 hb => ?_
 clear H2
 replace hS := hS.below hb
 clear hb
 refine w_ret ?_
 subst hm
 exact retR1 H4 rfl rfl ⟨_, rfl, rfl, (hS.sel [] rfl)⟩
theorem strings_IndexByte_ok  (s : Str) (c_ : Int) : Ret Tryz.prog 61 ⟨[vS s, vU c_]⟩ (vI (strings_IndexByte s c_)) := retP_of (Tryz.call61 _) (fun w h => strings_IndexByte_w F0   s c_ _ rfl w h)

theorem token_scanner_next_w {b_c : Nat} (M : Av) (m : Nat) (c_s : Str) (c_at_ : Int) (r : TToken × Int) (hm : token_scanner_next m c_s c_at_ = some r) (w : World) (hS : S0 M [eB b_c [vS c_s, vI c_at_]] w) : Calls Tryz.prog 38 ⟨[vP b_c]⟩ w (fun e w' => ∃ v, e = .returned v ∧ v = .agg ⟨[vU r.1.Kind, .string ⟨⟨r.1.Text⟩⟩, vI r.1.Num, .string ⟨⟨r.1.Unit⟩⟩, .bool r.1.Flag]⟩ ∧ SH M (fpl [eB b_c [vS c_s, vI c_at_]]) w [eB b_c [vS c_s, vI r.2]] w') := by
 rw [token_scanner_next] at hm
 have hS0 : SH M (fpl [eB b_c [vS c_s, vI c_at_]]) w [eB b_c [vS c_s, vI c_at_]] w := hS
 generalize hX : fpl [eB b_c [vS c_s, vI c_at_]] = X at hS0 ⊢
 clear hS hX
 have hS := hS0
 clear hS0
 refine calls_entryP Tryz.func38 rfl Tryz.ntmps38 rfl fun _ H => ?_
 refine w_seq ?_
 refine wl_start ?_
 have hd := hS.hand [] [0] rfl rfl
 refine m_stp [2, 0] [(0, [], vP b_c)] H rfl rfl rfl rfl (o_alloc [vU 0, vN, vI 0, vN, vF] (z := .agg ⟨[vU 0, vN, vI 0, vN, vF]⟩) hd (by kernel_rfl) rfl) (fun _ => rfl) fun _ wd2 v H3 hq => ?_
 clear H hd
 obtain ⟨b1, rfl, hq⟩ := hq
 replace hS : SH M X w [eB b1 [vU 0, vN, vI 0, vN, vF], eB b_c [vS c_s, vI c_at_]] _ := hS.join [] [0] rfl rfl hq
 clear hq
 refine wl_end rfl ?_
 obtain ⟨y4, hy4, hm⟩ := bindE hm
 obtain ⟨ho5, hm⟩ := chkE hm
 refine s_draw [(vI y4), (vS c_s), (vI c_at_)] [0, 2, 3, 4] [(0, [], vP b_c), (2, [], vP b1), (3, [], vI y4), (4, [], .string ⟨⟨sub c_s c_at_ (ln c_s)⟩⟩)] [fun wz => RetB Tryz.prog 45 ⟨[vP b_c, vI 0]⟩ (vI y4) wz, fun wz => V.at1 ⟨b_c, 0, none⟩ (vS c_s) wz, fun wz => V.at1 ⟨b_c, 1, none⟩ (vI c_at_) wz, fun _ => 0 ≤ c_at_ ∧ c_at_ ≤ ln c_s] H3 (by kernel_rfl) (by kernel_rfl) (by kernel_rfl) ⟨(token_scanner_peek_ok (b_c := b_c) _ _ _ _ hy4 _ (s0ro s0nil (hS.bk 1 rfl))), ((hS.bk 1 rfl).at1 rfl), ((hS.bk 1 rfl).at1 rfl), ho5, trivial⟩ fun _ wd6 H7 hb => ?_
 clear H3
 replace hS := hS.below hb
 clear hb
 refine w_seq ?_
 refine w_block ?_
 refine s_reg [(.bool (token_space y4))] [0, 2, 3, 4, 18] [(0, [], vP b_c), (2, [], vP b1), (3, [], vI y4), (4, [], .string ⟨⟨sub c_s c_at_ (ln c_s)⟩⟩), (18, [], .bool (token_space y4))] [fun wz => RetB Tryz.prog 57 ⟨[vI y4]⟩ (.bool (token_space y4)) wz] H7 (by kernel_rfl) ⟨((token_space_ok _).b), trivial⟩ fun _ wd8 H9 hb => ?_
 clear H7
 replace hS := hS.below hb
 clear hb
 refine w_if H9 rfl (fun hc => ?c133) (fun hc => ?_)
 case c133 =>
  replace hm := bT hc hm
  refine w_seq ?_
  refine wl_start ?_
  refine wl_batch 0 1 [] [2, 21] [(2, [], vP b1), (21, [], vP b_c)] [] H9 (by decide) (by kernel_rfl) trivial fun _ wd10 H11 hb => ?_
  clear H9
  replace hS := hS.below hb
  clear hb
  obtain ⟨y12, hy12, hm⟩ := bindE hm
  have hd := hS.hand [1] [0] rfl rfl
  refine m_stp [22, 2] [(2, [], vP b1)] H11 rfl rfl rfl rfl (o_callx H11 rfl rfl (token_scanner_while_ok (b_c := b_c) m _ _ _ hy12 _ _ hd)) (fun _ => rfl) fun _ wd13 v H14 hq => ?_
  clear H11 hd
  obtain ⟨rfl, hq⟩ := hq
  replace hS : SH M X w [eB b_c [vS c_s, vI y12], eB b1 [vU 0, vN, vI 0, vN, vF]] _ := hS.join [1] [0] rfl rfl hq
  clear hq
  refine wl_end rfl ?_
  refine w_seq ?_
  refine wl_start ?_
  refine wl_batch 0 1 [] [2, 23] [(2, [], vP b1), (23, [], .agg ⟨[vU 13, vN, vI 0, vN, vF]⟩)] [] H14 (by decide) (by kernel_rfl) trivial fun _ wd15 H16 hb => ?_
  clear H14
  replace hS := hS.below hb
  clear hb
  have hd := hS.hand [1] [0] rfl rfl
  refine m_stp0 [2] [(2, [], vP b1)] H16 rfl rfl rfl (o_store [vU 13, vN, vI 0, vN, vF] H16 hd rfl rfl (by kernel_rfl) rfl rfl rfl) rfl fun _ wd17 H18 hq => ?_
  clear H16 hd
  obtain ⟨_, hq⟩ := hq
  replace hS : SH M X w [eB b1 [vU 13, vN, vI 0, vN, vF], eB b_c [vS c_s, vI y12]] _ := hS.join [1] [0] rfl rfl hq
  clear hq
  refine wl_end rfl ?_
  refine w_ret ?_
  obtain rfl := someE hm
  exact retR1 H18 rfl (oneRes_agg rfl (hS.bk 0 rfl) Tryz.underlying44 rfl (by kernel_rfl)) ⟨_, rfl, rfl, (hS.sel [1] rfl)⟩
 replace hm := bF hc hm
 refine s_reg [] [0, 2, 3, 4, 24] [(0, [], vP b_c), (2, [], vP b1), (3, [], vI y4), (4, [], .string ⟨⟨sub c_s c_at_ (ln c_s)⟩⟩), (24, [], .bool (cond (y4 == 34) true (y4 == 39)))] [] H9 (by kernel_rfl) trivial fun _ wd19 H20 hb => ?_
 clear H9
 replace hS := hS.below hb
 clear hb
 refine w_if H20 rfl (fun hc => ?c132) (fun hc => ?_)
 case c132 =>
  replace hm := bT hc hm
  refine w_seq ?_
  refine wl_start ?_
  refine wl_batch 0 1 [] [2, 31] [(2, [], vP b1), (31, [], vP b_c)] [] H20 (by decide) (by kernel_rfl) trivial fun _ wd21 H22 hb => ?_
  clear H20
  replace hS := hS.below hb
  clear hb
  obtain ⟨y23, hy23, hm⟩ := bindE hm
  have hd := hS.hand [1] [0] rfl rfl
  refine m_stp [32, 2] [(2, [], vP b1)] H22 rfl rfl rfl rfl (o_callx H22 rfl rfl (token_scanner_quoted_ok (b_c := b_c) m _ _ _ hy23 _ _ hd)) (fun _ => rfl) fun _ wd24 v H25 hq => ?_
  clear H22 hd
  obtain ⟨rfl, hq⟩ := hq
  replace hS : SH M X w [eB b_c [vS c_s, vI y23.2], eB b1 [vU 0, vN, vI 0, vN, vF]] _ := hS.join [1] [0] rfl rfl hq
  clear hq
  have hd := hS.hand [1] [0] rfl rfl
  refine m_stp0 [2] [(2, [], vP b1)] H25 rfl rfl rfl (o_store [vU y23.1.Kind, .string ⟨⟨y23.1.Text⟩⟩, vI y23.1.Num, .string ⟨⟨y23.1.Unit⟩⟩, .bool y23.1.Flag] H25 hd rfl rfl (by kernel_rfl) rfl rfl rfl) rfl fun _ wd26 H27 hq => ?_
  clear H25 hd
  obtain ⟨_, hq⟩ := hq
  replace hS : SH M X w [eB b1 [vU y23.1.Kind, .string ⟨⟨y23.1.Text⟩⟩, vI y23.1.Num, .string ⟨⟨y23.1.Unit⟩⟩, .bool y23.1.Flag], eB b_c [vS c_s, vI y23.2]] _ := hS.join [1] [0] rfl rfl hq
  clear hq
  refine wl_end rfl ?_
  refine w_ret ?_
  obtain rfl := someE hm
  exact retR1 H27 rfl (oneRes_agg rfl (hS.bk 0 rfl) Tryz.underlying44 rfl (by kernel_rfl)) ⟨_, rfl, rfl, (hS.sel [1] rfl)⟩
 replace hm := bF hc hm
 obtain ⟨y28, hy28, hm⟩ := bindE hm
 obtain ⟨y29, hy29, hm⟩ := bindE hm
 obtain ⟨x30, hx30, hm⟩ := letE hm
 refine s_reg [(vI y28), (.bool (token_letter y28)), (.bool y29)] [0, 2, 3, 4, 33] [(0, [], vP b_c), (2, [], vP b1), (3, [], vI y4), (4, [], .string ⟨⟨sub c_s c_at_ (ln c_s)⟩⟩), (33, [], .bool x30)] [fun wz => ((y4 == 35) = true ∧ True → RetB Tryz.prog 45 ⟨[vP b_c, vI 1]⟩ (vI y28) wz), fun wz => ((y4 == 35) = true ∧ True → RetB Tryz.prog 53 ⟨[vI y28]⟩ (.bool (token_letter y28)) wz), fun wz => ((token_letter y28) = false ∧ (y4 == 35) = true ∧ True → RetB Tryz.prog 52 ⟨[vP b_c, vI 1]⟩ (.bool y29) wz)] H20 (by subst hx30; kernel_rfl) ⟨fun hg => token_scanner_peek_ok (b_c := b_c) _ _ _ _ (bT (hg.1) hy28) _ (s0ro s0nil (hS.bk 1 rfl)), fun hg => (token_letter_ok _).b, fun hg => token_scanner_escape_ok (b_c := b_c) _ _ _ _ (bF (hg.1) (bT (hg.2.1) hy29)) _ (s0ro s0nil (hS.bk 1 rfl)), trivial⟩ fun _ wd31 H32 hb => ?_
 clear H20
 replace hS := hS.below hb
 clear hb
 refine w_if H32 rfl (fun hc => ?c131) (fun hc => ?_)
 case c131 =>
  replace hm := bT hc hm
  obtain ⟨y33, hy33, hm⟩ := bindE hm
  refine s_reg [(.bool y33)] [0, 2, 5] [(0, [], vP b_c), (2, [], vP b1), (5, [], .bool y33)] [fun wz => RetB Tryz.prog 35 ⟨[vP b_c, vI 1]⟩ (.bool y33) wz] H32 (by kernel_rfl) ⟨(token_scanner_name_ok (b_c := b_c) _ _ _ _ hy33 _ (s0ro s0nil (hS.bk 1 rfl))), trivial⟩ fun _ wd34 H35 hb => ?_
  clear H32
  replace hS := hS.below hb
  clear hb
  refine w_seq ?_
  refine wl_start ?_
  refine wl_batch 0 7 [(vI c_at_)] [0, 2, 5, 51, 53] [(0, [], vP b_c), (2, [], vP b1), (5, [], .bool y33), (51, [], vI (w64 (c_at_ + 1))), (53, [], vA b_c 1)] [fun wz => V.at1 ⟨b_c, 1, none⟩ (vI c_at_) wz] H35 (by decide) (by kernel_rfl) ⟨((hS.bk 1 rfl).at1 rfl), trivial⟩ fun _ wd36 H37 hb => ?_
  clear H35
  replace hS := hS.below hb
  clear hb
  have hd := hS.hand [1] [0] rfl rfl
  refine m_stp0 [0, 2, 5] [(0, [], vP b_c), (2, [], vP b1), (5, [], .bool y33)] H37 rfl rfl rfl (o_store [vS c_s, vI (w64 (c_at_ + 1))] H37 hd rfl rfl (by kernel_rfl) rfl rfl rfl) rfl fun _ wd38 H39 hq => ?_
  clear H37 hd
  obtain ⟨_, hq⟩ := hq
  replace hS : SH M X w [eB b_c [vS c_s, vI (w64 (c_at_ + 1))], eB b1 [vU 0, vN, vI 0, vN, vF]] _ := hS.join [1] [0] rfl rfl hq
  clear hq
  refine wl_end rfl ?_
  refine w_seq ?_
  refine wl_start ?_
  refine wl_batch 0 1 [] [2, 5, 54] [(2, [], vP b1), (5, [], .bool y33), (54, [], vP b_c)] [] H39 (by decide) (by kernel_rfl) trivial fun _ wd40 H41 hb => ?_
  clear H39
  replace hS := hS.below hb
  clear hb
  obtain ⟨y42, hy42, hm⟩ := bindE hm
  have hd := hS.hand [0] [1] rfl rfl
  refine m_stp [55, 2, 5] [(2, [], vP b1), (5, [], .bool y33)] H41 rfl rfl rfl rfl (o_callx H41 rfl rfl (token_scanner_word_ok (b_c := b_c) m _ _ _ hy42 _ _ hd)) (fun _ => rfl) fun _ wd43 v H44 hq => ?_
  clear H41 hd
  obtain ⟨rfl, hq⟩ := hq
  replace hS : SH M X w [eB b_c [vS c_s, vI y42.2], eB b1 [vU 0, vN, vI 0, vN, vF]] _ := hS.join [0] [1] rfl rfl hq
  clear hq
  refine wl_batch 2 4 [] [2, 57] [(2, [], vP b1), (57, [], .agg ⟨[vU 4, .string ⟨⟨y42.1⟩⟩, vI 0, vN, .bool y33]⟩)] [] H44 (by decide) (by kernel_rfl) trivial fun _ wd45 H46 hb => ?_
  clear H44
  replace hS := hS.below hb
  clear hb
  have hd := hS.hand [1] [0] rfl rfl
  refine m_stp0 [2] [(2, [], vP b1)] H46 rfl rfl rfl (o_store [vU 4, .string ⟨⟨y42.1⟩⟩, vI 0, vN, .bool y33] H46 hd rfl rfl (by kernel_rfl) rfl rfl rfl) rfl fun _ wd47 H48 hq => ?_
  clear H46 hd
  obtain ⟨_, hq⟩ := hq
  replace hS : SH M X w [eB b1 [vU 4, .string ⟨⟨y42.1⟩⟩, vI 0, vN, .bool y33], eB b_c [vS c_s, vI y42.2]] _ := hS.join [1] [0] rfl rfl hq
  clear hq
  refine wl_end rfl ?_
  refine w_ret ?_
  obtain rfl := someE hm
  exact retR1 H48 rfl (oneRes_agg rfl (hS.bk 0 rfl) Tryz.underlying44 rfl (by kernel_rfl)) ⟨_, rfl, rfl, (hS.sel [1] rfl)⟩
 replace hm := bF hc hm
 obtain ⟨y49, hy49, hm⟩ := bindE hm
 refine s_reg [(.bool y49)] [0, 2, 3, 4, 58] [(0, [], vP b_c), (2, [], vP b1), (3, [], vI y4), (4, [], .string ⟨⟨sub c_s c_at_ (ln c_s)⟩⟩), (58, [], .bool y49)] [fun wz => RetB Tryz.prog 32 ⟨[vP b_c]⟩ (.bool y49) wz] H32 (by kernel_rfl) ⟨(token_scanner_number_ok (b_c := b_c) _ _ _ hy49 _ (s0ro s0nil (hS.bk 1 rfl))), trivial⟩ fun _ wd50 H51 hb => ?_
 clear H32
 replace hS := hS.below hb
 clear hb
 refine w_if H51 rfl (fun hc => ?c130) (fun hc => ?_)
 case c130 =>
  replace hm := bT hc hm
  refine w_seq ?_
  refine wl_start ?_
  refine wl_batch 0 1 [] [2, 61] [(2, [], vP b1), (61, [], vP b_c)] [] H51 (by decide) (by kernel_rfl) trivial fun _ wd52 H53 hb => ?_
  clear H51
  replace hS := hS.below hb
  clear hb
  obtain ⟨y54, hy54, hm⟩ := bindE hm
  have hd := hS.hand [1] [0] rfl rfl
  refine m_stp [62, 2] [(2, [], vP b1)] H53 rfl rfl rfl rfl (o_callx H53 rfl rfl (token_scanner_numeric_ok (b_c := b_c) m _ _ _ hy54 _ _ hd)) (fun _ => rfl) fun _ wd55 v H56 hq => ?_
  clear H53 hd
  obtain ⟨rfl, hq⟩ := hq
  replace hS : SH M X w [eB b_c [vS c_s, vI y54.2], eB b1 [vU 0, vN, vI 0, vN, vF]] _ := hS.join [1] [0] rfl rfl hq
  clear hq
  have hd := hS.hand [1] [0] rfl rfl
  refine m_stp0 [2] [(2, [], vP b1)] H56 rfl rfl rfl (o_store [vU y54.1.Kind, .string ⟨⟨y54.1.Text⟩⟩, vI y54.1.Num, .string ⟨⟨y54.1.Unit⟩⟩, .bool y54.1.Flag] H56 hd rfl rfl (by kernel_rfl) rfl rfl rfl) rfl fun _ wd57 H58 hq => ?_
  clear H56 hd
  obtain ⟨_, hq⟩ := hq
  replace hS : SH M X w [eB b1 [vU y54.1.Kind, .string ⟨⟨y54.1.Text⟩⟩, vI y54.1.Num, .string ⟨⟨y54.1.Unit⟩⟩, .bool y54.1.Flag], eB b_c [vS c_s, vI y54.2]] _ := hS.join [1] [0] rfl rfl hq
  clear hq
  refine wl_end rfl ?_
  refine w_ret ?_
  obtain rfl := someE hm
  exact retR1 H58 rfl (oneRes_agg rfl (hS.bk 0 rfl) Tryz.underlying44 rfl (by kernel_rfl)) ⟨_, rfl, rfl, (hS.sel [1] rfl)⟩
 replace hm := bF hc hm
 obtain ⟨y59, hy59, hm⟩ := bindE hm
 refine s_reg [(.bool y59)] [0, 2, 3, 4, 63] [(0, [], vP b_c), (2, [], vP b1), (3, [], vI y4), (4, [], .string ⟨⟨sub c_s c_at_ (ln c_s)⟩⟩), (63, [], .bool y59)] [fun wz => RetB Tryz.prog 55 ⟨[.string ⟨⟨sub c_s c_at_ (ln c_s)⟩⟩, vS [45, 45, 62]]⟩ (.bool y59) wz] H51 (by kernel_rfl) ⟨((strings_HasPrefix_ok _ _ _ hy59).b), trivial⟩ fun _ wd60 H61 hb => ?_
 clear H51
 replace hS := hS.below hb
 clear hb
 refine w_if H61 rfl (fun hc => ?c129) (fun hc => ?_)
 case c129 =>
  replace hm := bT hc hm
  refine w_seq ?_
  refine wl_start ?_
  refine wl_batch 0 7 [(vI c_at_)] [2, 70, 72] [(2, [], vP b1), (70, [], vI (w64 (c_at_ + 3))), (72, [], vA b_c 1)] [fun wz => V.at1 ⟨b_c, 1, none⟩ (vI c_at_) wz] H61 (by decide) (by kernel_rfl) ⟨((hS.bk 1 rfl).at1 rfl), trivial⟩ fun _ wd62 H63 hb => ?_
  clear H61
  replace hS := hS.below hb
  clear hb
  have hd := hS.hand [1] [0] rfl rfl
  refine m_stp0 [2] [(2, [], vP b1)] H63 rfl rfl rfl (o_store [vS c_s, vI (w64 (c_at_ + 3))] H63 hd rfl rfl (by kernel_rfl) rfl rfl rfl) rfl fun _ wd64 H65 hq => ?_
  clear H63 hd
  obtain ⟨_, hq⟩ := hq
  replace hS : SH M X w [eB b_c [vS c_s, vI (w64 (c_at_ + 3))], eB b1 [vU 0, vN, vI 0, vN, vF]] _ := hS.join [1] [0] rfl rfl hq
  clear hq
  refine wl_end rfl ?_
  refine w_seq ?_
  refine wl_start ?_
  refine wl_batch 0 1 [] [2, 73] [(2, [], vP b1), (73, [], .agg ⟨[vU 15, vN, vI 0, vN, vF]⟩)] [] H65 (by decide) (by kernel_rfl) trivial fun _ wd66 H67 hb => ?_
  clear H65
  replace hS := hS.below hb
  clear hb
  have hd := hS.hand [1] [0] rfl rfl
  refine m_stp0 [2] [(2, [], vP b1)] H67 rfl rfl rfl (o_store [vU 15, vN, vI 0, vN, vF] H67 hd rfl rfl (by kernel_rfl) rfl rfl rfl) rfl fun _ wd68 H69 hq => ?_
  clear H67 hd
  obtain ⟨_, hq⟩ := hq
  replace hS : SH M X w [eB b1 [vU 15, vN, vI 0, vN, vF], eB b_c [vS c_s, vI (w64 (c_at_ + 3))]] _ := hS.join [1] [0] rfl rfl hq
  clear hq
  refine wl_end rfl ?_
  refine w_ret ?_
  obtain rfl := someE hm
  exact retR1 H69 rfl (oneRes_agg rfl (hS.bk 0 rfl) Tryz.underlying44 rfl (by kernel_rfl)) ⟨_, rfl, rfl, (hS.sel [1] rfl)⟩
 replace hm := bF hc hm
 obtain ⟨y70, hy70, hm⟩ := bindE hm
 refine s_reg [(.bool y70)] [0, 2, 3, 4, 74] [(0, [], vP b_c), (2, [], vP b1), (3, [], vI y4), (4, [], .string ⟨⟨sub c_s c_at_ (ln c_s)⟩⟩), (74, [], .bool y70)] [fun wz => RetB Tryz.prog 55 ⟨[.string ⟨⟨sub c_s c_at_ (ln c_s)⟩⟩, vS [60, 33, 45, 45]]⟩ (.bool y70) wz] H61 (by kernel_rfl) ⟨((strings_HasPrefix_ok _ _ _ hy70).b), trivial⟩ fun _ wd71 H72 hb => ?_
 clear H61
 replace hS := hS.below hb
 clear hb
 refine w_if H72 rfl (fun hc => ?c128) (fun hc => ?_)
 case c128 =>
  replace hm := bT hc hm
  refine w_seq ?_
  refine wl_start ?_
  refine wl_batch 0 7 [(vI c_at_)] [2, 81, 83] [(2, [], vP b1), (81, [], vI (w64 (c_at_ + 4))), (83, [], vA b_c 1)] [fun wz => V.at1 ⟨b_c, 1, none⟩ (vI c_at_) wz] H72 (by decide) (by kernel_rfl) ⟨((hS.bk 1 rfl).at1 rfl), trivial⟩ fun _ wd73 H74 hb => ?_
  clear H72
  replace hS := hS.below hb
  clear hb
  have hd := hS.hand [1] [0] rfl rfl
  refine m_stp0 [2] [(2, [], vP b1)] H74 rfl rfl rfl (o_store [vS c_s, vI (w64 (c_at_ + 4))] H74 hd rfl rfl (by kernel_rfl) rfl rfl rfl) rfl fun _ wd75 H76 hq => ?_
  clear H74 hd
  obtain ⟨_, hq⟩ := hq
  replace hS : SH M X w [eB b_c [vS c_s, vI (w64 (c_at_ + 4))], eB b1 [vU 0, vN, vI 0, vN, vF]] _ := hS.join [1] [0] rfl rfl hq
  clear hq
  refine wl_end rfl ?_
  refine w_seq ?_
  refine wl_start ?_
  refine wl_batch 0 1 [] [2, 84] [(2, [], vP b1), (84, [], .agg ⟨[vU 14, vN, vI 0, vN, vF]⟩)] [] H76 (by decide) (by kernel_rfl) trivial fun _ wd77 H78 hb => ?_
  clear H76
  replace hS := hS.below hb
  clear hb
  have hd := hS.hand [1] [0] rfl rfl
  refine m_stp0 [2] [(2, [], vP b1)] H78 rfl rfl rfl (o_store [vU 14, vN, vI 0, vN, vF] H78 hd rfl rfl (by kernel_rfl) rfl rfl rfl) rfl fun _ wd79 H80 hq => ?_
  clear H78 hd
  obtain ⟨_, hq⟩ := hq
  replace hS : SH M X w [eB b1 [vU 14, vN, vI 0, vN, vF], eB b_c [vS c_s, vI (w64 (c_at_ + 4))]] _ := hS.join [1] [0] rfl rfl hq
  clear hq
  refine wl_end rfl ?_
  refine w_ret ?_
  obtain rfl := someE hm
  exact retR1 H80 rfl (oneRes_agg rfl (hS.bk 0 rfl) Tryz.underlying44 rfl (by kernel_rfl)) ⟨_, rfl, rfl, (hS.sel [1] rfl)⟩
 replace hm := bF hc hm
 obtain ⟨y81, hy81, hm⟩ := bindE hm
 refine s_reg [(.bool y81)] [0, 2, 3, 4, 85] [(0, [], vP b_c), (2, [], vP b1), (3, [], vI y4), (4, [], .string ⟨⟨sub c_s c_at_ (ln c_s)⟩⟩), (85, [], .bool (cond (y4 == 64) y81 false))] [fun wz => ((y4 == 64) = true ∧ True → RetB Tryz.prog 35 ⟨[vP b_c, vI 1]⟩ (.bool y81) wz)] H72 (by kernel_rfl) ⟨fun hg => token_scanner_name_ok (b_c := b_c) _ _ _ _ (bT (hg.1) hy81) _ (s0ro s0nil (hS.bk 1 rfl)), trivial⟩ fun _ wd82 H83 hb => ?_
 clear H72
 replace hS := hS.below hb
 clear hb
 refine w_if H83 rfl (fun hc => ?c127) (fun hc => ?_)
 case c127 =>
  replace hm := bT hc hm
  refine w_seq ?_
  refine wl_start ?_
  refine wl_batch 0 7 [(vI c_at_)] [0, 2, 96, 98] [(0, [], vP b_c), (2, [], vP b1), (96, [], vI (w64 (c_at_ + 1))), (98, [], vA b_c 1)] [fun wz => V.at1 ⟨b_c, 1, none⟩ (vI c_at_) wz] H83 (by decide) (by kernel_rfl) ⟨((hS.bk 1 rfl).at1 rfl), trivial⟩ fun _ wd84 H85 hb => ?_
  clear H83
  replace hS := hS.below hb
  clear hb
  have hd := hS.hand [1] [0] rfl rfl
  refine m_stp0 [0, 2] [(0, [], vP b_c), (2, [], vP b1)] H85 rfl rfl rfl (o_store [vS c_s, vI (w64 (c_at_ + 1))] H85 hd rfl rfl (by kernel_rfl) rfl rfl rfl) rfl fun _ wd86 H87 hq => ?_
  clear H85 hd
  obtain ⟨_, hq⟩ := hq
  replace hS : SH M X w [eB b_c [vS c_s, vI (w64 (c_at_ + 1))], eB b1 [vU 0, vN, vI 0, vN, vF]] _ := hS.join [1] [0] rfl rfl hq
  clear hq
  refine wl_end rfl ?_
  refine w_seq ?_
  refine wl_start ?_
  refine wl_batch 0 1 [] [2, 99] [(2, [], vP b1), (99, [], vP b_c)] [] H87 (by decide) (by kernel_rfl) trivial fun _ wd88 H89 hb => ?_
  clear H87
  replace hS := hS.below hb
  clear hb
  obtain ⟨y90, hy90, hm⟩ := bindE hm
  have hd := hS.hand [0] [1] rfl rfl
  refine m_stp [100, 2] [(2, [], vP b1)] H89 rfl rfl rfl rfl (o_callx H89 rfl rfl (token_scanner_word_ok (b_c := b_c) m _ _ _ hy90 _ _ hd)) (fun _ => rfl) fun _ wd91 v H92 hq => ?_
  clear H89 hd
  obtain ⟨rfl, hq⟩ := hq
  replace hS : SH M X w [eB b_c [vS c_s, vI y90.2], eB b1 [vU 0, vN, vI 0, vN, vF]] _ := hS.join [0] [1] rfl rfl hq
  clear hq
  refine wl_batch 2 3 [] [2, 101] [(2, [], vP b1), (101, [], .agg ⟨[vU 3, .string ⟨⟨y90.1⟩⟩, vI 0, vN, vF]⟩)] [] H92 (by decide) (by kernel_rfl) trivial fun _ wd93 H94 hb => ?_
  clear H92
  replace hS := hS.below hb
  clear hb
  have hd := hS.hand [1] [0] rfl rfl
  refine m_stp0 [2] [(2, [], vP b1)] H94 rfl rfl rfl (o_store [vU 3, .string ⟨⟨y90.1⟩⟩, vI 0, vN, vF] H94 hd rfl rfl (by kernel_rfl) rfl rfl rfl) rfl fun _ wd95 H96 hq => ?_
  clear H94 hd
  obtain ⟨_, hq⟩ := hq
  replace hS : SH M X w [eB b1 [vU 3, .string ⟨⟨y90.1⟩⟩, vI 0, vN, vF], eB b_c [vS c_s, vI y90.2]] _ := hS.join [1] [0] rfl rfl hq
  clear hq
  refine wl_end rfl ?_
  refine w_ret ?_
  obtain rfl := someE hm
  exact retR1 H96 rfl (oneRes_agg rfl (hS.bk 0 rfl) Tryz.underlying44 rfl (by kernel_rfl)) ⟨_, rfl, rfl, (hS.sel [1] rfl)⟩
 replace hm := bF hc hm
 obtain ⟨y97, hy97, hm⟩ := bindE hm
 refine s_reg [(.bool y97)] [0, 2, 3, 4, 102] [(0, [], vP b_c), (2, [], vP b1), (3, [], vI y4), (4, [], .string ⟨⟨sub c_s c_at_ (ln c_s)⟩⟩), (102, [], .bool y97)] [fun wz => RetB Tryz.prog 35 ⟨[vP b_c, vI 0]⟩ (.bool y97) wz] H83 (by kernel_rfl) ⟨(token_scanner_name_ok (b_c := b_c) _ _ _ _ hy97 _ (s0ro s0nil (hS.bk 1 rfl))), trivial⟩ fun _ wd98 H99 hb => ?_
 clear H83
 replace hS := hS.below hb
 clear hb
 refine w_if H99 rfl (fun hc => ?c126) (fun hc => ?_)
 case c126 =>
  replace hm := bT hc hm
  refine w_seq ?_
  refine wl_start ?_
  refine wl_batch 0 1 [] [2, 105] [(2, [], vP b1), (105, [], vP b_c)] [] H99 (by decide) (by kernel_rfl) trivial fun _ wd100 H101 hb => ?_
  clear H99
  replace hS := hS.below hb
  clear hb
  obtain ⟨y102, hy102, hm⟩ := bindE hm
  have hd := hS.hand [1] [0] rfl rfl
  refine m_stp [106, 2] [(2, [], vP b1)] H101 rfl rfl rfl rfl (o_callx H101 rfl rfl (token_scanner_ident_ok (b_c := b_c) m _ _ _ hy102 _ _ hd)) (fun _ => rfl) fun _ wd103 v H104 hq => ?_
  clear H101 hd
  obtain ⟨rfl, hq⟩ := hq
  replace hS : SH M X w [eB b_c [vS c_s, vI y102.2], eB b1 [vU 0, vN, vI 0, vN, vF]] _ := hS.join [1] [0] rfl rfl hq
  clear hq
  have hd := hS.hand [1] [0] rfl rfl
  refine m_stp0 [2] [(2, [], vP b1)] H104 rfl rfl rfl (o_store [vU y102.1.Kind, .string ⟨⟨y102.1.Text⟩⟩, vI y102.1.Num, .string ⟨⟨y102.1.Unit⟩⟩, .bool y102.1.Flag] H104 hd rfl rfl (by kernel_rfl) rfl rfl rfl) rfl fun _ wd105 H106 hq => ?_
  clear H104 hd
  obtain ⟨_, hq⟩ := hq
  replace hS : SH M X w [eB b1 [vU y102.1.Kind, .string ⟨⟨y102.1.Text⟩⟩, vI y102.1.Num, .string ⟨⟨y102.1.Unit⟩⟩, .bool y102.1.Flag], eB b_c [vS c_s, vI y102.2]] _ := hS.join [1] [0] rfl rfl hq
  clear hq
  refine wl_end rfl ?_
  refine w_ret ?_
  obtain rfl := someE hm
  exact retR1 H106 rfl (oneRes_agg rfl (hS.bk 0 rfl) Tryz.underlying44 rfl (by kernel_rfl)) ⟨_, rfl, rfl, (hS.sel [1] rfl)⟩
 replace hm := bF hc hm
 refine w_skip ?_
 refine w_seq ?_
 refine wl_start ?_
 refine wl_batch 0 7 [(vI c_at_)] [2, 3, 4, 111, 113] [(2, [], vP b1), (3, [], vI y4), (4, [], .string ⟨⟨sub c_s c_at_ (ln c_s)⟩⟩), (111, [], vI (w64 (c_at_ + 1))), (113, [], vA b_c 1)] [fun wz => V.at1 ⟨b_c, 1, none⟩ (vI c_at_) wz] H99 (by decide) (by kernel_rfl) ⟨((hS.bk 1 rfl).at1 rfl), trivial⟩ fun _ wd107 H108 hb => ?_
 clear H99
 replace hS := hS.below hb
 clear hb
 have hd := hS.hand [1] [0] rfl rfl
 refine m_stp0 [2, 3, 4] [(2, [], vP b1), (3, [], vI y4), (4, [], .string ⟨⟨sub c_s c_at_ (ln c_s)⟩⟩)] H108 rfl rfl rfl (o_store [vS c_s, vI (w64 (c_at_ + 1))] H108 hd rfl rfl (by kernel_rfl) rfl rfl rfl) rfl fun _ wd109 H110 hq => ?_
 clear H108 hd
 obtain ⟨_, hq⟩ := hq
 replace hS : SH M X w [eB b_c [vS c_s, vI (w64 (c_at_ + 1))], eB b1 [vU 0, vN, vI 0, vN, vF]] _ := hS.join [1] [0] rfl rfl hq
 clear hq
 refine wl_end rfl ?_
 refine w_seq ?_
 obtain ⟨y111, hy111, hm⟩ := letE hm
 refine s_reg [(vI y111)] [2, 4, 6] [(2, [], vP b1), (4, [], .string ⟨⟨sub c_s c_at_ (ln c_s)⟩⟩), (6, [], vI y111)] [fun wz => RetB Tryz.prog 61 ⟨[vS [58, 59, 44, 91, 93, 40, 41, 123, 125], vU (wu8 y4)]⟩ (vI y111) wz] H110 (by subst hy111; kernel_rfl) ⟨((by rw [hy111]; exact (strings_IndexByte_ok _ _).b)), trivial⟩ fun _ wd112 H113 hb => ?_
 clear H110
 replace hS := hS.below hb
 clear hb
 refine s_reg [] [2, 4, 6, 118] [(2, [], vP b1), (4, [], .string ⟨⟨sub c_s c_at_ (ln c_s)⟩⟩), (6, [], vI y111), (118, [], .bool (decide (0 ≤ y111)))] [] H113 (by kernel_rfl) trivial fun _ wd114 H115 hb => ?_
 clear H113
 replace hS := hS.below hb
 clear hb
 refine w_if H115 rfl (fun hc => ?c125) (fun hc => ?_)
 case c125 =>
  replace hm := bT hc hm
  refine w_seq ?_
  refine wl_start ?_
  refine wl_batch 0 4 [] [2, 122] [(2, [], vP b1), (122, [], .agg ⟨[vU (wu8 (16 + (wu8 y111))), vN, vI 0, vN, vF]⟩)] [] H115 (by decide) (by kernel_rfl) trivial fun _ wd116 H117 hb => ?_
  clear H115
  replace hS := hS.below hb
  clear hb
  have hd := hS.hand [1] [0] rfl rfl
  refine m_stp0 [2] [(2, [], vP b1)] H117 rfl rfl rfl (o_store [vU (wu8 (16 + (wu8 y111))), vN, vI 0, vN, vF] H117 hd rfl rfl (by kernel_rfl) rfl rfl rfl) rfl fun _ wd118 H119 hq => ?_
  clear H117 hd
  obtain ⟨_, hq⟩ := hq
  replace hS : SH M X w [eB b1 [vU (wu8 (16 + (wu8 y111))), vN, vI 0, vN, vF], eB b_c [vS c_s, vI (w64 (c_at_ + 1))]] _ := hS.join [1] [0] rfl rfl hq
  clear hq
  refine wl_end rfl ?_
  refine w_ret ?_
  obtain rfl := someE hm
  exact retR1 H119 rfl (oneRes_agg rfl (hS.bk 0 rfl) Tryz.underlying44 rfl (by kernel_rfl)) ⟨_, rfl, rfl, (hS.sel [1] rfl)⟩
 replace hm := bF hc hm
 refine w_skip ?_
 refine w_seq ?_
 refine wl_start ?_
 obtain ⟨ho120, hm⟩ := chkE hm
 refine wl_batch 0 3 [] [2, 125] [(2, [], vP b1), (125, [], .agg ⟨[vU 9, .string ⟨⟨sub (sub c_s c_at_ (ln c_s)) 0 1⟩⟩, vI 0, vN, vF]⟩)] [fun _ => 0 ≤ (1 : Int) ∧ (1 : Int) ≤ ln (sub c_s c_at_ (ln c_s))] H115 (by decide) (by kernel_rfl) ⟨ho120, trivial⟩ fun _ wd121 H122 hb => ?_
 clear H115
 replace hS := hS.below hb
 clear hb
 have hd := hS.hand [1] [0] rfl rfl
 refine m_stp0 [2] [(2, [], vP b1)] H122 rfl rfl rfl (o_store [vU 9, .string ⟨⟨sub (sub c_s c_at_ (ln c_s)) 0 1⟩⟩, vI 0, vN, vF] H122 hd rfl rfl (by kernel_rfl) rfl rfl rfl) rfl fun _ wd123 H124 hq => ?_
 clear H122 hd
 obtain ⟨_, hq⟩ := hq
 replace hS : SH M X w [eB b1 [vU 9, .string ⟨⟨sub (sub c_s c_at_ (ln c_s)) 0 1⟩⟩, vI 0, vN, vF], eB b_c [vS c_s, vI (w64 (c_at_ + 1))]] _ := hS.join [1] [0] rfl rfl hq
 clear hq
 refine wl_end rfl ?_
 refine w_ret ?_
 obtain rfl := someE hm
 exact retR1 H124 rfl (oneRes_agg rfl (hS.bk 0 rfl) Tryz.underlying44 rfl (by kernel_rfl)) ⟨_, rfl, rfl, (hS.sel [1] rfl)⟩
theorem token_scanner_next_ok {b_c : Nat} (m : Nat) (c_s : Str) (c_at_ : Int) (r : TToken × Int) (hm : token_scanner_next m c_s c_at_ = some r) (M : Av) (w : World) (hS : S0 M [eB b_c [vS c_s, vI c_at_]] w) : DoesX Tryz.prog 38 ⟨[vP b_c]⟩ w (fun v w' => v = .agg ⟨[vU r.1.Kind, .string ⟨⟨r.1.Text⟩⟩, vI r.1.Num, .string ⟨⟨r.1.Unit⟩⟩, .bool r.1.Flag]⟩ ∧ SH M (fpl [eB b_c [vS c_s, vI c_at_]]) w [eB b_c [vS c_s, vI r.2]] w') := ⟨Tryz.call38 _, token_scanner_next_w M m   c_s c_at_ r hm w hS⟩

theorem token_Tokens_1_w {b_u0 : Nat} {g_u0 : Gh} (M : Av) (t_ : TToken) (from_ : Int) (to : Int) (u0 : List TToken) (r : List TToken) (hm : token_Tokens_1 t_ from_ to u0 = some r) (w : World) (hS : S0 M [eB b_u0 [vL g_u0 u0], eO 44 tyToken u0 g_u0] w) : Calls Tryz.prog 25 ⟨[.agg ⟨[vU t_.Kind, .string ⟨⟨t_.Text⟩⟩, vI t_.Num, .string ⟨⟨t_.Unit⟩⟩, .bool t_.Flag]⟩, vI from_, vI to, vP b_u0]⟩ w (fun e w' => ∃ v, e = .returned v ∧ ∃ (g901 : Gh), v = .tuple ⟨[]⟩ ∧ SH M (fpl [eB b_u0 [vL g_u0 u0], eO 44 tyToken u0 g_u0]) w [eB b_u0 [vL g901 r], eO 44 tyToken r g901] w') := by
 rw [token_Tokens_1] at hm
 have hS0 : SH M (fpl [eB b_u0 [vL g_u0 u0], eO 44 tyToken u0 g_u0]) w [eB b_u0 [vL g_u0 u0], eO 44 tyToken u0 g_u0] w := hS
 generalize hX : fpl [eB b_u0 [vL g_u0 u0], eO 44 tyToken u0 g_u0] = X at hS0 ⊢
 clear hS hX
 have hS := hS0
 clear hS0
 refine calls_entryP Tryz.func25 rfl Tryz.ntmps25 rfl fun _ H => ?_
 refine w_seq ?_
 refine wl_start ?_
 have hd := hS.hand [] [0, 1] rfl rfl
 refine m_stp [4, 3] [(3, [], vP b_u0)] H rfl rfl rfl rfl (o_box [vU t_.Kind, .string ⟨⟨t_.Text⟩⟩, vI t_.Num, .string ⟨⟨t_.Unit⟩⟩, .bool t_.Flag] H hd rfl rfl) (fun _ => rfl) fun _ wd2 v H3 hq => ?_
 clear H hd
 obtain ⟨b1, rfl, hq⟩ := hq
 replace hS : SH M X w [eB b1 [vU t_.Kind, .string ⟨⟨t_.Text⟩⟩, vI t_.Num, .string ⟨⟨t_.Unit⟩⟩, .bool t_.Flag], eB b_u0 [vL g_u0 u0], eO 44 tyToken u0 g_u0] _ := hS.join [] [0, 1] rfl rfl hq
 clear hq
 refine wl_end rfl ?_
 refine wl_start ?_
 refine wl_batch 0 2 [(vL g_u0 u0), (.agg ⟨[vU t_.Kind, .string ⟨⟨t_.Text⟩⟩, vI t_.Num, .string ⟨⟨t_.Unit⟩⟩, .bool t_.Flag]⟩)] [3, 7, 8] [(3, [], vP b_u0), (7, [], vL g_u0 u0), (8, [], .agg ⟨[vU t_.Kind, .string ⟨⟨t_.Text⟩⟩, vI t_.Num, .string ⟨⟨t_.Unit⟩⟩, .bool t_.Flag]⟩)] [fun wz => V.at1 ⟨b_u0, 0, none⟩ (vL g_u0 u0) wz, fun wz => V.atN b1 0 [vU t_.Kind, .string ⟨⟨t_.Text⟩⟩, vI t_.Num, .string ⟨⟨t_.Unit⟩⟩, .bool t_.Flag] 0 wz] H3 (by decide) (by kernel_rfl) ⟨((hS.bk 1 rfl).at1 rfl), ((hS.bk 0 rfl).atD rfl), trivial⟩ fun _ wd4 H5 hb => ?_
 clear H3
 replace hS := hS.below hb
 clear hb
 have hd := hS.hand [] [0, 1, 2] rfl rfl
 refine m_stp [9, 3, 7] [(3, [], vP b_u0), (7, [], vL g_u0 u0)] H5 rfl rfl rfl rfl (o_lit (T := tyToken) (E := 44) (zv := .agg ⟨[vU 0, vN, vI 0, vN, vF]⟩) [vU t_.Kind, .string ⟨⟨t_.Text⟩⟩, vI t_.Num, .string ⟨⟨t_.Unit⟩⟩, .bool t_.Flag] ([t_] : List TToken) [gL []] _ H5 hd rfl (by kernel_rfl) (by kernel_rfl) (by kernel_rfl) (by kernel_rfl) (by kernel_rfl) (by kernel_rfl) (by kernel_rfl) rfl (InnL.cons trivial InnL.nil)) (fun _ => rfl) fun _ wd8 v H9 hq => ?_
 clear H5 hd
 obtain ⟨g6, rfl, hq⟩ := hq
 replace hS : SH M X w [eO 44 tyToken ([t_] : List TToken) g6, eB b1 [vU t_.Kind, .string ⟨⟨t_.Text⟩⟩, vI t_.Num, .string ⟨⟨t_.Unit⟩⟩, .bool t_.Flag], eB b_u0 [vL g_u0 u0], eO 44 tyToken u0 g_u0] _ := hS.join [] [0, 1, 2] rfl rfl hq
 clear hq
 obtain ⟨ho10, hm⟩ := chkE hm
 obtain ⟨q11, hq11, hm⟩ := letE hm
 have hd := hS.hand [3, 0] [1, 2] rfl rfl
 refine m_stp [10, 3] [(3, [], vP b_u0)] H9 rfl rfl rfl rfl (o_app2 (T := tyToken) (zv := .agg ⟨[vU 0, vN, vI 0, vN, vF]⟩) (g1 := g_u0) (g2 := g6) (l1 := u0) (l2 := ([t_] : List TToken)) q11 hq11.symm H9 hd rfl rfl rfl rfl rfl rfl rfl (by kernel_rfl) (by kernel_rfl) rfl rfl ho10) (fun _ => rfl) fun _ wd12 v H13 hq => ?_
 clear H9 hd
 obtain ⟨g14, rfl, hq⟩ := hq
 replace hS : SH M X w [eO 44 tyToken q11 g14, eO 44 tyToken ([t_] : List TToken) g6, eB b1 [vU t_.Kind, .string ⟨⟨t_.Text⟩⟩, vI t_.Num, .string ⟨⟨t_.Unit⟩⟩, .bool t_.Flag], eB b_u0 [vL g_u0 u0]] _ := hS.join [3, 0] [1, 2] rfl rfl hq
 clear hq
 have hd := hS.hand [3] [0, 1, 2] rfl rfl
 refine m_stp0 [] [] H13 rfl rfl rfl (o_store [vL g14 q11] H13 hd rfl rfl (by kernel_rfl) rfl rfl rfl) rfl fun _ wd15 H16 hq => ?_
 clear H13 hd
 obtain ⟨_, hq⟩ := hq
 replace hS : SH M X w [eB b_u0 [vL g14 q11], eO 44 tyToken q11 g14, eO 44 tyToken ([t_] : List TToken) g6, eB b1 [vU t_.Kind, .string ⟨⟨t_.Text⟩⟩, vI t_.Num, .string ⟨⟨t_.Unit⟩⟩, .bool t_.Flag]] _ := hS.join [3] [0, 1, 2] rfl rfl hq
 clear hq
 refine wl_end rfl ?_
 replace hS : SH M X w [eB b_u0 [vL g14 q11], eO 44 tyToken q11 g14] _ := hS.sel [0, 1] rfl
 obtain rfl := someE hm
 try dsimp only
 exact retR0 H16 rfl ⟨_, rfl, g14, rfl, (hS.sel [0, 1] rfl)⟩
theorem token_Tokens_1_ok {b_u0 : Nat} {g_u0 : Gh} (t_ : TToken) (from_ : Int) (to : Int) (u0 : List TToken) (r : List TToken) (hm : token_Tokens_1 t_ from_ to u0 = some r) (M : Av) (w : World) (hS : S0 M [eB b_u0 [vL g_u0 u0], eO 44 tyToken u0 g_u0] w) : DoesX Tryz.prog 25 ⟨[.agg ⟨[vU t_.Kind, .string ⟨⟨t_.Text⟩⟩, vI t_.Num, .string ⟨⟨t_.Unit⟩⟩, .bool t_.Flag]⟩, vI from_, vI to, vP b_u0]⟩ w (fun v w' => ∃ (g901 : Gh), v = .tuple ⟨[]⟩ ∧ SH M (fpl [eB b_u0 [vL g_u0 u0], eO 44 tyToken u0 g_u0]) w [eB b_u0 [vL g901 r], eO 44 tyToken r g901] w') := ⟨Tryz.call25 _, token_Tokens_1_w M   t_ from_ to u0 r hm w hS⟩

theorem token_read_w {b_tell_c0 : Nat} {g_tell_c0 : Gh} (M : Av) (m : Nat) (s : Str) (tell_c0 : List TToken) (r : Int × (List TToken)) (hm : token_read m s tell_c0 = some r) (w : World) (hS : S0 M [eB b_tell_c0 [vL g_tell_c0 tell_c0], eO 44 tyToken tell_c0 g_tell_c0, Ent.gint 0] w) : Calls Tryz.prog 24 ⟨[vS s, .func (.func 25) ⟨[]⟩ ⟨[vP b_tell_c0]⟩]⟩ w (fun e w' => ∃ v, e = .returned v ∧ ∃ (g901 : Gh), v = vI r.1 ∧ SH M (fpl [eB b_tell_c0 [vL g_tell_c0 tell_c0], eO 44 tyToken tell_c0 g_tell_c0, Ent.gint 0]) w [eB b_tell_c0 [.slice g901.a r.2.length g901.c], eO 44 tyToken r.2 g901] w') := by
 rw [token_read] at hm
 have hS0 : SH M (fpl [eB b_tell_c0 [vL g_tell_c0 tell_c0], eO 44 tyToken tell_c0 g_tell_c0, Ent.gint 0]) w [eB b_tell_c0 [vL g_tell_c0 tell_c0], eO 44 tyToken tell_c0 g_tell_c0, Ent.gint 0] w := hS
 generalize hX : fpl [eB b_tell_c0 [vL g_tell_c0 tell_c0], eO 44 tyToken tell_c0 g_tell_c0, Ent.gint 0] = X at hS0 ⊢
 clear hS hX
 have hS := hS0
 clear hS0
 refine calls_entryP Tryz.func24 rfl Tryz.ntmps24 rfl fun _ H => ?_
 refine s_reg [] [0, 1] [(0, [], vS s), (1, [], .func (.func 25) ⟨[]⟩ ⟨[vP b_tell_c0]⟩)] [] H (by kernel_rfl) trivial fun _ wd1 H2 hb => ?_
 clear H
 replace hS := hS.below hb
 clear hb
 obtain ⟨y3, hy3, hm⟩ := letE hm
 refine s_reg [(.tuple ⟨[.string ⟨⟨y3.1⟩⟩, vI y3.2]⟩)] [0, 1, 5] [(0, [], .string ⟨⟨y3.1⟩⟩), (1, [], .func (.func 25) ⟨[]⟩ ⟨[vP b_tell_c0]⟩), (5, [], vI y3.2)] [fun wz => RetB Tryz.prog 16 ⟨[vS s]⟩ (.tuple ⟨[.string ⟨⟨y3.1⟩⟩, vI y3.2]⟩) wz] H2 (by subst hy3; kernel_rfl) ⟨((by rw [hy3]; exact (cleanF_ok _).b)), trivial⟩ fun _ wd4 H5 hb => ?_
 clear H2
 replace hS := hS.below hb
 clear hb
 refine w_seq ?_
 refine s_reg [] [0, 1, 5, 16] [(0, [], .string ⟨⟨y3.1⟩⟩), (1, [], .func (.func 25) ⟨[]⟩ ⟨[vP b_tell_c0]⟩), (5, [], vI y3.2), (16, [], .bool (y3.2 != 0))] [] H5 (by kernel_rfl) trivial fun _ wd6 H7 hb => ?_
 clear H5
 replace hS := hS.below hb
 clear hb
 refine w_if H7 rfl (fun hc => ?c69) (fun hc => ?_)
 case c69 =>
  replace hm := bT hc hm
  refine s_reg [] [4] [(4, [], vI y3.2)] [] H7 (by kernel_rfl) trivial fun _ wd8 H9 hb => ?_
  clear H7
  replace hS := hS.below hb
  clear hb
  refine w_ret ?_
  obtain rfl := someE hm
  exact retR1 H9 rfl rfl ⟨_, rfl, g_tell_c0, rfl, (hS.sel [0, 1] rfl)⟩
 replace hm := bF hc hm
 refine w_skip ?_
 refine w_seq ?_
 refine wl_start ?_
 refine wl_batch 0 2 [] [0, 1, 19] [(0, [], .string ⟨⟨y3.1⟩⟩), (1, [], .func (.func 25) ⟨[]⟩ ⟨[vP b_tell_c0]⟩), (19, [], .agg ⟨[.string ⟨⟨y3.1⟩⟩, vI 0]⟩)] [] H7 (by decide) (by kernel_rfl) trivial fun _ wd10 H11 hb => ?_
 clear H7
 replace hS := hS.below hb
 clear hb
 have hd := hS.hand [] [0, 1, 2] rfl rfl
 refine m_stp [20, 0, 1] [(0, [], .string ⟨⟨y3.1⟩⟩), (1, [], .func (.func 25) ⟨[]⟩ ⟨[vP b_tell_c0]⟩)] H11 rfl rfl rfl rfl (o_box [.string ⟨⟨y3.1⟩⟩, vI 0] H11 hd rfl rfl) (fun _ => rfl) fun _ wd13 v H14 hq => ?_
 clear H11 hd
 obtain ⟨b12, rfl, hq⟩ := hq
 replace hS : SH M X w [eB b12 [.string ⟨⟨y3.1⟩⟩, vI 0], eB b_tell_c0 [vL g_tell_c0 tell_c0], eO 44 tyToken tell_c0 g_tell_c0, Ent.gint 0] _ := hS.join [] [0, 1, 2] rfl rfl hq
 clear hq
 refine wl_batch 3 4 [] [0, 1, 6] [(0, [], .string ⟨⟨y3.1⟩⟩), (1, [], .func (.func 25) ⟨[]⟩ ⟨[vP b_tell_c0]⟩), (6, [], vP b12)] [] H14 (by decide) (by kernel_rfl) trivial fun _ wd15 H16 hb => ?_
 clear H14
 replace hS := hS.below hb
 clear hb
 refine wl_end rfl ?_
 refine w_seq ?_
 refine wl_start ?_
 refine wl_batch 0 1 [] [0, 1, 6, 21] [(0, [], .string ⟨⟨y3.1⟩⟩), (1, [], .func (.func 25) ⟨[]⟩ ⟨[vP b_tell_c0]⟩), (6, [], vP b12), (21, [], vP b12)] [] H16 (by decide) (by kernel_rfl) trivial fun _ wd17 H18 hb => ?_
 clear H16
 replace hS := hS.below hb
 clear hb
 obtain ⟨y19, hy19, hm⟩ := bindE hm
 have hd := hS.hand [0, 3] [1, 2, 3] rfl rfl
 refine m_stp [22, 0, 1, 6] [(0, [], .string ⟨⟨y3.1⟩⟩), (1, [], .func (.func 25) ⟨[]⟩ ⟨[vP b_tell_c0]⟩), (6, [], vP b12)] H18 rfl rfl rfl rfl (o_callx H18 rfl rfl (token_scanner_comments_ok (b_c := b12) m _ _ _ hy19 _ _ hd)) (fun _ => rfl) fun _ wd20 v H21 hq => ?_
 clear H18 hd
 obtain ⟨rfl, hq⟩ := hq
 replace hS : SH M X w [eB b12 [.string ⟨⟨y3.1⟩⟩, vI y19], eB b_tell_c0 [vL g_tell_c0 tell_c0], eO 44 tyToken tell_c0 g_tell_c0, Ent.gint 0] _ := hS.join [0, 3] [1, 2, 3] rfl rfl hq
 clear hq
 refine wl_end rfl ?_
 refine s_reg [] [0, 1, 6, 7] [(0, [], .string ⟨⟨y3.1⟩⟩), (1, [], .func (.func 25) ⟨[]⟩ ⟨[vP b_tell_c0]⟩), (6, [], vP b12), (7, [], vI 0)] [] H21 (by kernel_rfl) trivial fun _ wd22 H23 hb => ?_
 clear H21
 replace hS := hS.below hb
 clear hb
 obtain ⟨z24, hz, hm_z24⟩ := bindE hm
 refine w_cut (fun a' w' => ∃ s_z24 : Int × (List TToken), z24 = Sum.inr s_z24 ∧ ∃ (g65 : Gh), Fr 50 [] a' ∧ SH M X w [eB b12 [.string ⟨⟨y3.1⟩⟩, vI s_z24.1], eB b_tell_c0 [.slice g65.a s_z24.2.length g65.c], eO 44 tyToken s_z24.2 g65, Ent.gint 0] w') ?_ ?_
 ·replace hm := hz
  refine w_block ?_
  refine w_loop (fun kk a' w' => ∃ (v25 : Int) (v26 : Int) (v27 : List TToken) (g28 : Gh), token_read_L1 m y3 kk v25 v26 v27 = some _ ∧ Fr 50 [(0, [], .string ⟨⟨y3.1⟩⟩), (1, [], .func (.func 25) ⟨[]⟩ ⟨[vP b_tell_c0]⟩), (6, [], vP b12), (7, [], vI v25)] a' ∧ SH M X w [eB b12 [.string ⟨⟨y3.1⟩⟩, vI v26], eB b_tell_c0 [vL g28 v27], eO 44 tyToken v27 g28, Ent.gint 0] w') ⟨_, 0, y19, tell_c0, g_tell_c0, hm, FrG.keep (ks := [0, 1, 6, 7]) H23 (by kernel_rfl), hS⟩ ?_
  clear hm H23 hS
  rintro kk _ wd64 ⟨v25, v26, v27, g28, hm, H, hS⟩
  cases kk with
  | zero => exact noneE hm
  | succ kk =>
   rw [token_read_L1] at hm
   refine w_seq ?_
   refine s_reg [(vI v26)] [0, 1, 6, 7, 29] [(0, [], .string ⟨⟨y3.1⟩⟩), (1, [], .func (.func 25) ⟨[]⟩ ⟨[vP b_tell_c0]⟩), (6, [], vP b12), (7, [], vI v25), (29, [], .bool (decide (v26 < (ln y3.1))))] [fun wz => V.at1 ⟨b12, 1, none⟩ (vI v26) wz] H (by kernel_rfl) ⟨((hS.bk 0 rfl).at1 rfl), trivial⟩ fun _ wd29 H30 hb => ?_
   clear H
   replace hS := hS.below hb
   clear hb
   refine w_if H30 rfl (fun hc => ?_) (fun hc => ?c63)
   case c63 =>
    replace hm := bF hc hm
    refine w_exit rfl ?_
    obtain rfl := someE hm
    exact ⟨_, rfl, g28, FrG.keep (ks := []) H30 (by kernel_rfl), hS⟩
   replace hm := bT hc hm
   refine w_skip ?_
   refine w_block ?_
   refine w_seq ?_
   refine s_reg [] [0, 1, 6, 7] [(0, [], .string ⟨⟨y3.1⟩⟩), (1, [], .func (.func 25) ⟨[]⟩ ⟨[vP b_tell_c0]⟩), (6, [], vP b12), (7, [], vI (w64 (v25 + 1)))] [] H30 (by kernel_rfl) trivial fun _ wd31 H32 hb => ?_
   clear H30
   replace hS := hS.below hb
   clear hb
   refine s_reg [] [0, 1, 6, 7, 33] [(0, [], .string ⟨⟨y3.1⟩⟩), (1, [], .func (.func 25) ⟨[]⟩ ⟨[vP b_tell_c0]⟩), (6, [], vP b12), (7, [], vI (w64 (v25 + 1))), (33, [], .bool (decide (1500 < (w64 (v25 + 1)))))] [] H32 (by kernel_rfl) trivial fun _ wd33 H34 hb => ?_
   clear H32
   replace hS := hS.below hb
   clear hb
   refine w_if H34 rfl (fun hc => ?c62) (fun hc => ?_)
   case c62 =>
    replace hm := bT hc hm
    refine s_reg [] [4] [(4, [], vI 4)] [] H34 (by kernel_rfl) trivial fun _ wd35 H36 hb => ?_
    clear H34
    replace hS := hS.below hb
    clear hb
    refine w_ret ?_
    obtain rfl := someE hm
    have hm := hm_z24
    obtain rfl := someE hm
    exact retR1 H36 rfl rfl ⟨_, rfl, g28, rfl, (hS.sel [1, 2] rfl)⟩
   replace hm := bF hc hm
   refine w_skip ?_
   refine s_reg [(vI v26)] [0, 1, 6, 7, 8] [(0, [], .string ⟨⟨y3.1⟩⟩), (1, [], .func (.func 25) ⟨[]⟩ ⟨[vP b_tell_c0]⟩), (6, [], vP b12), (7, [], vI (w64 (v25 + 1))), (8, [], vI v26)] [fun wz => V.at1 ⟨b12, 1, none⟩ (vI v26) wz] H34 (by kernel_rfl) ⟨((hS.bk 0 rfl).at1 rfl), trivial⟩ fun _ wd37 H38 hb => ?_
   clear H34
   replace hS := hS.below hb
   clear hb
   refine w_seq ?_
   refine wl_start ?_
   refine wl_batch 0 1 [] [0, 1, 6, 7, 8, 38] [(0, [], .string ⟨⟨y3.1⟩⟩), (1, [], .func (.func 25) ⟨[]⟩ ⟨[vP b_tell_c0]⟩), (6, [], vP b12), (7, [], vI (w64 (v25 + 1))), (8, [], vI v26), (38, [], vP b12)] [] H38 (by decide) (by kernel_rfl) trivial fun _ wd39 H40 hb => ?_
   clear H38
   replace hS := hS.below hb
   clear hb
   obtain ⟨y41, hy41, hm⟩ := bindE hm
   have hd := hS.hand [0] [1, 2, 3] rfl rfl
   refine m_stp [39, 0, 1, 6, 7, 8] [(0, [], .string ⟨⟨y3.1⟩⟩), (1, [], .func (.func 25) ⟨[]⟩ ⟨[vP b_tell_c0]⟩), (6, [], vP b12), (7, [], vI (w64 (v25 + 1))), (8, [], vI v26)] H40 rfl rfl rfl rfl (o_callx H40 rfl rfl (token_scanner_next_ok (b_c := b12) m _ _ _ hy41 _ _ hd)) (fun _ => rfl) fun _ wd42 v H43 hq => ?_
   clear H40 hd
   obtain ⟨rfl, hq⟩ := hq
   replace hS : SH M X w [eB b12 [.string ⟨⟨y3.1⟩⟩, vI y41.2], eB b_tell_c0 [vL g28 v27], eO 44 tyToken v27 g28, Ent.gint 0] _ := hS.join [0] [1, 2, 3] rfl rfl hq
   clear hq
   have hd := hS.hand [] [0, 1, 2, 3] rfl rfl
   refine m_stp [9, 0, 1, 6, 7, 8, 39] [(0, [], .string ⟨⟨y3.1⟩⟩), (1, [], .func (.func 25) ⟨[]⟩ ⟨[vP b_tell_c0]⟩), (6, [], vP b12), (7, [], vI (w64 (v25 + 1))), (8, [], vI v26), (39, [], .agg ⟨[vU y41.1.Kind, .string ⟨⟨y41.1.Text⟩⟩, vI y41.1.Num, .string ⟨⟨y41.1.Unit⟩⟩, .bool y41.1.Flag]⟩)] H43 rfl rfl rfl rfl (o_alloc [vU 0, vN, vI 0, vN, vF] (z := .agg ⟨[vU 0, vN, vI 0, vN, vF]⟩) hd (by kernel_rfl) rfl) (fun _ => rfl) fun _ wd45 v H46 hq => ?_
   clear H43 hd
   obtain ⟨b44, rfl, hq⟩ := hq
   replace hS : SH M X w [eB b44 [vU 0, vN, vI 0, vN, vF], eB b12 [.string ⟨⟨y3.1⟩⟩, vI y41.2], eB b_tell_c0 [vL g28 v27], eO 44 tyToken v27 g28, Ent.gint 0] _ := hS.join [] [0, 1, 2, 3] rfl rfl hq
   clear hq
   have hd := hS.hand [0] [1, 2, 3, 4] rfl rfl
   refine m_stp0 [0, 1, 6, 7, 8, 9] [(0, [], .string ⟨⟨y3.1⟩⟩), (1, [], .func (.func 25) ⟨[]⟩ ⟨[vP b_tell_c0]⟩), (6, [], vP b12), (7, [], vI (w64 (v25 + 1))), (8, [], vI v26), (9, [], vP b44)] H46 rfl rfl rfl (o_store [vU y41.1.Kind, .string ⟨⟨y41.1.Text⟩⟩, vI y41.1.Num, .string ⟨⟨y41.1.Unit⟩⟩, .bool y41.1.Flag] H46 hd rfl rfl (by kernel_rfl) rfl rfl rfl) rfl fun _ wd47 H48 hq => ?_
   clear H46 hd
   obtain ⟨_, hq⟩ := hq
   replace hS : SH M X w [eB b44 [vU y41.1.Kind, .string ⟨⟨y41.1.Text⟩⟩, vI y41.1.Num, .string ⟨⟨y41.1.Unit⟩⟩, .bool y41.1.Flag], eB b12 [.string ⟨⟨y3.1⟩⟩, vI y41.2], eB b_tell_c0 [vL g28 v27], eO 44 tyToken v27 g28, Ent.gint 0] _ := hS.join [0] [1, 2, 3, 4] rfl rfl hq
   clear hq
   refine wl_end rfl ?_
   obtain ⟨y50, hy50, hm⟩ := bindE hm
   refine s_drawS (base := [(0, [], .string ⟨⟨y3.1⟩⟩), (1, [], .func (.func 25) ⟨[]⟩ ⟨[vP b_tell_c0]⟩), (6, [], vP b12), (7, [], vI (w64 (v25 + 1))), (8, [], vI v26), (9, [], vP b44)]) (L := [eB b44 [vU y41.1.Kind, .string ⟨⟨y41.1.Text⟩⟩, vI y41.1.Num, .string ⟨⟨y41.1.Unit⟩⟩, .bool y41.1.Flag], eB b12 [.string ⟨⟨y3.1⟩⟩, vI y41.2], eB b_tell_c0 [vL g28 v27], eO 44 tyToken v27 g28, Ent.gint 0]) 8 5 (fun yg49 => [.func (.func 25) ⟨[]⟩ ⟨[vP b_tell_c0]⟩, .agg ⟨[vU y41.1.Kind, .string ⟨⟨y41.1.Text⟩⟩, vI y41.1.Num, .string ⟨⟨y41.1.Unit⟩⟩, .bool y41.1.Flag]⟩, vI v26, vP b12, vP b12, vA b12 1, vI y41.2, .tuple ⟨[]⟩]) (fun yg49 => [[], [], [], [], [], [], [], [eB b_tell_c0 [.slice (yg49 7 0).a y50.length (yg49 7 0).c], eO 44 tyToken y50 (yg49 7 0)]]) [[10, 11], [8], [], [9], [9], [9], [9], [10, 11]] [[], [], [], [], [], [], [], [10, 11]] [[0], [1], [2], [3], [3, 4], [3, 4, 5], [3, 4, 5, 6], [0, 1, 2, 3, 4, 5, 6, 7]] [] (FrG.keep (ks := [0, 1, 6, 7, 8, 9]) H48 (by kernel_rfl)) (fun _ _ h => by cases h) (by kernel_rfl) hS (by kernel_rfl) rfl rfl (by kernel_rfl) (by kernel_rfl) (by kernel_rfl) (gd_none (by kernel_rfl) _ _) ?hloc_yg49 ?hstep_yg49 fun _ wd53 yg49 H54 hv hS => ?hK_yg49
   case hloc_yg49 => exact ⟨(fun _ _ _ _ => ⟨rfl, rfl⟩), (fun _ _ _ _ => ⟨rfl, rfl⟩), (fun _ _ _ _ => ⟨rfl, rfl⟩), (fun _ _ _ _ => ⟨rfl, rfl⟩), (fun _ _ _ _ => ⟨rfl, rfl⟩), (fun _ _ _ _ => ⟨rfl, rfl⟩), (fun _ _ _ _ => ⟨rfl, rfl⟩), (fun yg49 i g hi => by have h7 : updC yg49 i g 7 = yg49 7 := updC_out hi rfl; exact ⟨(show (.tuple ⟨[]⟩ : Value) = .tuple ⟨[]⟩ by simp only []), (show ([eB b_tell_c0 [.slice ((updC yg49 i g) 7 0).a y50.length ((updC yg49 i g) 7 0).c], eO 44 tyToken y50 ((updC yg49 i g) 7 0)] : List Ent) = [eB b_tell_c0 [.slice (yg49 7 0).a y50.length (yg49 7 0).c], eO 44 tyToken y50 (yg49 7 0)] by simp only [h7])⟩), trivial⟩
   case hstep_yg49 =>
    refine ⟨?_, ?_, ?_, ?_, ?_, ?_, ?_, ?_, trivial⟩
    ·intro o ho a w yg49 M Hb hv hO hS
     obtain rfl := Option.some.inj ho
     exact Stp.mono (o_evs [] (.func (.func 25) ⟨[]⟩ ⟨[vP b_tell_c0]⟩) none [] Hb rfl (by kernel_rfl) (fun q e => by cases e)) fun _ _ hq => ⟨gL [], fun _ _ => hq.1, (hS.below hq.2.below).sel [0, 1] rfl⟩
    ·intro o ho a w yg49 M Hb hv hO hS
     obtain rfl := Option.some.inj ho
     exact Stp.mono (o_evs [(.agg ⟨[vU y41.1.Kind, .string ⟨⟨y41.1.Text⟩⟩, vI y41.1.Num, .string ⟨⟨y41.1.Unit⟩⟩, .bool y41.1.Flag]⟩)] (.agg ⟨[vU y41.1.Kind, .string ⟨⟨y41.1.Text⟩⟩, vI y41.1.Num, .string ⟨⟨y41.1.Unit⟩⟩, .bool y41.1.Flag]⟩) (some (fun wz => V.atN b44 0 [vU y41.1.Kind, .string ⟨⟨y41.1.Text⟩⟩, vI y41.1.Num, .string ⟨⟨y41.1.Unit⟩⟩, .bool y41.1.Flag] 0 wz)) [] Hb rfl (by kernel_rfl) (fun q e => by cases e; exact ((hS.bk 0 rfl).atD rfl))) fun _ _ hq => ⟨gL [], fun _ _ => hq.1, (hS.below hq.2.below).sel [0] rfl⟩
    ·intro o ho a w yg49 M Hb hv hO hS
     obtain rfl := Option.some.inj ho
     exact Stp.mono (o_evs [] (vI v26) none [] Hb rfl (by kernel_rfl) (fun q e => by cases e)) fun _ _ hq => ⟨gL [], fun _ _ => hq.1, (hS.below hq.2.below).sel [] rfl⟩
    ·intro o ho a w yg49 M Hb hv hO hS
     obtain rfl := Option.some.inj ho
     exact Stp.mono (o_evs [] (vP b12) none [] Hb rfl (by kernel_rfl) (fun q e => by cases e)) fun _ _ hq => ⟨gL [], fun _ _ => hq.1, (hS.below hq.2.below).sel [0] rfl⟩
    ·intro o ho a w yg49 M Hb hv hO hS
     obtain rfl := Option.some.inj ho
     exact Stp.mono (o_evs [] (vP b12) none [] ((Hb).add (hv 3 (by decide) (by decide) 43 rfl)) rfl (by kernel_rfl) (fun q e => by cases e)) fun _ _ hq => ⟨gL [], fun _ _ => hq.1, (hS.below hq.2.below).sel [0] rfl⟩
    ·intro o ho a w yg49 M Hb hv hO hS
     obtain rfl := Option.some.inj ho
     exact Stp.mono (o_evs [] (vA b12 1) none [] ((Hb).add (hv 4 (by decide) (by decide) 44 rfl)) rfl (by kernel_rfl) (fun q e => by cases e)) fun _ _ hq => ⟨gL [], fun _ _ => hq.1, (hS.below hq.2.below).sel [0] rfl⟩
    ·intro o ho a w yg49 M Hb hv hO hS
     obtain rfl := Option.some.inj ho
     exact Stp.mono (o_evs [(vI y41.2)] (vI y41.2) (some (fun wz => V.at1 ⟨b12, 1, none⟩ (vI y41.2) wz)) [] ((Hb).add (hv 5 (by decide) (by decide) 45 rfl)) rfl (by kernel_rfl) (fun q e => by cases e; exact ((hS.bk 0 rfl).at1 rfl))) fun _ _ hq => ⟨gL [], fun _ _ => hq.1, (hS.below hq.2.below).sel [0] rfl⟩
    ·intro o ho a w yg49 M Hb hv hO hS0
     obtain rfl := Option.some.inj ho
     have H : Fr 50 ([(46, [], vI y41.2), (42, [], vI v26), (41, [], .agg ⟨[vU y41.1.Kind, .string ⟨⟨y41.1.Text⟩⟩, vI y41.1.Num, .string ⟨⟨y41.1.Unit⟩⟩, .bool y41.1.Flag]⟩), (40, [], .func (.func 25) ⟨[]⟩ ⟨[vP b_tell_c0]⟩)] ++ [(0, [], .string ⟨⟨y3.1⟩⟩), (1, [], .func (.func 25) ⟨[]⟩ ⟨[vP b_tell_c0]⟩), (6, [], vP b12), (7, [], vI (w64 (v25 + 1))), (8, [], vI v26), (9, [], vP b44)]) _ := ((((Hb).add (hv 0 (by decide) (by decide) 40 rfl)).add (hv 1 (by decide) (by decide) 41 rfl)).add (hv 2 (by decide) (by decide) 42 rfl)).add (hv 6 (by decide) (by decide) 46 rfl)
     obtain ⟨X, hX⟩ : ∃ X, X = fpl [eB b_tell_c0 [vL g28 v27], eO 44 tyToken v27 g28] := ⟨_, rfl⟩
     have hS : SH M X w [eB b_tell_c0 [vL g28 v27], eO 44 tyToken v27 g28] w := by rw [hX]; exact hS0
     have hd := hS.hand [0, 1] [] rfl rfl
     refine Stp.mono (o_callx H rfl rfl (token_Tokens_1_ok (b_u0 := b_tell_c0) (g_u0 := g28) _ _ _ _ _ hy50 _ _ hd)) ?_
     rintro v w2 hq
     obtain ⟨g51, rfl, hq⟩ := hq
     replace hS : SH M X w [eB b_tell_c0 [vL g51 y50], eO 44 tyToken y50 g51] _ := hS.join [0, 1] [] rfl rfl hq
     clear hq
     rw [hX] at hS
     exact ⟨gL [g51], fun _ _ => rfl, hS.sel [0, 1] rfl⟩
   have H55 : Fr 50 [(0, [], .string ⟨⟨y3.1⟩⟩), (1, [], .func (.func 25) ⟨[]⟩ ⟨[vP b_tell_c0]⟩), (6, [], vP b12), (7, [], vI (w64 (v25 + 1)))] _ := (FrG.keep (ks := [0, 1, 6, 7]) H54 (by kernel_rfl))
   replace hS : SH M X w [eB b_tell_c0 [.slice (yg49 7 0).a y50.length (yg49 7 0).c], eO 44 tyToken y50 (yg49 7 0), eB b44 [vU y41.1.Kind, .string ⟨⟨y41.1.Text⟩⟩, vI y41.1.Num, .string ⟨⟨y41.1.Unit⟩⟩, .bool y41.1.Flag], eB b12 [.string ⟨⟨y3.1⟩⟩, vI y41.2], Ent.gint 0] _ := hS
   clear hv H54
   generalize yg49 7 0 = g56 at H55 hS
   replace hS : SH M X w [eB b_tell_c0 [vL g56 y50], eO 44 tyToken y50 g56, eB b12 [.string ⟨⟨y3.1⟩⟩, vI y41.2], Ent.gint 0] _ := hS.sel [0, 1, 3, 4] rfl
   refine wl_start ?_
   refine wl_batch 0 1 [] [0, 1, 6, 7, 48] [(0, [], .string ⟨⟨y3.1⟩⟩), (1, [], .func (.func 25) ⟨[]⟩ ⟨[vP b_tell_c0]⟩), (6, [], vP b12), (7, [], vI (w64 (v25 + 1))), (48, [], vP b12)] [] H55 (by decide) (by kernel_rfl) trivial fun _ wd57 H58 hb => ?_
   clear H55
   replace hS := hS.below hb
   clear hb
   obtain ⟨y59, hy59, hm⟩ := bindE hm
   have hd := hS.hand [2, 3] [0, 1, 3] rfl rfl
   refine m_stp [49, 0, 1, 6, 7] [(0, [], .string ⟨⟨y3.1⟩⟩), (1, [], .func (.func 25) ⟨[]⟩ ⟨[vP b_tell_c0]⟩), (6, [], vP b12), (7, [], vI (w64 (v25 + 1)))] H58 rfl rfl rfl rfl (o_callx H58 rfl rfl (token_scanner_comments_ok (b_c := b12) m _ _ _ hy59 _ _ hd)) (fun _ => rfl) fun _ wd60 v H61 hq => ?_
   clear H58 hd
   obtain ⟨rfl, hq⟩ := hq
   replace hS : SH M X w [eB b12 [.string ⟨⟨y3.1⟩⟩, vI y59], eB b_tell_c0 [vL g56 y50], eO 44 tyToken y50 g56, Ent.gint 0] _ := hS.join [2, 3] [0, 1, 3] rfl rfl hq
   clear hq
   refine wl_end rfl ?_
   exact ⟨_, Nat.lt_succ_self _, w64 (v25 + 1), y59, y50, g56, hm, FrG.keep (ks := [0, 1, 6, 7]) H61 (by kernel_rfl), hS⟩
 ·rintro _ wd68 ⟨s_z24, hz, g65, H, hS⟩
  subst hz
  replace hm := sumR hm_z24
  replace hS : SH M X w [eB b_tell_c0 [.slice g65.a s_z24.2.length g65.c], eO 44 tyToken s_z24.2 g65, Ent.gint 0] _ := hS.sel [1, 2, 3] rfl
  refine s_reg [] [4] [(4, [], vI 0)] [] H (by kernel_rfl) trivial fun _ wd66 H67 hb => ?_
  clear H
  replace hS := hS.below hb
  clear hb
  refine w_ret ?_
  obtain rfl := someE hm
  exact retR1 H67 rfl rfl ⟨_, rfl, g65, rfl, (hS.sel [0, 1] rfl)⟩
theorem token_read_ok {b_tell_c0 : Nat} {g_tell_c0 : Gh} (m : Nat) (s : Str) (tell_c0 : List TToken) (r : Int × (List TToken)) (hm : token_read m s tell_c0 = some r) (M : Av) (w : World) (hS : S0 M [eB b_tell_c0 [vL g_tell_c0 tell_c0], eO 44 tyToken tell_c0 g_tell_c0, Ent.gint 0] w) : DoesX Tryz.prog 24 ⟨[vS s, .func (.func 25) ⟨[]⟩ ⟨[vP b_tell_c0]⟩]⟩ w (fun v w' => ∃ (g901 : Gh), v = vI r.1 ∧ SH M (fpl [eB b_tell_c0 [vL g_tell_c0 tell_c0], eO 44 tyToken tell_c0 g_tell_c0, Ent.gint 0]) w [eB b_tell_c0 [.slice g901.a r.2.length g901.c], eO 44 tyToken r.2 g901] w') := ⟨Tryz.call24 _, token_read_w M m   s tell_c0 r hm w hS⟩

theorem token_Tokens_w  (M : Av) (m : Nat) (s : Str) (r : (List TToken) × Int) (hm : token_Tokens m s = some r) (w : World) (hS : S0 M [Ent.gint 0] w) : Calls Tryz.prog 9 ⟨[vS s]⟩ w (fun e w' => ∃ v, e = .returned v ∧ ∃ (g901 : Gh), v = .tuple ⟨[.slice g901.a r.1.length g901.c, vI r.2]⟩ ∧ SH M (fpl [Ent.gint 0]) w [eO 44 tyToken r.1 g901] w') := by
 rw [token_Tokens] at hm
 have hS0 : SH M (fpl [Ent.gint 0]) w [Ent.gint 0] w := hS
 generalize hX : fpl [Ent.gint 0] = X at hS0 ⊢
 clear hS hX
 have hS := hS0
 clear hS0
 refine calls_entryP Tryz.func9 rfl Tryz.ntmps9 rfl fun _ H => ?_
 refine s_reg [] [0] [(0, [], vS s)] [] H (by kernel_rfl) trivial fun _ wd1 H2 hb => ?_
 clear H
 replace hS := hS.below hb
 clear hb
 refine w_seq ?_
 refine wl_start ?_
 have hd := hS.hand [] [0] rfl rfl
 refine m_stp [4, 0] [(0, [], vS s)] H2 rfl rfl rfl rfl (o_alloc [vO] (z := vO) hd (by kernel_rfl) rfl) (fun _ => rfl) fun _ wd4 v H5 hq => ?_
 clear H2 hd
 obtain ⟨b3, rfl, hq⟩ := hq
 replace hS : SH M X w [eB b3 [vO], Ent.gint 0] _ := hS.join [] [0] rfl rfl hq
 clear hq
 refine wl_end rfl ?_
 refine w_seq ?_
 refine w_seq ?_
 refine wl_start ?_
 refine wl_batch 0 2 [] [4, 6, 7] [(4, [], vP b3), (6, [], vS s), (7, [], .func (.func 25) ⟨[]⟩ ⟨[vP b3]⟩)] [] H5 (by decide) (by kernel_rfl) trivial fun _ wd6 H7 hb => ?_
 clear H5
 replace hS := hS.below hb
 clear hb
 replace hS : SH M X w [eO 44 tyToken ([] : List TToken) (.nil), eB b3 [vO], Ent.gint 0] _ := hS.addNil 44 tyToken
 obtain ⟨y9, hy9, hm⟩ := bindE hm
 have hd := hS.hand [1, 0, 2] [2] rfl rfl
 refine m_stp [8, 4] [(4, [], vP b3)] H7 rfl rfl rfl rfl (o_callx H7 rfl rfl (token_read_ok (b_tell_c0 := b3) (g_tell_c0 := Gh.nil) m _ _ _ hy9 _ _ hd)) (fun _ => rfl) fun _ wd12 v H13 hq => ?_
 clear H7 hd
 obtain ⟨g10, rfl, hq⟩ := hq
 replace hS : SH M X w [eB b3 [.slice g10.a y9.2.length g10.c], eO 44 tyToken y9.2 g10, Ent.gint 0] _ := hS.join [1, 0, 2] [2] rfl rfl hq
 clear hq
 refine wl_batch 3 4 [] [4, 5] [(4, [], vP b3), (5, [], vI y9.1)] [] H13 (by decide) (by kernel_rfl) trivial fun _ wd14 H15 hb => ?_
 clear H13
 replace hS := hS.below hb
 clear hb
 refine wl_end rfl ?_
 refine s_reg [] [4, 5, 10] [(4, [], vP b3), (5, [], vI y9.1), (10, [], .bool (y9.1 != 0))] [] H15 (by kernel_rfl) trivial fun _ wd16 H17 hb => ?_
 clear H15
 replace hS := hS.below hb
 clear hb
 refine w_if H17 rfl (fun hc => ?_) (fun hc => ?c23)
 case c23 =>
  replace hm := bF hc hm
  refine w_skip ?_
  refine s_reg [(.slice g10.a y9.2.length g10.c)] [2, 3] [(2, [], .slice g10.a y9.2.length g10.c), (3, [], vI 0)] [fun wz => V.at1 ⟨b3, 0, none⟩ (.slice g10.a y9.2.length g10.c) wz] H17 (by kernel_rfl) ⟨((hS.bk 0 rfl).at1 rfl), trivial⟩ fun _ wd21 H22 hb => ?_
  clear H17
  replace hS := hS.below hb
  clear hb
  replace hS : SH M X w [eO 44 tyToken y9.2 g10, Ent.gint 0] _ := hS.sel [1, 2] rfl
  refine w_ret ?_
  obtain rfl := someE hm
  exact retR2 H22 rfl rfl rfl ⟨_, rfl, g10, rfl, (hS.sel [0] rfl)⟩
 replace hm := bT hc hm
 refine s_reg [] [2, 3] [(2, [], vO), (3, [], vI y9.1)] [] H17 (by kernel_rfl) trivial fun _ wd18 H19 hb => ?_
 clear H17
 replace hS := hS.below hb
 clear hb
 replace hS : SH M X w [Ent.gint 0] _ := hS.sel [2] rfl
 refine w_ret ?_
 obtain rfl := someE hm
 replace hS : SH M X w [eO 44 tyToken ([] : List TToken) (.nil), Ent.gint 0] _ := hS.addNil 44 tyToken
 exact retR2 H19 rfl rfl rfl ⟨_, rfl, Gh.nil, rfl, (hS.sel [0] rfl)⟩
theorem token_Tokens_ok  (m : Nat) (s : Str) (r : (List TToken) × Int) (hm : token_Tokens m s = some r) (M : Av) (w : World) (hS : S0 M [Ent.gint 0] w) : DoesX Tryz.prog 9 ⟨[vS s]⟩ w (fun v w' => ∃ (g901 : Gh), v = .tuple ⟨[.slice g901.a r.1.length g901.c, vI r.2]⟩ ∧ SH M (fpl [Ent.gint 0]) w [eO 44 tyToken r.1 g901] w') := ⟨Tryz.call9 _, token_Tokens_w M m   s r hm w hS⟩

def tyA2_int : Ty TA2_int where
  z := 2
  enc := fun x g => [vI x.e0, vI x.e1]
  inn := fun _ _ _ _ => True
  len := fun _ _ => rfl
  one := fun _ _ => rfl
  kp := fun _ _ _ => trivial
  anti := fun _ _ => trivial
  fresh := fun _ => trivial
theorem token_Spans_1_w {b_u0 : Nat} {g_u0 : Gh} (M : Av) (t_ : TToken) (from_ : Int) (to : Int) (u0 : List TA2_int) (r : List TA2_int) (hm : token_Spans_1 t_ from_ to u0 = some r) (w : World) (hS : S0 M [eB b_u0 [vL g_u0 u0], eO 39 tyA2_int u0 g_u0] w) : Calls Tryz.prog 28 ⟨[.agg ⟨[vU t_.Kind, .string ⟨⟨t_.Text⟩⟩, vI t_.Num, .string ⟨⟨t_.Unit⟩⟩, .bool t_.Flag]⟩, vI from_, vI to, vP b_u0]⟩ w (fun e w' => ∃ v, e = .returned v ∧ ∃ (g901 : Gh), v = .tuple ⟨[]⟩ ∧ SH M (fpl [eB b_u0 [vL g_u0 u0], eO 39 tyA2_int u0 g_u0]) w [eB b_u0 [vL g901 r], eO 39 tyA2_int r g901] w') := by
 rw [token_Spans_1] at hm
 have hS0 : SH M (fpl [eB b_u0 [vL g_u0 u0], eO 39 tyA2_int u0 g_u0]) w [eB b_u0 [vL g_u0 u0], eO 39 tyA2_int u0 g_u0] w := hS
 generalize hX : fpl [eB b_u0 [vL g_u0 u0], eO 39 tyA2_int u0 g_u0] = X at hS0 ⊢
 clear hS hX
 have hS := hS0
 clear hS0
 refine calls_entryP Tryz.func28 rfl Tryz.ntmps28 rfl fun _ H => ?_
 refine w_seq ?_
 refine wl_start ?_
 have hd := hS.hand [] [0, 1] rfl rfl
 refine m_stp [4, 1, 2, 3] [(1, [], vI from_), (2, [], vI to), (3, [], vP b_u0)] H rfl rfl rfl rfl (o_box [vU t_.Kind, .string ⟨⟨t_.Text⟩⟩, vI t_.Num, .string ⟨⟨t_.Unit⟩⟩, .bool t_.Flag] H hd rfl rfl) (fun _ => rfl) fun _ wd2 v H3 hq => ?_
 clear H hd
 obtain ⟨b1, rfl, hq⟩ := hq
 replace hS : SH M X w [eB b1 [vU t_.Kind, .string ⟨⟨t_.Text⟩⟩, vI t_.Num, .string ⟨⟨t_.Unit⟩⟩, .bool t_.Flag], eB b_u0 [vL g_u0 u0], eO 39 tyA2_int u0 g_u0] _ := hS.join [] [0, 1] rfl rfl hq
 clear hq
 refine wl_end rfl ?_
 replace hS : SH M X w [eB b_u0 [vL g_u0 u0], eO 39 tyA2_int u0 g_u0] _ := hS.sel [1, 2] rfl
 refine wl_start ?_
 refine wl_batch 0 4 [(vL g_u0 u0)] [3, 7, 10] [(3, [], vP b_u0), (7, [], vL g_u0 u0), (10, [], .agg ⟨[vI from_, vI to]⟩)] [fun wz => V.at1 ⟨b_u0, 0, none⟩ (vL g_u0 u0) wz] H3 (by decide) (by kernel_rfl) ⟨((hS.bk 0 rfl).at1 rfl), trivial⟩ fun _ wd4 H5 hb => ?_
 clear H3
 replace hS := hS.below hb
 clear hb
 have hd := hS.hand [] [0, 1] rfl rfl
 refine m_stp [11, 3, 7] [(3, [], vP b_u0), (7, [], vL g_u0 u0)] H5 rfl rfl rfl rfl (o_lit (T := tyA2_int) (E := 39) (zv := .agg ⟨[vI 0, vI 0]⟩) [vI from_, vI to] ([(TA2_int.mk from_ to)] : List TA2_int) [gL []] _ H5 hd rfl (by kernel_rfl) (by kernel_rfl) (by kernel_rfl) (by kernel_rfl) (by kernel_rfl) (by kernel_rfl) (by kernel_rfl) rfl (InnL.cons trivial InnL.nil)) (fun _ => rfl) fun _ wd8 v H9 hq => ?_
 clear H5 hd
 obtain ⟨g6, rfl, hq⟩ := hq
 replace hS : SH M X w [eO 39 tyA2_int ([(TA2_int.mk from_ to)] : List TA2_int) g6, eB b_u0 [vL g_u0 u0], eO 39 tyA2_int u0 g_u0] _ := hS.join [] [0, 1] rfl rfl hq
 clear hq
 obtain ⟨ho10, hm⟩ := chkE hm
 obtain ⟨q11, hq11, hm⟩ := letE hm
 have hd := hS.hand [2, 0] [1] rfl rfl
 refine m_stp [12, 3] [(3, [], vP b_u0)] H9 rfl rfl rfl rfl (o_app2 (T := tyA2_int) (zv := .agg ⟨[vI 0, vI 0]⟩) (g1 := g_u0) (g2 := g6) (l1 := u0) (l2 := ([(TA2_int.mk from_ to)] : List TA2_int)) q11 hq11.symm H9 hd rfl rfl rfl rfl rfl rfl rfl (by kernel_rfl) (by kernel_rfl) rfl rfl ho10) (fun _ => rfl) fun _ wd12 v H13 hq => ?_
 clear H9 hd
 obtain ⟨g14, rfl, hq⟩ := hq
 replace hS : SH M X w [eO 39 tyA2_int q11 g14, eO 39 tyA2_int ([(TA2_int.mk from_ to)] : List TA2_int) g6, eB b_u0 [vL g_u0 u0]] _ := hS.join [2, 0] [1] rfl rfl hq
 clear hq
 have hd := hS.hand [2] [0, 1] rfl rfl
 refine m_stp0 [] [] H13 rfl rfl rfl (o_store [vL g14 q11] H13 hd rfl rfl (by kernel_rfl) rfl rfl rfl) rfl fun _ wd15 H16 hq => ?_
 clear H13 hd
 obtain ⟨_, hq⟩ := hq
 replace hS : SH M X w [eB b_u0 [vL g14 q11], eO 39 tyA2_int q11 g14, eO 39 tyA2_int ([(TA2_int.mk from_ to)] : List TA2_int) g6] _ := hS.join [2] [0, 1] rfl rfl hq
 clear hq
 refine wl_end rfl ?_
 replace hS : SH M X w [eB b_u0 [vL g14 q11], eO 39 tyA2_int q11 g14] _ := hS.sel [0, 1] rfl
 obtain rfl := someE hm
 try dsimp only
 exact retR0 H16 rfl ⟨_, rfl, g14, rfl, (hS.sel [0, 1] rfl)⟩
theorem token_Spans_1_ok {b_u0 : Nat} {g_u0 : Gh} (t_ : TToken) (from_ : Int) (to : Int) (u0 : List TA2_int) (r : List TA2_int) (hm : token_Spans_1 t_ from_ to u0 = some r) (M : Av) (w : World) (hS : S0 M [eB b_u0 [vL g_u0 u0], eO 39 tyA2_int u0 g_u0] w) : DoesX Tryz.prog 28 ⟨[.agg ⟨[vU t_.Kind, .string ⟨⟨t_.Text⟩⟩, vI t_.Num, .string ⟨⟨t_.Unit⟩⟩, .bool t_.Flag]⟩, vI from_, vI to, vP b_u0]⟩ w (fun v w' => ∃ (g901 : Gh), v = .tuple ⟨[]⟩ ∧ SH M (fpl [eB b_u0 [vL g_u0 u0], eO 39 tyA2_int u0 g_u0]) w [eB b_u0 [vL g901 r], eO 39 tyA2_int r g901] w') := ⟨Tryz.call28 _, token_Spans_1_w M   t_ from_ to u0 r hm w hS⟩

end Go.Proofs.YtfancfogkhclfaaGreatDoor
