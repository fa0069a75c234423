/-
  What the Go functions compute, as Lean functions, and that a call returns just that. Printed by a program.
-/
import Derived.Test.YtehlikdeobajcaaDoorRows
import Derived.Test.YtehlikdeobajcaaDoorRF
import Derived.Test.YtehlikdeobajcaaDoorX
import Derived.Test.YtehlikdeobajcaaDoorW31b
set_option linter.unusedVariables false
set_option maxRecDepth 20000
set_option maxHeartbeats 4000000
namespace Go.Proofs.YtehlikdeobajcaaDoor
open Go.V Go.RowKit

theorem slices_IndexFunc_api_Prop_api_Prop_w {g_s : Gh} {b_f_c0 : Nat} (M : Av) (m : Nat) (s : List TProp) (f_c0 : Str) (r : Int) (hm : slices_IndexFunc_api_Prop_api_Prop m s f_c0 = some r) (w : World) (hS : S0 M [Ent.im tyProp s g_s, Ent.ro b_f_c0 [.string ⟨⟨f_c0⟩⟩]] w) : Calls Tryd.prog 41 ⟨[.slice g_s.a s.length g_s.c, .func (.func 42) ⟨[]⟩ ⟨[.pointer (some ⟨b_f_c0, 0, none⟩)]⟩]⟩ w (fun e w' => ∃ v, e = .returned v ∧ v = .int .i64 r ∧ SH M (fpl [Ent.im tyProp s g_s, Ent.ro b_f_c0 [.string ⟨⟨f_c0⟩⟩]]) w [] w') := by
 rw [slices_IndexFunc_api_Prop_api_Prop] at hm
 have hS0 : SH M (fpl [Ent.im tyProp s g_s, Ent.ro b_f_c0 [.string ⟨⟨f_c0⟩⟩]]) w [Ent.im tyProp s g_s, Ent.ro b_f_c0 [.string ⟨⟨f_c0⟩⟩]] w := hS
 generalize hX : fpl [Ent.im tyProp s g_s, Ent.ro b_f_c0 [.string ⟨⟨f_c0⟩⟩]] = X at hS0 ⊢
 clear hS hX
 have hS := hS0
 clear hS0
 refine calls_entryP Tryd.func41 rfl Tryd.ntmps41 rfl fun _ H => ?_
 refine s_reg [] [0, 1] [(0, [], .slice g_s.a s.length g_s.c), (1, [], .func (.func 42) ⟨[]⟩ ⟨[.pointer (some ⟨b_f_c0, 0, none⟩)]⟩)] [] H (by kernel_rfl) trivial fun _ wd1 H2 hb => ?_
 clear H
 replace hS := hS.below hb
 clear hb
 obtain ⟨z3, hz, hm_z3⟩ := bindE hm
 refine w_cut (fun a' w' => ∃ s_z3 : Unit, z3 = Sum.inr s_z3 ∧ Fr 19 [] a' ∧ SH M X w [Ent.im tyProp s g_s, Ent.ro b_f_c0 [.string ⟨⟨f_c0⟩⟩]] w') ?_ ?_
 ·replace hm := hz
  refine s_reg [] [0, 1, 7, 8] [(0, [], .slice g_s.a s.length g_s.c), (1, [], .func (.func 42) ⟨[]⟩ ⟨[.pointer (some ⟨b_f_c0, 0, none⟩)]⟩), (7, [], .int .i64 (ln s)), (8, [], .int .i64 0)] [] H2 (by kernel_rfl) trivial fun _ wd4 H5 hb => ?_
  clear H2
  replace hS := hS.below hb
  clear hb
  refine w_block ?_
  refine w_loop (fun kk a' w' => ∃ (v6 : Int), slices_IndexFunc_api_Prop_api_Prop_L1 m s f_c0 kk v6 = some _ ∧ Fr 19 [(0, [], .slice g_s.a s.length g_s.c), (1, [], .func (.func 42) ⟨[]⟩ ⟨[.pointer (some ⟨b_f_c0, 0, none⟩)]⟩), (7, [], .int .i64 (ln s)), (8, [], .int .i64 v6)] a' ∧ SH M X w [Ent.im tyProp s g_s, Ent.ro b_f_c0 [.string ⟨⟨f_c0⟩⟩]] w') ⟨_, 0, hm, FrG.keep (ks := [0, 1, 7, 8]) H5 (by kernel_rfl), hS⟩ ?_
  clear hm H5 hS
  rintro kk _ wd20 ⟨v6, hm, H, hS⟩
  cases kk with
  | zero => exact noneE hm
  | succ kk =>
   rw [slices_IndexFunc_api_Prop_api_Prop_L1] at hm
   refine s_reg [] [0, 1, 7, 8, 9] [(0, [], .slice g_s.a s.length g_s.c), (1, [], .func (.func 42) ⟨[]⟩ ⟨[.pointer (some ⟨b_f_c0, 0, none⟩)]⟩), (7, [], .int .i64 (ln s)), (8, [], .int .i64 v6), (9, [], .bool (decide (v6 < (ln s))))] [] H (by kernel_rfl) trivial fun _ wd7 H8 hb => ?_
   clear H
   replace hS := hS.below hb
   clear hb
   refine w_seq ?_
   refine w_if H8 rfl (fun hc => ?_) (fun hc => ?c19)
   case c19 =>
    replace hm := bF hc hm
    refine w_exit rfl ?_
    obtain rfl := someE hm
    exact ⟨_, rfl, FrG.keep (ks := []) H8 (by kernel_rfl), hS⟩
   replace hm := bT hc hm
   refine w_skip ?_
   refine w_seq ?_
   refine w_block ?_
   refine s_reg [] [0, 1, 5, 7, 8] [(0, [], .slice g_s.a s.length g_s.c), (1, [], .func (.func 42) ⟨[]⟩ ⟨[.pointer (some ⟨b_f_c0, 0, none⟩)]⟩), (5, [], .int .i64 v6), (7, [], .int .i64 (ln s)), (8, [], .int .i64 v6)] [] H8 (by kernel_rfl) trivial fun _ wd9 H10 hb => ?_
   clear H8
   replace hS := hS.below hb
   clear hb
   obtain ⟨ho11, hm⟩ := chkE hm
   refine s_reg [(.agg ⟨[.string ⟨⟨(gi s v6).Name⟩⟩, .bool ((gi s v6).Inherited), .int .u8 ((gi s v6).Initial.Kind), .string ⟨⟨(gi s v6).Initial.Word⟩⟩, .int .i64 ((gi s v6).Initial.Num), .int .u8 ((gi s v6).Initial.Color.Red), .int .u8 ((gi s v6).Initial.Color.Green), .int .u8 ((gi s v6).Initial.Color.Blue), .int .u8 ((gi s v6).Initial.Color.Alpha), .slice (g_s.s (v6).toNat 0).a (((gi s v6).Words).length) (g_s.s (v6).toNat 0).c, .slice (g_s.s (v6).toNat 1).a (((gi s v6).Kinds).length) (g_s.s (v6).toNat 1).c, .bool ((gi s v6).Least)]⟩), (.bool (props_Find_1 (gi s v6) f_c0))] [0, 1, 5, 7, 8, 16] [(0, [], .slice g_s.a s.length g_s.c), (1, [], .func (.func 42) ⟨[]⟩ ⟨[.pointer (some ⟨b_f_c0, 0, none⟩)]⟩), (5, [], .int .i64 v6), (7, [], .int .i64 (ln s)), (8, [], .int .i64 v6), (16, [], .bool (props_Find_1 (gi s v6) f_c0))] [fun _ => oka g_s.a ∧ 0 ≤ v6 ∧ v6 < ln s, fun wz => V.atN (ab g_s.a) (ao g_s.a + (v6).toNat * 12) [.string ⟨⟨(gi s v6).Name⟩⟩, .bool ((gi s v6).Inherited), .int .u8 ((gi s v6).Initial.Kind), .string ⟨⟨(gi s v6).Initial.Word⟩⟩, .int .i64 ((gi s v6).Initial.Num), .int .u8 ((gi s v6).Initial.Color.Red), .int .u8 ((gi s v6).Initial.Color.Green), .int .u8 ((gi s v6).Initial.Color.Blue), .int .u8 ((gi s v6).Initial.Color.Alpha), .slice (g_s.s (v6).toNat 0).a (((gi s v6).Words).length) (g_s.s (v6).toNat 0).c, .slice (g_s.s (v6).toNat 1).a (((gi s v6).Kinds).length) (g_s.s (v6).toNat 1).c, .bool ((gi s v6).Least)] 0 wz, fun wz => RetB Tryd.prog 42 ⟨[.agg ⟨[.string ⟨⟨(gi s v6).Name⟩⟩, .bool ((gi s v6).Inherited), .int .u8 ((gi s v6).Initial.Kind), .string ⟨⟨(gi s v6).Initial.Word⟩⟩, .int .i64 ((gi s v6).Initial.Num), .int .u8 ((gi s v6).Initial.Color.Red), .int .u8 ((gi s v6).Initial.Color.Green), .int .u8 ((gi s v6).Initial.Color.Blue), .int .u8 ((gi s v6).Initial.Color.Alpha), .slice (g_s.s (v6).toNat 0).a (((gi s v6).Words).length) (g_s.s (v6).toNat 0).c, .slice (g_s.s (v6).toNat 1).a (((gi s v6).Kinds).length) (g_s.s (v6).toNat 1).c, .bool ((gi s v6).Least)]⟩, .pointer (some ⟨b_f_c0, 0, none⟩)]⟩ (.bool (props_Find_1 (gi s v6) f_c0)) wz] H10 (by kernel_rfl) ⟨((hS.im 0 rfl).oki ho11), ((hS.im 0 rfl).atA ho11 0 rfl), (props_Find_1_ok (g_p_0 := (g_s.s (v6).toNat 0)) (g_p_1 := (g_s.s (v6).toNat 1)) (b_u0 := b_f_c0) _ _ _ (s0im (s0im (s0ro s0nil (hS.ro 1 rfl)) (tyProp_i1 ((hS.im 0 rfl).el ho11))) (tyProp_i0 ((hS.im 0 rfl).el ho11)))), trivial⟩ fun _ wd12 H13 hb => ?_
   clear H10
   replace hS := hS.below hb
   clear hb
   refine w_if H13 rfl (fun hc => ?_) (fun hc => ?c18)
   case c18 =>
    replace hm := bF hc hm
    refine w_skip ?_
    refine w_reg [] [0, 1, 7, 8] [(0, [], .slice g_s.a s.length g_s.c), (1, [], .func (.func 42) ⟨[]⟩ ⟨[.pointer (some ⟨b_f_c0, 0, none⟩)]⟩), (7, [], .int .i64 (ln s)), (8, [], .int .i64 (w64 (v6 + 1)))] [] H13 (by kernel_rfl) trivial fun _ wd16 H17 hb => ?_
    clear H13
    replace hS := hS.below hb
    clear hb
    exact ⟨_, Nat.lt_succ_self _, w64 (v6 + 1), hm, FrG.keep (ks := [0, 1, 7, 8]) H17 (by kernel_rfl), hS⟩
   replace hm := bT hc hm
   refine s_reg [] [4] [(4, [], .int .i64 v6)] [] H13 (by kernel_rfl) trivial fun _ wd14 H15 hb => ?_
   clear H13
   replace hS := hS.below hb
   clear hb
   refine w_ret ?_
   obtain rfl := someE hm
   have hm := hm_z3
   obtain rfl := someE hm
   exact retR1 H15 rfl rfl ⟨_, rfl, rfl, (hS.sel [] rfl)⟩
 ·rintro _ wd23 ⟨s_z3, hz, H, hS⟩
  subst hz
  replace hm := sumR hm_z3
  replace hS : SH M X w [] _ := hS.sel [] rfl
  refine s_reg [] [4] [(4, [], .int .i64 (-1))] [] H (by kernel_rfl) trivial fun _ wd21 H22 hb => ?_
  clear H
  replace hS := hS.below hb
  clear hb
  refine w_ret ?_
  obtain rfl := someE hm
  exact retR1 H22 rfl rfl ⟨_, rfl, rfl, (hS.sel [] rfl)⟩
theorem slices_IndexFunc_api_Prop_api_Prop_ok {g_s : Gh} {b_f_c0 : Nat} (m : Nat) (s : List TProp) (f_c0 : Str) (r : Int) (hm : slices_IndexFunc_api_Prop_api_Prop m s f_c0 = some r) (w : World) (hL : S0 F0 [Ent.im tyProp s g_s, Ent.ro b_f_c0 [.string ⟨⟨f_c0⟩⟩]] w ∧ fpl [Ent.im tyProp s g_s, Ent.ro b_f_c0 [.string ⟨⟨f_c0⟩⟩]] = []) : RetB Tryd.prog 41 ⟨[.slice g_s.a s.length g_s.c, .func (.func 42) ⟨[]⟩ ⟨[.pointer (some ⟨b_f_c0, 0, none⟩)]⟩]⟩ (.int .i64 r) w := retB_of hL (Tryd.call41 _) (fun w' h => slices_IndexFunc_api_Prop_api_Prop_w F0 m   s f_c0 r hm w' h)

def props_Find (m : Nat) (name_ : Str) : Option (Int × Int) :=
  Option.bind (props_Table m) fun y6 =>
  Option.bind (slices_IndexFunc_api_Prop_api_Prop m y6 name_) fun y11 =>
  cond (decide (y11 < 0)) (
  some (0, 6)) (
  some (y11, 0))
theorem props_Find_w  (M : Av) (m : Nat) (name_ : Str) (r : Int × Int) (hm : props_Find m name_ = some r) (w : World) (hS : S0 M [gE0] w) : Calls Tryd.prog 25 ⟨[.string ⟨⟨name_⟩⟩]⟩ w (fun e w' => ∃ v, e = .returned v ∧ v = .tuple ⟨[.int .i64 r.1, .int .i64 r.2]⟩ ∧ SH M (fpl [gE0]) w [] w') := by
 rw [props_Find] at hm
 have hS0 : SH M (fpl [gE0]) w [gE0] w := hS
 generalize hX : fpl [gE0] = X at hS0 ⊢
 clear hS hX
 have hS := hS0
 clear hS0
 refine calls_entryP Tryd.func25 rfl Tryd.ntmps25 rfl fun _ H => ?_
 refine w_seq ?_
 refine wl_start ?_
 have hd := hS.hand [] [0] rfl rfl
 refine m_stp [1] [] H rfl rfl rfl rfl (o_box [.string ⟨⟨name_⟩⟩] H hd rfl rfl) (fun _ => rfl) fun _ wd2 v H3 hq => ?_
 clear H hd
 obtain ⟨b1, rfl, hq⟩ := hq
 replace hS : SH M X w [Ent.blk b1 [.string ⟨⟨name_⟩⟩], gE0] _ := hS.join [] [0] rfl rfl hq
 clear hq
 refine wl_batch 1 3 [] [1] [(1, [], .pointer (some ⟨b1, 0, none⟩))] [] H3 (by decide) (by kernel_rfl) trivial fun _ wd4 H5 hb => ?_
 clear H3
 replace hS := hS.below hb
 clear hb
 refine wl_end rfl ?_
 refine w_seq ?_
 refine wl_start ?_
 obtain ⟨y6, hy6, hm⟩ := bindE hm
 have hd := hS.hand [1] [0, 1] rfl rfl
 refine m_stp [5, 1] [(1, [], .pointer (some ⟨b1, 0, none⟩))] H5 rfl rfl rfl rfl (o_callx H5 rfl rfl (props_Table_ok m _ hy6 _ _ hd)) (fun _ => rfl) fun _ wd9 v H10 hq => ?_
 clear H5 hd
 obtain ⟨g7, rfl, hq⟩ := hq
 replace hS : SH M X w [Ent.own 68 tyProp y6 g7, Ent.blk b1 [.string ⟨⟨name_⟩⟩], gE0] _ := hS.join [1] [0, 1] rfl rfl hq
 clear hq
 obtain ⟨y11, hy11, hm⟩ := bindE hm
 refine wl_batch 1 4 [(.int .i64 y11)] [4] [(4, [], .int .i64 y11)] [fun wz => RetB Tryd.prog 41 ⟨[.slice g7.a y6.length g7.c, .func (.func 42) ⟨[]⟩ ⟨[.pointer (some ⟨b1, 0, none⟩)]⟩]⟩ (.int .i64 y11) wz] H10 (by decide) (by kernel_rfl) ⟨(slices_IndexFunc_api_Prop_api_Prop_ok (g_s := g7) (b_f_c0 := b1) m _ _ _ hy11 _ (s0im (s0ro s0nil (hS.bk 1 rfl)) (hS.osl 0 rfl))), trivial⟩ fun _ wd12 H13 hb => ?_
 clear H10
 replace hS := hS.below hb
 clear hb
 refine wl_end rfl ?_
 replace hS : SH M X w [gE0] _ := hS.sel [2] rfl
 refine w_seq ?_
 refine s_reg [] [4, 9] [(4, [], .int .i64 y11), (9, [], .bool (decide (y11 < 0)))] [] H13 (by kernel_rfl) trivial fun _ wd14 H15 hb => ?_
 clear H13
 replace hS := hS.below hb
 clear hb
 refine w_if H15 rfl (fun hc => ?c20) (fun hc => ?_)
 case c20 =>
  replace hm := bT hc hm
  refine s_reg [] [2, 3] [(2, [], .int .i64 0), (3, [], .int .i64 6)] [] H15 (by kernel_rfl) trivial fun _ wd16 H17 hb => ?_
  clear H15
  replace hS := hS.below hb
  clear hb
  refine w_ret ?_
  obtain rfl := someE hm
  exact retR2 H17 rfl rfl rfl ⟨_, rfl, rfl, (hS.sel [] rfl)⟩
 replace hm := bF hc hm
 refine w_skip ?_
 refine s_reg [] [2, 3] [(2, [], .int .i64 y11), (3, [], .int .i64 0)] [] H15 (by kernel_rfl) trivial fun _ wd18 H19 hb => ?_
 clear H15
 replace hS := hS.below hb
 clear hb
 refine w_ret ?_
 obtain rfl := someE hm
 exact retR2 H19 rfl rfl rfl ⟨_, rfl, rfl, (hS.sel [] rfl)⟩
theorem props_Find_ok  (m : Nat) (name_ : Str) (r : Int × Int) (hm : props_Find m name_ = some r) (w : World) (hL : S0 F0 [gE0] w ∧ fpl [gE0] = []) : RetB Tryd.prog 25 ⟨[.string ⟨⟨name_⟩⟩]⟩ (.tuple ⟨[.int .i64 r.1, .int .i64 r.2]⟩) w := retB_of hL (Tryd.call25 _) (fun w' h => props_Find_w F0 m   name_ r hm w' h)

def props_Inherited (m : Nat) (name_ : Str) : Option (Bool × Int) :=
  Option.bind (props_Custom name_) fun y3 =>
  cond y3 (
  some (true, 0)) (
  Option.bind (props_Find m name_) fun y8 =>
  cond (y8.2 != 0) (
  some (false, y8.2)) (
  Option.bind (props_Table m) fun y15 =>
  chk (0 ≤ y8.1 ∧ y8.1 < ln y15) <|
  some ((gi y15 y8.1).Inherited, 0)))
theorem props_Inherited_w  (M : Av) (m : Nat) (name_ : Str) (r : Bool × Int) (hm : props_Inherited m name_ = some r) (w : World) (hS : S0 M [gE0] w) : Calls Tryd.prog 14 ⟨[.string ⟨⟨name_⟩⟩]⟩ w (fun e w' => ∃ v, e = .returned v ∧ v = .tuple ⟨[.bool r.1, .int .i64 r.2]⟩ ∧ SH M (fpl [gE0]) w [] w') := by
 rw [props_Inherited] at hm
 have hS0 : SH M (fpl [gE0]) w [gE0] w := hS
 generalize hX : fpl [gE0] = X at hS0 ⊢
 clear hS hX
 have hS := hS0
 clear hS0
 refine calls_entryP Tryd.func14 rfl Tryd.ntmps14 rfl fun _ H => ?_
 refine s_reg [] [0] [(0, [], .string ⟨⟨name_⟩⟩)] [] H (by kernel_rfl) trivial fun _ wd1 H2 hb => ?_
 clear H
 replace hS := hS.below hb
 clear hb
 refine w_seq ?_
 obtain ⟨y3, hy3, hm⟩ := bindE hm
 refine s_reg [(.bool y3)] [0, 7] [(0, [], .string ⟨⟨name_⟩⟩), (7, [], .bool y3)] [fun wz => RetB Tryd.prog 24 ⟨[.string ⟨⟨name_⟩⟩]⟩ (.bool y3) wz] H2 (by kernel_rfl) ⟨((props_Custom_ok _ _ hy3).b), trivial⟩ fun _ wd4 H5 hb => ?_
 clear H2
 replace hS := hS.below hb
 clear hb
 refine w_if H5 rfl (fun hc => ?c24) (fun hc => ?_)
 case c24 =>
  replace hm := bT hc hm
  refine s_reg [] [2, 3] [(2, [], .bool true), (3, [], .int .i64 0)] [] H5 (by kernel_rfl) trivial fun _ wd6 H7 hb => ?_
  clear H5
  replace hS := hS.below hb
  clear hb
  refine w_ret ?_
  obtain rfl := someE hm
  exact retR2 H7 rfl rfl rfl ⟨_, rfl, rfl, (hS.sel [] rfl)⟩
 replace hm := bF hc hm
 refine w_skip ?_
 obtain ⟨y8, hy8, hm⟩ := bindE hm
 refine s_reg [(.tuple ⟨[.int .i64 y8.1, .int .i64 y8.2]⟩)] [4, 5] [(4, [], .int .i64 y8.1), (5, [], .int .i64 y8.2)] [fun wz => RetB Tryd.prog 25 ⟨[.string ⟨⟨name_⟩⟩]⟩ (.tuple ⟨[.int .i64 y8.1, .int .i64 y8.2]⟩) wz] H5 (by kernel_rfl) ⟨(props_Find_ok m _ _ hy8 _ (s0im s0nil (hS.im 0 rfl))), trivial⟩ fun _ wd9 H10 hb => ?_
 clear H5
 replace hS := hS.below hb
 clear hb
 refine w_seq ?_
 refine s_reg [] [4, 5, 14] [(4, [], .int .i64 y8.1), (5, [], .int .i64 y8.2), (14, [], .bool (y8.2 != 0))] [] H10 (by kernel_rfl) trivial fun _ wd11 H12 hb => ?_
 clear H10
 replace hS := hS.below hb
 clear hb
 refine w_if H12 rfl (fun hc => ?c23) (fun hc => ?_)
 case c23 =>
  replace hm := bT hc hm
  refine s_reg [] [2, 3] [(2, [], .bool false), (3, [], .int .i64 y8.2)] [] H12 (by kernel_rfl) trivial fun _ wd13 H14 hb => ?_
  clear H12
  replace hS := hS.below hb
  clear hb
  refine w_ret ?_
  obtain rfl := someE hm
  exact retR2 H14 rfl rfl rfl ⟨_, rfl, rfl, (hS.sel [] rfl)⟩
 replace hm := bF hc hm
 refine w_skip ?_
 refine w_seq ?_
 refine wl_start ?_
 obtain ⟨y15, hy15, hm⟩ := bindE hm
 have hd := hS.hand [0] [0] rfl rfl
 refine m_stp [16, 4] [(4, [], .int .i64 y8.1)] H12 rfl rfl rfl rfl (o_callx H12 rfl rfl (props_Table_ok m _ hy15 _ _ hd)) (fun _ => rfl) fun _ wd18 v H19 hq => ?_
 clear H12 hd
 obtain ⟨g16, rfl, hq⟩ := hq
 replace hS : SH M X w [Ent.own 68 tyProp y15 g16, gE0] _ := hS.join [0] [0] rfl rfl hq
 clear hq
 obtain ⟨ho20, hm⟩ := chkE hm
 refine wl_batch 1 7 [(.bool ((gi y15 y8.1).Inherited))] [2, 3] [(2, [], .bool ((gi y15 y8.1).Inherited)), (3, [], .int .i64 0)] [fun _ => oka g16.a ∧ 0 ≤ y8.1 ∧ y8.1 < ln y15, fun wz => V.at1 ⟨ab g16.a, ao g16.a + (y8.1).toNat * 12 + 1, none⟩ (.bool ((gi y15 y8.1).Inherited)) wz] H19 (by decide) (by kernel_rfl) ⟨((hS.osl 0 rfl).oki ho20), ((hS.osl 0 rfl).at1 ho20 1 rfl), trivial⟩ fun _ wd21 H22 hb => ?_
 clear H19
 replace hS := hS.below hb
 clear hb
 refine wl_end rfl ?_
 replace hS : SH M X w [gE0] _ := hS.sel [1] rfl
 refine w_ret ?_
 obtain rfl := someE hm
 exact retR2 H22 rfl rfl rfl ⟨_, rfl, rfl, (hS.sel [] rfl)⟩
theorem props_Inherited_ok  (m : Nat) (name_ : Str) (r : Bool × Int) (hm : props_Inherited m name_ = some r) (w : World) (hL : S0 F0 [gE0] w ∧ fpl [gE0] = []) : RetB Tryd.prog 14 ⟨[.string ⟨⟨name_⟩⟩]⟩ (.tuple ⟨[.bool r.1, .int .i64 r.2]⟩) w := retB_of hL (Tryd.call14 _) (fun w' h => props_Inherited_w F0 m   name_ r hm w' h)

def nest_closer (kind : Int) : Int :=
  cond (kind == 2) (
  22) (
  lt (
  cond (kind == 19) (
  kind == 19) (
  cond (kind == 21) (
  kind == 21) (
  kind == 23))) fun (z9 : Bool) =>
  cond z9 (
  wu8 (kind + 1)) (
  0))
theorem nest_closer_w  (M : Av) (kind : Int) (r : Int) (hm : nest_closer kind = r) (w : World) (hS : S0 M [] w) : Calls Tryd.prog 73 ⟨[.int .u8 kind]⟩ w (fun e w' => ∃ v, e = .returned v ∧ v = .int .u8 r ∧ SH M (fpl []) w [] w') := by
 rw [nest_closer] at hm
 have hS0 : SH M (fpl []) w [] w := hS
 generalize hX : fpl [] = X at hS0 ⊢
 clear hS hX
 have hS := hS0
 clear hS0
 refine calls_entryP Tryd.func73 rfl Tryd.ntmps73 rfl fun _ H => ?_
 refine s_reg [] [0] [(0, [], .int .u8 kind)] [] H (by kernel_rfl) trivial fun _ wd1 H2 hb => ?_
 clear H
 replace hS := hS.below hb
 clear hb
 refine w_seq ?_
 refine s_reg [] [0, 3] [(0, [], .int .u8 kind), (3, [], .int .u8 kind)] [] H2 (by kernel_rfl) trivial fun _ wd3 H4 hb => ?_
 clear H2
 replace hS := hS.below hb
 clear hb
 refine w_block ?_
 refine s_reg [] [0, 3, 4] [(0, [], .int .u8 kind), (3, [], .int .u8 kind), (4, [], .bool (kind == 2))] [] H4 (by kernel_rfl) trivial fun _ wd5 H6 hb => ?_
 clear H4
 replace hS := hS.below hb
 clear hb
 refine w_if H6 rfl (fun hc => ?c24) (fun hc => ?_)
 case c24 =>
  replace hm := bT hc hm
  refine s_reg [] [2] [(2, [], .int .u8 22)] [] H6 (by kernel_rfl) trivial fun _ wd7 H8 hb => ?_
  clear H6
  replace hS := hS.below hb
  clear hb
  refine w_ret ?_
  subst hm
  exact retR1 H8 rfl rfl ⟨_, rfl, rfl, (hS.sel [] rfl)⟩
 replace hm := bF hc hm
 obtain ⟨z9, hz, hm⟩ := letE hm
 refine w_cut (fun a' w' => Fr 12 [(0, [], .int .u8 kind), (6, [], .bool z9)] a' ∧ SH M X w [] w') ?_ ?_
 ·replace hm := hz.symm
  refine s_reg [] [0, 3, 6] [(0, [], .int .u8 kind), (3, [], .int .u8 kind), (6, [], .bool (kind == 19))] [] H6 (by kernel_rfl) trivial fun _ wd10 H11 hb => ?_
  clear H6
  replace hS := hS.below hb
  clear hb
  refine w_if H11 rfl (fun hc => ?c17) (fun hc => ?_)
  case c17 =>
   replace hm := bT hc hm
   refine w_skip ?_
   subst hm
   exact ⟨FrG.keep (ks := [0, 6]) H11 (by kernel_rfl), hS⟩
  replace hm := bF hc hm
  refine s_reg [] [0, 3, 6] [(0, [], .int .u8 kind), (3, [], .int .u8 kind), (6, [], .bool (kind == 21))] [] H11 (by kernel_rfl) trivial fun _ wd12 H13 hb => ?_
  clear H11
  replace hS := hS.below hb
  clear hb
  refine w_if H13 rfl (fun hc => ?c16) (fun hc => ?_)
  case c16 =>
   replace hm := bT hc hm
   refine w_skip ?_
   subst hm
   exact ⟨FrG.keep (ks := [0, 6]) H13 (by kernel_rfl), hS⟩
  replace hm := bF hc hm
  refine w_reg [] [0, 6] [(0, [], .int .u8 kind), (6, [], .bool (kind == 23))] [] H13 (by kernel_rfl) trivial fun _ wd14 H15 hb => ?_
  clear H13
  replace hS := hS.below hb
  clear hb
  subst hm
  exact ⟨FrG.keep (ks := [0, 6]) H15 (by kernel_rfl), hS⟩
 ·rintro _ wd23 ⟨H, hS⟩
  refine w_if H rfl (fun hc => ?c22) (fun hc => ?_)
  case c22 =>
   replace hm := bT hc hm
   refine s_reg [] [2] [(2, [], .int .u8 (wu8 (kind + 1)))] [] H (by kernel_rfl) trivial fun _ wd18 H19 hb => ?_
   clear H
   replace hS := hS.below hb
   clear hb
   refine w_ret ?_
   subst hm
   exact retR1 H19 rfl rfl ⟨_, rfl, rfl, (hS.sel [] rfl)⟩
  replace hm := bF hc hm
  refine w_skip ?_
  refine s_reg [] [2] [(2, [], .int .u8 0)] [] H (by kernel_rfl) trivial fun _ wd20 H21 hb => ?_
  clear H
  replace hS := hS.below hb
  clear hb
  refine w_ret ?_
  subst hm
  exact retR1 H21 rfl rfl ⟨_, rfl, rfl, (hS.sel [] rfl)⟩
theorem nest_closer_ok  (kind : Int) : Ret Tryd.prog 73 ⟨[.int .u8 kind]⟩ (.int .u8 (nest_closer kind)) := retP_of (Tryd.call73 _) (fun w h => nest_closer_w F0   kind _ rfl w h)

structure Tnest_found where
  depth : Int
  tokens : Int
  bad : Bool
instance : Inhabited Tnest_found := ⟨⟨default, default, default⟩⟩
def tynest_found : Ty Tnest_found where
  z := 3
  enc := fun x g => [.int .i64 x.depth, .int .i64 x.tokens, .bool x.bad]
  inn := fun _ _ _ _ => True
  len := fun _ _ => rfl
  one := fun _ _ => rfl
  kp := fun _ _ _ => trivial
  anti := fun _ _ => trivial
  fresh := fun _ => trivial
def nest_look_S (rec_ : (List TValue) → Int → Option (Tnest_found)) : Prop := ∀ (g_v_ : Gh) (M : Av) (v_ : List TValue) (closes : Int) (r : Tnest_found), rec_ v_ closes = some r → ∀ w, S0 M [Ent.im tyValue v_ g_v_] w → Calls Tryd.prog 55 ⟨[.slice g_v_.a v_.length g_v_.c, .int .u8 closes]⟩ w (fun e w' => ∃ v, e = .returned v ∧ v = .agg ⟨[.int .i64 r.depth, .int .i64 r.tokens, .bool r.bad]⟩ ∧ SH M (fpl [Ent.im tyValue v_ g_v_]) w [] w')
def nest_look_L1 (m : Nat) (v_ : List TValue) (closes : Int) (rec_nest_look : (List TValue) → Int → Option (Tnest_found)) : Nat → Int → Int → Int → Bool → Option (Int × Int × Bool)
  | 0, _, _, _, _ => none
  | kk + 1, v10, v11, v12, v13 =>
    cond (decide (v10 < (ln v_))) (
    Option.bind (
    chk (0 ≤ v10 ∧ v10 < ln v_) <|
    Option.bind (
    lt (cond (closes != 0) (((gi v_ v10).Token.Kind) == closes) false) fun x32 =>
    lt (cond x32 true (cond ((nest_closer ((gi v_ v10).Token.Kind)) == 0) (decide (0 < (ln ((gi v_ v10).List_)))) false)) fun x33 =>
    cond x33 (
    some true) (
    some v13)) fun (z31 : Bool) =>
    lt ((nest_closer ((gi v_ v10).Token.Kind)) == 0) fun x41 =>
    cond x41 (
    some (w64 (v12 + 1), z31, v11)) (
    Option.bind (rec_nest_look ((gi v_ v10).List_) (nest_closer ((gi v_ v10).Token.Kind))) fun y44 =>
    lt (if v11 < w64 (y44.depth + 1) then w64 (y44.depth + 1) else v11) fun x52 =>
    lt (w64 ((w64 ((w64 (v12 + 1)) + y44.tokens)) + 1)) fun x53 =>
    some (x53, cond z31 true y44.bad, x52))) fun (z16 : Int × Bool × Int) =>
    nest_look_L1 m v_ closes rec_nest_look kk (w64 (v10 + 1)) z16.2.2 z16.1 z16.2.1) (
    some (v11, v12, v13))
def nest_look_r (m : Nat) : Nat → (List TValue) → Int → Option (Tnest_found)
  | 0, _, _ => none
  | k + 1, v_, closes =>
    Option.bind (
    nest_look_L1 m v_ closes (nest_look_r m k) m 0 0 0 false) fun (z7 : Int × Int × Bool) =>
    some (Tnest_found.mk z7.1 z7.2.1 z7.2.2)
theorem nest_look_w (m : Nat) : ∀ (k : Nat), nest_look_S (nest_look_r m  k) := by
 intro k
 induction k with
 | zero => intro g_v_ M v_ closes r hm; exact noneE hm
 | succ k ih =>
  intro g_v_ M v_ closes r hm w hS
  rw [nest_look_r] at hm
  have hS0 : SH M (fpl [Ent.im tyValue v_ g_v_]) w [Ent.im tyValue v_ g_v_] w := hS
  generalize hX : fpl [Ent.im tyValue v_ g_v_] = X at hS0 ⊢
  clear hS hX
  have hS := hS0
  clear hS0
  refine calls_entryP Tryd.func55 rfl Tryd.ntmps55 rfl fun _ H => ?_
  refine w_seq ?_
  refine wl_start ?_
  have hd := hS.hand [] [0] rfl rfl
  refine m_stp [4, 0, 1] [(0, [], .slice g_v_.a v_.length g_v_.c), (1, [], .int .u8 closes)] H rfl rfl rfl rfl (o_alloc [.int .i64 0, .int .i64 0, .bool false] (z := .agg ⟨[.int .i64 0, .int .i64 0, .bool false]⟩) hd (by kernel_rfl) rfl) (fun _ => rfl) fun _ wd2 v H3 hq => ?_
  clear H hd
  obtain ⟨b1, rfl, hq⟩ := hq
  replace hS : SH M X w [Ent.blk b1 [.int .i64 0, .int .i64 0, .bool false], Ent.im tyValue v_ g_v_] _ := hS.join [] [0] rfl rfl hq
  clear hq
  refine wl_end rfl ?_
  refine w_seq ?_
  refine wl_start ?_
  have hd := hS.hand [] [0, 1] rfl rfl
  refine m_stp [5, 0, 1, 4] [(0, [], .slice g_v_.a v_.length g_v_.c), (1, [], .int .u8 closes), (4, [], .pointer (some ⟨b1, 0, none⟩))] H3 rfl rfl rfl rfl (o_alloc [.int .i64 0, .int .i64 0, .bool false] (z := .agg ⟨[.int .i64 0, .int .i64 0, .bool false]⟩) hd (by kernel_rfl) rfl) (fun _ => rfl) fun _ wd5 v H6 hq => ?_
  clear H3 hd
  obtain ⟨b4, rfl, hq⟩ := hq
  replace hS : SH M X w [Ent.blk b4 [.int .i64 0, .int .i64 0, .bool false], Ent.blk b1 [.int .i64 0, .int .i64 0, .bool false], Ent.im tyValue v_ g_v_] _ := hS.join [] [0, 1] rfl rfl hq
  clear hq
  refine wl_end rfl ?_
  obtain ⟨z7, hz, hm⟩ := bindE hm
  refine w_cut (fun a' w' => Fr 71 [(4, [], .pointer (some ⟨b1, 0, none⟩)), (5, [], .pointer (some ⟨b4, 0, none⟩))] a' ∧ SH M X w [Ent.blk b4 [.int .i64 z7.1, .int .i64 z7.2.1, .bool z7.2.2], Ent.blk b1 [.int .i64 0, .int .i64 0, .bool false], Ent.im tyValue v_ g_v_] w') ?_ ?_
  ·replace hm := hz
   refine s_reg [] [1, 4, 5, 10, 11, 12] [(1, [], .int .u8 closes), (4, [], .pointer (some ⟨b1, 0, none⟩)), (5, [], .pointer (some ⟨b4, 0, none⟩)), (10, [], .slice g_v_.a v_.length g_v_.c), (11, [], .int .i64 (ln v_)), (12, [], .int .i64 0)] [] H6 (by kernel_rfl) trivial fun _ wd8 H9 hb => ?_
   clear H6
   replace hS := hS.below hb
   clear hb
   refine w_block ?_
   refine w_loop (fun kk a' w' => ∃ (v10 : Int) (v11 : Int) (v12 : Int) (v13 : Bool), nest_look_L1 m v_ closes (nest_look_r m k) kk v10 v11 v12 v13 = some _ ∧ Fr 71 [(1, [], .int .u8 closes), (4, [], .pointer (some ⟨b1, 0, none⟩)), (5, [], .pointer (some ⟨b4, 0, none⟩)), (10, [], .slice g_v_.a v_.length g_v_.c), (11, [], .int .i64 (ln v_)), (12, [], .int .i64 v10)] a' ∧ SH M X w [Ent.blk b4 [.int .i64 v11, .int .i64 v12, .bool v13], Ent.blk b1 [.int .i64 0, .int .i64 0, .bool false], Ent.im tyValue v_ g_v_] w') ⟨_, 0, 0, 0, false, hm, FrG.keep (ks := [1, 4, 5, 10, 11, 12]) H9 (by kernel_rfl), hS⟩ ?_
   clear hm H9 hS
   rintro kk _ wd64 ⟨v10, v11, v12, v13, hm, H, hS⟩
   cases kk with
   | zero => exact noneE hm
   | succ kk =>
    rw [nest_look_L1] at hm
    refine s_reg [] [1, 4, 5, 10, 11, 12, 13] [(1, [], .int .u8 closes), (4, [], .pointer (some ⟨b1, 0, none⟩)), (5, [], .pointer (some ⟨b4, 0, none⟩)), (10, [], .slice g_v_.a v_.length g_v_.c), (11, [], .int .i64 (ln v_)), (12, [], .int .i64 v10), (13, [], .bool (decide (v10 < (ln v_))))] [] H (by kernel_rfl) trivial fun _ wd14 H15 hb => ?_
    clear H
    replace hS := hS.below hb
    clear hb
    refine w_seq ?_
    refine w_if H15 rfl (fun hc => ?_) (fun hc => ?c63)
    case c63 =>
     replace hm := bF hc hm
     refine w_exit rfl ?_
     obtain rfl := someE hm
     exact ⟨FrG.keep (ks := [4, 5]) H15 (by kernel_rfl), hS⟩
    replace hm := bT hc hm
    refine w_skip ?_
    obtain ⟨z16, hz, hm⟩ := bindE hm
    refine w_cut (fun a' w' => Fr 71 [(1, [], .int .u8 closes), (4, [], .pointer (some ⟨b1, 0, none⟩)), (5, [], .pointer (some ⟨b4, 0, none⟩)), (10, [], .slice g_v_.a v_.length g_v_.c), (11, [], .int .i64 (ln v_)), (12, [], .int .i64 v10)] a' ∧ SH M X w [Ent.blk b4 [.int .i64 z16.2.2, .int .i64 z16.1, .bool z16.2.1], Ent.blk b1 [.int .i64 0, .int .i64 0, .bool false], Ent.im tyValue v_ g_v_] w') ?_ ?_
    ·replace hm := hz
     refine w_block ?_
     refine w_seq ?_
     refine wl_start ?_
     obtain ⟨ho17, hm⟩ := chkE hm
     refine wl_batch 0 2 [(.agg ⟨[.int .u8 ((gi v_ v10).Token.Kind), .string ⟨⟨(gi v_ v10).Token.Text⟩⟩, .int .i64 ((gi v_ v10).Token.Num), .string ⟨⟨(gi v_ v10).Token.Unit⟩⟩, .bool ((gi v_ v10).Token.Flag), .slice (g_v_.s (v10).toNat 0).a (((gi v_ v10).List_).length) (g_v_.s (v10).toNat 0).c]⟩)] [1, 4, 5, 10, 11, 12, 15] [(1, [], .int .u8 closes), (4, [], .pointer (some ⟨b1, 0, none⟩)), (5, [], .pointer (some ⟨b4, 0, none⟩)), (10, [], .slice g_v_.a v_.length g_v_.c), (11, [], .int .i64 (ln v_)), (12, [], .int .i64 v10), (15, [], .agg ⟨[.int .u8 ((gi v_ v10).Token.Kind), .string ⟨⟨(gi v_ v10).Token.Text⟩⟩, .int .i64 ((gi v_ v10).Token.Num), .string ⟨⟨(gi v_ v10).Token.Unit⟩⟩, .bool ((gi v_ v10).Token.Flag), .slice (g_v_.s (v10).toNat 0).a (((gi v_ v10).List_).length) (g_v_.s (v10).toNat 0).c]⟩)] [fun _ => oka g_v_.a ∧ 0 ≤ v10 ∧ v10 < ln v_, fun wz => V.atN (ab g_v_.a) (ao g_v_.a + (v10).toNat * 6) [.int .u8 ((gi v_ v10).Token.Kind), .string ⟨⟨(gi v_ v10).Token.Text⟩⟩, .int .i64 ((gi v_ v10).Token.Num), .string ⟨⟨(gi v_ v10).Token.Unit⟩⟩, .bool ((gi v_ v10).Token.Flag), .slice (g_v_.s (v10).toNat 0).a (((gi v_ v10).List_).length) (g_v_.s (v10).toNat 0).c] 0 wz] H15 (by decide) (by kernel_rfl) ⟨((hS.im 2 rfl).oki ho17), ((hS.im 2 rfl).atA ho17 0 rfl), trivial⟩ fun _ wd18 H19 hb => ?_
     clear H15
     replace hS := hS.below hb
     clear hb
     have hd := hS.hand [] [0, 1, 2] rfl rfl
     refine m_stp [7, 1, 4, 5, 10, 11, 12, 15] [(1, [], .int .u8 closes), (4, [], .pointer (some ⟨b1, 0, none⟩)), (5, [], .pointer (some ⟨b4, 0, none⟩)), (10, [], .slice g_v_.a v_.length g_v_.c), (11, [], .int .i64 (ln v_)), (12, [], .int .i64 v10), (15, [], .agg ⟨[.int .u8 ((gi v_ v10).Token.Kind), .string ⟨⟨(gi v_ v10).Token.Text⟩⟩, .int .i64 ((gi v_ v10).Token.Num), .string ⟨⟨(gi v_ v10).Token.Unit⟩⟩, .bool ((gi v_ v10).Token.Flag), .slice (g_v_.s (v10).toNat 0).a (((gi v_ v10).List_).length) (g_v_.s (v10).toNat 0).c]⟩)] H19 rfl rfl rfl rfl (o_alloc [.int .u8 0, .string ⟨⟨[]⟩⟩, .int .i64 0, .string ⟨⟨[]⟩⟩, .bool false, .slice none 0 0] (z := .agg ⟨[.int .u8 0, .string ⟨⟨[]⟩⟩, .int .i64 0, .string ⟨⟨[]⟩⟩, .bool false, .slice none 0 0]⟩) hd (by kernel_rfl) rfl) (fun _ => rfl) fun _ wd21 v H22 hq => ?_
     clear H19 hd
     obtain ⟨b20, rfl, hq⟩ := hq
     replace hS : SH M X w [Ent.blk b20 [.int .u8 0, .string ⟨⟨[]⟩⟩, .int .i64 0, .string ⟨⟨[]⟩⟩, .bool false, .slice none 0 0], Ent.blk b4 [.int .i64 v11, .int .i64 v12, .bool v13], Ent.blk b1 [.int .i64 0, .int .i64 0, .bool false], Ent.im tyValue v_ g_v_] _ := hS.join [] [0, 1, 2] rfl rfl hq
     clear hq
     have hd := hS.hand [0] [1, 2, 3] rfl rfl
     refine m_stp0 [1, 4, 5, 7, 10, 11, 12] [(1, [], .int .u8 closes), (4, [], .pointer (some ⟨b1, 0, none⟩)), (5, [], .pointer (some ⟨b4, 0, none⟩)), (7, [], .pointer (some ⟨b20, 0, none⟩)), (10, [], .slice g_v_.a v_.length g_v_.c), (11, [], .int .i64 (ln v_)), (12, [], .int .i64 v10)] H22 rfl rfl rfl (o_store [.int .u8 ((gi v_ v10).Token.Kind), .string ⟨⟨(gi v_ v10).Token.Text⟩⟩, .int .i64 ((gi v_ v10).Token.Num), .string ⟨⟨(gi v_ v10).Token.Unit⟩⟩, .bool ((gi v_ v10).Token.Flag), .slice (g_v_.s (v10).toNat 0).a (((gi v_ v10).List_).length) (g_v_.s (v10).toNat 0).c] H22 hd rfl rfl (by kernel_rfl) rfl rfl rfl) rfl fun _ wd23 H24 hq => ?_
     clear H22 hd
     obtain ⟨_, hq⟩ := hq
     replace hS : SH M X w [Ent.blk b20 [.int .u8 ((gi v_ v10).Token.Kind), .string ⟨⟨(gi v_ v10).Token.Text⟩⟩, .int .i64 ((gi v_ v10).Token.Num), .string ⟨⟨(gi v_ v10).Token.Unit⟩⟩, .bool ((gi v_ v10).Token.Flag), .slice (g_v_.s (v10).toNat 0).a (((gi v_ v10).List_).length) (g_v_.s (v10).toNat 0).c], Ent.blk b4 [.int .i64 v11, .int .i64 v12, .bool v13], Ent.blk b1 [.int .i64 0, .int .i64 0, .bool false], Ent.im tyValue v_ g_v_] _ := hS.join [0] [1, 2, 3] rfl rfl hq
     clear hq
     refine wl_end rfl ?_
     refine w_seq ?_
     refine wl_start ?_
     refine wl_batch 0 4 [(.int .i64 v12)] [1, 4, 5, 7, 10, 11, 12, 18, 19] [(1, [], .int .u8 closes), (4, [], .pointer (some ⟨b1, 0, none⟩)), (5, [], .pointer (some ⟨b4, 0, none⟩)), (7, [], .pointer (some ⟨b20, 0, none⟩)), (10, [], .slice g_v_.a v_.length g_v_.c), (11, [], .int .i64 (ln v_)), (12, [], .int .i64 v10), (18, [], .int .i64 (w64 (v12 + 1))), (19, [], .pointer (some ⟨b4, 1, none⟩))] [fun wz => V.at1 ⟨b4, 1, none⟩ (.int .i64 v12) wz] H24 (by decide) (by kernel_rfl) ⟨((hS.bk 1 rfl).at1 rfl), trivial⟩ fun _ wd25 H26 hb => ?_
     clear H24
     replace hS := hS.below hb
     clear hb
     have hd := hS.hand [1] [0, 2, 3] rfl rfl
     refine m_stp0 [1, 4, 5, 7, 10, 11, 12] [(1, [], .int .u8 closes), (4, [], .pointer (some ⟨b1, 0, none⟩)), (5, [], .pointer (some ⟨b4, 0, none⟩)), (7, [], .pointer (some ⟨b20, 0, none⟩)), (10, [], .slice g_v_.a v_.length g_v_.c), (11, [], .int .i64 (ln v_)), (12, [], .int .i64 v10)] H26 rfl rfl rfl (o_store [.int .i64 v11, .int .i64 (w64 (v12 + 1)), .bool v13] H26 hd rfl rfl (by kernel_rfl) rfl rfl rfl) rfl fun _ wd27 H28 hq => ?_
     clear H26 hd
     obtain ⟨_, hq⟩ := hq
     replace hS : SH M X w [Ent.blk b4 [.int .i64 v11, .int .i64 (w64 (v12 + 1)), .bool v13], Ent.blk b20 [.int .u8 ((gi v_ v10).Token.Kind), .string ⟨⟨(gi v_ v10).Token.Text⟩⟩, .int .i64 ((gi v_ v10).Token.Num), .string ⟨⟨(gi v_ v10).Token.Unit⟩⟩, .bool ((gi v_ v10).Token.Flag), .slice (g_v_.s (v10).toNat 0).a (((gi v_ v10).List_).length) (g_v_.s (v10).toNat 0).c], Ent.blk b1 [.int .i64 0, .int .i64 0, .bool false], Ent.im tyValue v_ g_v_] _ := hS.join [1] [0, 2, 3] rfl rfl hq
     clear hq
     refine wl_end rfl ?_
     refine s_reg [(.int .u8 ((gi v_ v10).Token.Kind)), (.int .u8 (nest_closer ((gi v_ v10).Token.Kind)))] [1, 4, 5, 7, 8, 10, 11, 12] [(1, [], .int .u8 closes), (4, [], .pointer (some ⟨b1, 0, none⟩)), (5, [], .pointer (some ⟨b4, 0, none⟩)), (7, [], .pointer (some ⟨b20, 0, none⟩)), (8, [], .int .u8 (nest_closer ((gi v_ v10).Token.Kind))), (10, [], .slice g_v_.a v_.length g_v_.c), (11, [], .int .i64 (ln v_)), (12, [], .int .i64 v10)] [fun wz => V.at1 ⟨b20, 0, none⟩ (.int .u8 ((gi v_ v10).Token.Kind)) wz, fun wz => RetB Tryd.prog 73 ⟨[.int .u8 ((gi v_ v10).Token.Kind)]⟩ (.int .u8 (nest_closer ((gi v_ v10).Token.Kind))) wz] H28 (by kernel_rfl) ⟨((hS.bk 1 rfl).at1 rfl), ((nest_closer_ok _).b), trivial⟩ fun _ wd29 H30 hb => ?_
     clear H28
     replace hS := hS.below hb
     clear hb
     obtain ⟨z31, hz, hm⟩ := bindE hm
     refine w_cut (fun a' w' => Fr 71 [(1, [], .int .u8 closes), (4, [], .pointer (some ⟨b1, 0, none⟩)), (5, [], .pointer (some ⟨b4, 0, none⟩)), (7, [], .pointer (some ⟨b20, 0, none⟩)), (8, [], .int .u8 (nest_closer ((gi v_ v10).Token.Kind))), (10, [], .slice g_v_.a v_.length g_v_.c), (11, [], .int .i64 (ln v_)), (12, [], .int .i64 v10)] a' ∧ SH M X w [Ent.blk b4 [.int .i64 v11, .int .i64 (w64 (v12 + 1)), .bool z31], Ent.blk b20 [.int .u8 ((gi v_ v10).Token.Kind), .string ⟨⟨(gi v_ v10).Token.Text⟩⟩, .int .i64 ((gi v_ v10).Token.Num), .string ⟨⟨(gi v_ v10).Token.Unit⟩⟩, .bool ((gi v_ v10).Token.Flag), .slice (g_v_.s (v10).toNat 0).a (((gi v_ v10).List_).length) (g_v_.s (v10).toNat 0).c], Ent.blk b1 [.int .i64 0, .int .i64 0, .bool false], Ent.im tyValue v_ g_v_] w') ?_ ?_
     ·replace hm := hz
      obtain ⟨x32, hx32, hm⟩ := letE hm
      obtain ⟨x33, hx33, hm⟩ := letE hm
      refine s_reg [(.int .u8 ((gi v_ v10).Token.Kind)), (.slice (g_v_.s (v10).toNat 0).a (((gi v_ v10).List_).length) (g_v_.s (v10).toNat 0).c)] [1, 4, 5, 7, 8, 10, 11, 12, 42] [(1, [], .int .u8 closes), (4, [], .pointer (some ⟨b1, 0, none⟩)), (5, [], .pointer (some ⟨b4, 0, none⟩)), (7, [], .pointer (some ⟨b20, 0, none⟩)), (8, [], .int .u8 (nest_closer ((gi v_ v10).Token.Kind))), (10, [], .slice g_v_.a v_.length g_v_.c), (11, [], .int .i64 (ln v_)), (12, [], .int .i64 v10), (42, [], .bool x33)] [fun wz => ((closes != 0) = true ∧ True → V.at1 ⟨b20, 0, none⟩ (.int .u8 ((gi v_ v10).Token.Kind)) wz), fun wz => (((nest_closer ((gi v_ v10).Token.Kind)) == 0) = true ∧ x32 = false ∧ True → V.at1 ⟨b20, 5, none⟩ (.slice (g_v_.s (v10).toNat 0).a (((gi v_ v10).List_).length) (g_v_.s (v10).toNat 0).c) wz)] H30 (by subst hx32 hx33; kernel_rfl) ⟨fun hg => (hS.bk 1 rfl).at1 rfl, fun hg => (hS.bk 1 rfl).at1 rfl, trivial⟩ fun _ wd34 H35 hb => ?_
      clear H30
      replace hS := hS.below hb
      clear hb
      refine w_if H35 rfl (fun hc => ?_) (fun hc => ?c40)
      case c40 =>
       replace hm := bF hc hm
       refine w_skip ?_
       obtain rfl := someE hm
       exact ⟨FrG.keep (ks := [1, 4, 5, 7, 8, 10, 11, 12]) H35 (by kernel_rfl), hS⟩
      replace hm := bT hc hm
      refine wl_start ?_
      refine wl_batch 0 1 [] [1, 4, 5, 7, 8, 10, 11, 12, 43] [(1, [], .int .u8 closes), (4, [], .pointer (some ⟨b1, 0, none⟩)), (5, [], .pointer (some ⟨b4, 0, none⟩)), (7, [], .pointer (some ⟨b20, 0, none⟩)), (8, [], .int .u8 (nest_closer ((gi v_ v10).Token.Kind))), (10, [], .slice g_v_.a v_.length g_v_.c), (11, [], .int .i64 (ln v_)), (12, [], .int .i64 v10), (43, [], .pointer (some ⟨b4, 2, none⟩))] [] H35 (by decide) (by kernel_rfl) trivial fun _ wd36 H37 hb => ?_
      clear H35
      replace hS := hS.below hb
      clear hb
      have hd := hS.hand [0] [1, 2, 3] rfl rfl
      refine m_stp0 [1, 4, 5, 7, 8, 10, 11, 12] [(1, [], .int .u8 closes), (4, [], .pointer (some ⟨b1, 0, none⟩)), (5, [], .pointer (some ⟨b4, 0, none⟩)), (7, [], .pointer (some ⟨b20, 0, none⟩)), (8, [], .int .u8 (nest_closer ((gi v_ v10).Token.Kind))), (10, [], .slice g_v_.a v_.length g_v_.c), (11, [], .int .i64 (ln v_)), (12, [], .int .i64 v10)] H37 rfl rfl rfl (o_store [.int .i64 v11, .int .i64 (w64 (v12 + 1)), .bool true] H37 hd rfl rfl (by kernel_rfl) rfl rfl rfl) rfl fun _ wd38 H39 hq => ?_
      clear H37 hd
      obtain ⟨_, hq⟩ := hq
      replace hS : SH M X w [Ent.blk b4 [.int .i64 v11, .int .i64 (w64 (v12 + 1)), .bool true], Ent.blk b20 [.int .u8 ((gi v_ v10).Token.Kind), .string ⟨⟨(gi v_ v10).Token.Text⟩⟩, .int .i64 ((gi v_ v10).Token.Num), .string ⟨⟨(gi v_ v10).Token.Unit⟩⟩, .bool ((gi v_ v10).Token.Flag), .slice (g_v_.s (v10).toNat 0).a (((gi v_ v10).List_).length) (g_v_.s (v10).toNat 0).c], Ent.blk b1 [.int .i64 0, .int .i64 0, .bool false], Ent.im tyValue v_ g_v_] _ := hS.join [0] [1, 2, 3] rfl rfl hq
      clear hq
      refine wl_end rfl ?_
      obtain rfl := someE hm
      exact ⟨FrG.keep (ks := [1, 4, 5, 7, 8, 10, 11, 12]) H39 (by kernel_rfl), hS⟩
     ·rintro _ wd59 ⟨H, hS⟩
      refine w_seq ?_
      obtain ⟨x41, hx41, hm⟩ := letE hm
      refine s_reg [] [1, 4, 5, 7, 8, 10, 11, 12, 45] [(1, [], .int .u8 closes), (4, [], .pointer (some ⟨b1, 0, none⟩)), (5, [], .pointer (some ⟨b4, 0, none⟩)), (7, [], .pointer (some ⟨b20, 0, none⟩)), (8, [], .int .u8 (nest_closer ((gi v_ v10).Token.Kind))), (10, [], .slice g_v_.a v_.length g_v_.c), (11, [], .int .i64 (ln v_)), (12, [], .int .i64 v10), (45, [], .bool x41)] [] H (by subst hx41; kernel_rfl) trivial fun _ wd42 H43 hb => ?_
      clear H
      replace hS := hS.below hb
      clear hb
      refine w_if H43 rfl (fun hc => ?c58) (fun hc => ?_)
      case c58 =>
       replace hm := bT hc hm
       refine w_exit rfl ?_
       obtain rfl := someE hm
       replace hS : SH M X w [Ent.blk b4 [.int .i64 v11, .int .i64 (w64 (v12 + 1)), .bool z31], Ent.blk b1 [.int .i64 0, .int .i64 0, .bool false], Ent.im tyValue v_ g_v_] _ := hS.sel [0, 2, 3] rfl
       exact ⟨FrG.keep (ks := [1, 4, 5, 10, 11, 12]) H43 (by kernel_rfl), hS⟩
      replace hm := bF hc hm
      refine w_skip ?_
      refine w_seq ?_
      refine wl_start ?_
      obtain ⟨y44, hy44, hm⟩ := bindE hm
      refine wl_batch 0 4 [(.slice (g_v_.s (v10).toNat 0).a (((gi v_ v10).List_).length) (g_v_.s (v10).toNat 0).c), (.agg ⟨[.int .i64 y44.depth, .int .i64 y44.tokens, .bool y44.bad]⟩)] [1, 4, 5, 10, 11, 12, 49] [(1, [], .int .u8 closes), (4, [], .pointer (some ⟨b1, 0, none⟩)), (5, [], .pointer (some ⟨b4, 0, none⟩)), (10, [], .slice g_v_.a v_.length g_v_.c), (11, [], .int .i64 (ln v_)), (12, [], .int .i64 v10), (49, [], .agg ⟨[.int .i64 y44.depth, .int .i64 y44.tokens, .bool y44.bad]⟩)] [fun wz => V.at1 ⟨b20, 5, none⟩ (.slice (g_v_.s (v10).toNat 0).a (((gi v_ v10).List_).length) (g_v_.s (v10).toNat 0).c) wz, fun wz => RetB Tryd.prog 55 ⟨[.slice (g_v_.s (v10).toNat 0).a (((gi v_ v10).List_).length) (g_v_.s (v10).toNat 0).c, .int .u8 (nest_closer ((gi v_ v10).Token.Kind))]⟩ (.agg ⟨[.int .i64 y44.depth, .int .i64 y44.tokens, .bool y44.bad]⟩) wz] H43 (by decide) (by kernel_rfl) ⟨((hS.bk 1 rfl).at1 rfl), (retB_of (s0im s0nil (tyValue_i0 ((hS.im 3 rfl).el ho17))) (Tryd.call55 _) (fun w' h' => ih ((g_v_.s (v10).toNat 0)) F0 _ _ _ hy44 w' h')), trivial⟩ fun _ wd45 H46 hb => ?_
      clear H43
      replace hS := hS.below hb
      clear hb
      have hd := hS.hand [] [0, 1, 2, 3] rfl rfl
      refine m_stp [9, 1, 4, 5, 10, 11, 12, 49] [(1, [], .int .u8 closes), (4, [], .pointer (some ⟨b1, 0, none⟩)), (5, [], .pointer (some ⟨b4, 0, none⟩)), (10, [], .slice g_v_.a v_.length g_v_.c), (11, [], .int .i64 (ln v_)), (12, [], .int .i64 v10), (49, [], .agg ⟨[.int .i64 y44.depth, .int .i64 y44.tokens, .bool y44.bad]⟩)] H46 rfl rfl rfl rfl (o_alloc [.int .i64 0, .int .i64 0, .bool false] (z := .agg ⟨[.int .i64 0, .int .i64 0, .bool false]⟩) hd (by kernel_rfl) rfl) (fun _ => rfl) fun _ wd48 v H49 hq => ?_
      clear H46 hd
      obtain ⟨b47, rfl, hq⟩ := hq
      replace hS : SH M X w [Ent.blk b47 [.int .i64 0, .int .i64 0, .bool false], Ent.blk b4 [.int .i64 v11, .int .i64 (w64 (v12 + 1)), .bool z31], Ent.blk b20 [.int .u8 ((gi v_ v10).Token.Kind), .string ⟨⟨(gi v_ v10).Token.Text⟩⟩, .int .i64 ((gi v_ v10).Token.Num), .string ⟨⟨(gi v_ v10).Token.Unit⟩⟩, .bool ((gi v_ v10).Token.Flag), .slice (g_v_.s (v10).toNat 0).a (((gi v_ v10).List_).length) (g_v_.s (v10).toNat 0).c], Ent.blk b1 [.int .i64 0, .int .i64 0, .bool false], Ent.im tyValue v_ g_v_] _ := hS.join [] [0, 1, 2, 3] rfl rfl hq
      clear hq
      have hd := hS.hand [0] [1, 2, 3, 4] rfl rfl
      refine m_stp0 [1, 4, 5, 9, 10, 11, 12] [(1, [], .int .u8 closes), (4, [], .pointer (some ⟨b1, 0, none⟩)), (5, [], .pointer (some ⟨b4, 0, none⟩)), (9, [], .pointer (some ⟨b47, 0, none⟩)), (10, [], .slice g_v_.a v_.length g_v_.c), (11, [], .int .i64 (ln v_)), (12, [], .int .i64 v10)] H49 rfl rfl rfl (o_store [.int .i64 y44.depth, .int .i64 y44.tokens, .bool y44.bad] H49 hd rfl rfl (by kernel_rfl) rfl rfl rfl) rfl fun _ wd50 H51 hq => ?_
      clear H49 hd
      obtain ⟨_, hq⟩ := hq
      replace hS : SH M X w [Ent.blk b47 [.int .i64 y44.depth, .int .i64 y44.tokens, .bool y44.bad], Ent.blk b4 [.int .i64 v11, .int .i64 (w64 (v12 + 1)), .bool z31], Ent.blk b20 [.int .u8 ((gi v_ v10).Token.Kind), .string ⟨⟨(gi v_ v10).Token.Text⟩⟩, .int .i64 ((gi v_ v10).Token.Num), .string ⟨⟨(gi v_ v10).Token.Unit⟩⟩, .bool ((gi v_ v10).Token.Flag), .slice (g_v_.s (v10).toNat 0).a (((gi v_ v10).List_).length) (g_v_.s (v10).toNat 0).c], Ent.blk b1 [.int .i64 0, .int .i64 0, .bool false], Ent.im tyValue v_ g_v_] _ := hS.join [0] [1, 2, 3, 4] rfl rfl hq
      clear hq
      refine wl_end rfl ?_
      replace hS : SH M X w [Ent.blk b47 [.int .i64 y44.depth, .int .i64 y44.tokens, .bool y44.bad], Ent.blk b4 [.int .i64 v11, .int .i64 (w64 (v12 + 1)), .bool z31], Ent.blk b1 [.int .i64 0, .int .i64 0, .bool false], Ent.im tyValue v_ g_v_] _ := hS.sel [0, 1, 3, 4] rfl
      refine wl_start ?_
      obtain ⟨x52, hx52, hm⟩ := letE hm
      obtain ⟨x53, hx53, hm⟩ := letE hm
      refine wl_batch 0 19 [(.int .i64 v11), (.int .i64 y44.depth), (.int .i64 (w64 (v12 + 1))), (.int .i64 y44.tokens), (.bool z31), (.bool y44.bad)] [1, 4, 5, 10, 11, 12, 68] [(1, [], .int .u8 closes), (4, [], .pointer (some ⟨b1, 0, none⟩)), (5, [], .pointer (some ⟨b4, 0, none⟩)), (10, [], .slice g_v_.a v_.length g_v_.c), (11, [], .int .i64 (ln v_)), (12, [], .int .i64 v10), (68, [], .agg ⟨[.int .i64 x52, .int .i64 x53, .bool (cond z31 true y44.bad)]⟩)] [fun wz => V.at1 ⟨b4, 0, none⟩ (.int .i64 v11) wz, fun wz => V.at1 ⟨b47, 0, none⟩ (.int .i64 y44.depth) wz, fun wz => V.at1 ⟨b4, 1, none⟩ (.int .i64 (w64 (v12 + 1))) wz, fun wz => V.at1 ⟨b47, 1, none⟩ (.int .i64 y44.tokens) wz, fun wz => V.at1 ⟨b4, 2, none⟩ (.bool z31) wz, fun wz => (z31 = false ∧ True → V.at1 ⟨b47, 2, none⟩ (.bool y44.bad) wz)] H51 (by decide) (by subst hx52 hx53; kernel_rfl) ⟨((hS.bk 1 rfl).at1 rfl), ((hS.bk 0 rfl).at1 rfl), ((hS.bk 1 rfl).at1 rfl), ((hS.bk 0 rfl).at1 rfl), ((hS.bk 1 rfl).at1 rfl), fun hg => (hS.bk 0 rfl).at1 rfl, trivial⟩ fun _ wd54 H55 hb => ?_
      clear H51
      replace hS := hS.below hb
      clear hb
      have hd := hS.hand [1] [0, 2, 3] rfl rfl
      refine m_stp0 [1, 4, 5, 10, 11, 12] [(1, [], .int .u8 closes), (4, [], .pointer (some ⟨b1, 0, none⟩)), (5, [], .pointer (some ⟨b4, 0, none⟩)), (10, [], .slice g_v_.a v_.length g_v_.c), (11, [], .int .i64 (ln v_)), (12, [], .int .i64 v10)] H55 rfl rfl rfl (o_store [.int .i64 x52, .int .i64 x53, .bool (cond z31 true y44.bad)] H55 hd rfl rfl (by kernel_rfl) rfl rfl rfl) rfl fun _ wd56 H57 hq => ?_
      clear H55 hd
      obtain ⟨_, hq⟩ := hq
      replace hS : SH M X w [Ent.blk b4 [.int .i64 x52, .int .i64 x53, .bool (cond z31 true y44.bad)], Ent.blk b47 [.int .i64 y44.depth, .int .i64 y44.tokens, .bool y44.bad], Ent.blk b1 [.int .i64 0, .int .i64 0, .bool false], Ent.im tyValue v_ g_v_] _ := hS.join [1] [0, 2, 3] rfl rfl hq
      clear hq
      refine wl_end rfl ?_
      replace hS : SH M X w [Ent.blk b4 [.int .i64 x52, .int .i64 x53, .bool (cond z31 true y44.bad)], Ent.blk b1 [.int .i64 0, .int .i64 0, .bool false], Ent.im tyValue v_ g_v_] _ := hS.sel [0, 2, 3] rfl
      obtain rfl := someE hm
      exact ⟨FrG.keep (ks := [1, 4, 5, 10, 11, 12]) H57 (by kernel_rfl), hS⟩
    ·rintro _ wd62 ⟨H, hS⟩
     refine w_reg [] [1, 4, 5, 10, 11, 12] [(1, [], .int .u8 closes), (4, [], .pointer (some ⟨b1, 0, none⟩)), (5, [], .pointer (some ⟨b4, 0, none⟩)), (10, [], .slice g_v_.a v_.length g_v_.c), (11, [], .int .i64 (ln v_)), (12, [], .int .i64 (w64 (v10 + 1)))] [] H (by kernel_rfl) trivial fun _ wd60 H61 hb => ?_
     clear H
     replace hS := hS.below hb
     clear hb
     exact ⟨_, Nat.lt_succ_self _, w64 (v10 + 1), z16.2.2, z16.1, z16.2.1, hm, FrG.keep (ks := [1, 4, 5, 10, 11, 12]) H61 (by kernel_rfl), hS⟩
  ·rintro _ wd69 ⟨H, hS⟩
   replace hS : SH M X w [Ent.blk b4 [.int .i64 z7.1, .int .i64 z7.2.1, .bool z7.2.2], Ent.blk b1 [.int .i64 0, .int .i64 0, .bool false]] _ := hS.sel [0, 1] rfl
   refine w_seq ?_
   refine wl_start ?_
   refine wl_batch 0 1 [(.agg ⟨[.int .i64 z7.1, .int .i64 z7.2.1, .bool z7.2.2]⟩)] [4, 70] [(4, [], .pointer (some ⟨b1, 0, none⟩)), (70, [], .agg ⟨[.int .i64 z7.1, .int .i64 z7.2.1, .bool z7.2.2]⟩)] [fun wz => V.atN b4 0 [.int .i64 z7.1, .int .i64 z7.2.1, .bool z7.2.2] 0 wz] H (by decide) (by kernel_rfl) ⟨((hS.bk 0 rfl).atD rfl), trivial⟩ fun _ wd65 H66 hb => ?_
   clear H
   replace hS := hS.below hb
   clear hb
   have hd := hS.hand [1] [0] rfl rfl
   refine m_stp0 [4] [(4, [], .pointer (some ⟨b1, 0, none⟩))] H66 rfl rfl rfl (o_store [.int .i64 z7.1, .int .i64 z7.2.1, .bool z7.2.2] H66 hd rfl rfl (by kernel_rfl) rfl rfl rfl) rfl fun _ wd67 H68 hq => ?_
   clear H66 hd
   obtain ⟨_, hq⟩ := hq
   replace hS : SH M X w [Ent.blk b1 [.int .i64 z7.1, .int .i64 z7.2.1, .bool z7.2.2], Ent.blk b4 [.int .i64 z7.1, .int .i64 z7.2.1, .bool z7.2.2]] _ := hS.join [1] [0] rfl rfl hq
   clear hq
   refine wl_end rfl ?_
   replace hS : SH M X w [Ent.blk b1 [.int .i64 z7.1, .int .i64 z7.2.1, .bool z7.2.2]] _ := hS.sel [0] rfl
   refine w_ret ?_
   obtain rfl := someE hm
   exact retR1 H68 rfl (oneRes_agg rfl (hS.bk 0 rfl) Tryd.underlying112 rfl (by kernel_rfl)) ⟨_, rfl, rfl, (hS.sel [] rfl)⟩
def nest_look (m : Nat) (v_ : List TValue) (closes : Int) : Option (Tnest_found) := nest_look_r m  m v_ closes
theorem nest_look_ok {g_v_ : Gh} (m : Nat) (v_ : List TValue) (closes : Int) (r : Tnest_found) (hm : nest_look m v_ closes = some r) (w : World) (hL : S0 F0 [Ent.im tyValue v_ g_v_] w ∧ fpl [Ent.im tyValue v_ g_v_] = []) : RetB Tryd.prog 55 ⟨[.slice g_v_.a v_.length g_v_.c, .int .u8 closes]⟩ (.agg ⟨[.int .i64 r.depth, .int .i64 r.tokens, .bool r.bad]⟩) w := retB_of hL (Tryd.call55 _) (fun w' h => nest_look_w m   m g_v_ F0 v_ closes r hm w' h)

def nest_Check (m : Nat) (v_ : List TValue) : Option (Int) :=
  Option.bind (nest_look m v_ 0) fun y3 =>
  cond (decide (16 < y3.depth)) (
  some 20) (
  cond (decide (1500 < y3.tokens)) (
  some 4) (
  cond y3.bad (
  some 8) (
  some 0)))
theorem nest_Check_w {g_v_ : Gh} (M : Av) (m : Nat) (v_ : List TValue) (r : Int) (hm : nest_Check m v_ = some r) (w : World) (hS : S0 M [Ent.im tyValue v_ g_v_] w) : Calls Tryd.prog 36 ⟨[.slice g_v_.a v_.length g_v_.c]⟩ w (fun e w' => ∃ v, e = .returned v ∧ v = .int .i64 r ∧ SH M (fpl [Ent.im tyValue v_ g_v_]) w [] w') := by
 rw [nest_Check] at hm
 have hS0 : SH M (fpl [Ent.im tyValue v_ g_v_]) w [Ent.im tyValue v_ g_v_] w := hS
 generalize hX : fpl [Ent.im tyValue v_ g_v_] = X at hS0 ⊢
 clear hS hX
 have hS := hS0
 clear hS0
 refine calls_entryP Tryd.func36 rfl Tryd.ntmps36 rfl fun _ H => ?_
 refine s_reg [] [0] [(0, [], .slice g_v_.a v_.length g_v_.c)] [] H (by kernel_rfl) trivial fun _ wd1 H2 hb => ?_
 clear H
 replace hS := hS.below hb
 clear hb
 refine w_seq ?_
 refine w_seq ?_
 refine wl_start ?_
 obtain ⟨y3, hy3, hm⟩ := bindE hm
 refine wl_batch 0 2 [(.agg ⟨[.int .i64 y3.depth, .int .i64 y3.tokens, .bool y3.bad]⟩)] [5] [(5, [], .agg ⟨[.int .i64 y3.depth, .int .i64 y3.tokens, .bool y3.bad]⟩)] [fun wz => RetB Tryd.prog 55 ⟨[.slice g_v_.a v_.length g_v_.c, .int .u8 0]⟩ (.agg ⟨[.int .i64 y3.depth, .int .i64 y3.tokens, .bool y3.bad]⟩) wz] H2 (by decide) (by kernel_rfl) ⟨(nest_look_ok (g_v_ := g_v_) m _ _ _ hy3 _ (s0im s0nil (hS.im 0 rfl))), trivial⟩ fun _ wd4 H5 hb => ?_
 clear H2
 replace hS := hS.below hb
 clear hb
 have hd := hS.hand [] [0] rfl rfl
 refine m_stp [3, 5] [(5, [], .agg ⟨[.int .i64 y3.depth, .int .i64 y3.tokens, .bool y3.bad]⟩)] H5 rfl rfl rfl rfl (o_alloc [.int .i64 0, .int .i64 0, .bool false] (z := .agg ⟨[.int .i64 0, .int .i64 0, .bool false]⟩) hd (by kernel_rfl) rfl) (fun _ => rfl) fun _ wd7 v H8 hq => ?_
 clear H5 hd
 obtain ⟨b6, rfl, hq⟩ := hq
 replace hS : SH M X w [Ent.blk b6 [.int .i64 0, .int .i64 0, .bool false], Ent.im tyValue v_ g_v_] _ := hS.join [] [0] rfl rfl hq
 clear hq
 have hd := hS.hand [0] [1] rfl rfl
 refine m_stp0 [3] [(3, [], .pointer (some ⟨b6, 0, none⟩))] H8 rfl rfl rfl (o_store [.int .i64 y3.depth, .int .i64 y3.tokens, .bool y3.bad] H8 hd rfl rfl (by kernel_rfl) rfl rfl rfl) rfl fun _ wd9 H10 hq => ?_
 clear H8 hd
 obtain ⟨_, hq⟩ := hq
 replace hS : SH M X w [Ent.blk b6 [.int .i64 y3.depth, .int .i64 y3.tokens, .bool y3.bad], Ent.im tyValue v_ g_v_] _ := hS.join [0] [1] rfl rfl hq
 clear hq
 refine wl_end rfl ?_
 replace hS : SH M X w [Ent.blk b6 [.int .i64 y3.depth, .int .i64 y3.tokens, .bool y3.bad]] _ := hS.sel [0] rfl
 refine w_block ?_
 refine s_reg [(.int .i64 y3.depth)] [3, 6] [(3, [], .pointer (some ⟨b6, 0, none⟩)), (6, [], .bool (decide (16 < y3.depth)))] [fun wz => V.at1 ⟨b6, 0, none⟩ (.int .i64 y3.depth) wz] H10 (by kernel_rfl) ⟨((hS.bk 0 rfl).at1 rfl), trivial⟩ fun _ wd11 H12 hb => ?_
 clear H10
 replace hS := hS.below hb
 clear hb
 refine w_if H12 rfl (fun hc => ?c27) (fun hc => ?_)
 case c27 =>
  replace hm := bT hc hm
  refine s_reg [] [2] [(2, [], .int .i64 20)] [] H12 (by kernel_rfl) trivial fun _ wd13 H14 hb => ?_
  clear H12
  replace hS := hS.below hb
  clear hb
  replace hS : SH M X w [] _ := hS.sel [] rfl
  refine w_ret ?_
  obtain rfl := someE hm
  exact retR1 H14 rfl rfl ⟨_, rfl, rfl, (hS.sel [] rfl)⟩
 replace hm := bF hc hm
 refine s_reg [(.int .i64 y3.tokens)] [3, 10] [(3, [], .pointer (some ⟨b6, 0, none⟩)), (10, [], .bool (decide (1500 < y3.tokens)))] [fun wz => V.at1 ⟨b6, 1, none⟩ (.int .i64 y3.tokens) wz] H12 (by kernel_rfl) ⟨((hS.bk 0 rfl).at1 rfl), trivial⟩ fun _ wd15 H16 hb => ?_
 clear H12
 replace hS := hS.below hb
 clear hb
 refine w_if H16 rfl (fun hc => ?c26) (fun hc => ?_)
 case c26 =>
  replace hm := bT hc hm
  refine s_reg [] [2] [(2, [], .int .i64 4)] [] H16 (by kernel_rfl) trivial fun _ wd17 H18 hb => ?_
  clear H16
  replace hS := hS.below hb
  clear hb
  replace hS : SH M X w [] _ := hS.sel [] rfl
  refine w_ret ?_
  obtain rfl := someE hm
  exact retR1 H18 rfl rfl ⟨_, rfl, rfl, (hS.sel [] rfl)⟩
 replace hm := bF hc hm
 refine s_reg [(.bool y3.bad)] [14] [(14, [], .bool y3.bad)] [fun wz => V.at1 ⟨b6, 2, none⟩ (.bool y3.bad) wz] H16 (by kernel_rfl) ⟨((hS.bk 0 rfl).at1 rfl), trivial⟩ fun _ wd19 H20 hb => ?_
 clear H16
 replace hS := hS.below hb
 clear hb
 replace hS : SH M X w [] _ := hS.sel [] rfl
 refine w_if H20 rfl (fun hc => ?c25) (fun hc => ?_)
 case c25 =>
  replace hm := bT hc hm
  refine s_reg [] [2] [(2, [], .int .i64 8)] [] H20 (by kernel_rfl) trivial fun _ wd21 H22 hb => ?_
  clear H20
  replace hS := hS.below hb
  clear hb
  refine w_ret ?_
  obtain rfl := someE hm
  exact retR1 H22 rfl rfl ⟨_, rfl, rfl, (hS.sel [] rfl)⟩
 replace hm := bF hc hm
 refine w_skip ?_
 refine s_reg [] [2] [(2, [], .int .i64 0)] [] H20 (by kernel_rfl) trivial fun _ wd23 H24 hb => ?_
 clear H20
 replace hS := hS.below hb
 clear hb
 refine w_ret ?_
 obtain rfl := someE hm
 exact retR1 H24 rfl rfl ⟨_, rfl, rfl, (hS.sel [] rfl)⟩
theorem nest_Check_ok {g_v_ : Gh} (m : Nat) (v_ : List TValue) (r : Int) (hm : nest_Check m v_ = some r) (w : World) (hL : S0 F0 [Ent.im tyValue v_ g_v_] w ∧ fpl [Ent.im tyValue v_ g_v_] = []) : RetB Tryd.prog 36 ⟨[.slice g_v_.a v_.length g_v_.c]⟩ (.int .i64 r) w := retB_of hL (Tryd.call36 _) (fun w' h => nest_Check_w F0 m   v_ r hm w' h)

def short_Names  : List Str :=
  ([[109, 97, 114, 103, 105, 110], [98, 111, 114, 100, 101, 114], [111, 117, 116, 108, 105, 110, 101], [98, 97, 99, 107, 103, 114, 111, 117, 110, 100]] : List Str)
theorem short_Names_w  (M : Av)  (r : List Str) (hm : short_Names = r) (w : World) (hS : S0 M [] w) : Calls Tryd.prog 74 ⟨[]⟩ w (fun e w' => ∃ v, e = .returned v ∧ ∃ (g901 : Gh), v = .slice g901.a r.length g901.c ∧ SH M (fpl []) w [Ent.own 9 tS r g901] w') := by
 rw [short_Names] at hm
 have hS0 : SH M (fpl []) w [] w := hS
 generalize hX : fpl [] = X at hS0 ⊢
 clear hS hX
 have hS := hS0
 clear hS0
 refine calls_entryP Tryd.func74 rfl Tryd.ntmps74 rfl fun _ H => ?_
 refine s_reg [] [] [] [] H (by kernel_rfl) trivial fun _ wd1 H2 hb => ?_
 clear H
 replace hS := hS.below hb
 clear hb
 refine w_seq ?_
 refine wl_start ?_
 have hd := hS.hand [] [] rfl rfl
 refine m_stp [1] [] H2 rfl rfl rfl rfl (o_lit (T := tS) (E := 9) (zv := .string ⟨⟨[]⟩⟩) [.string ⟨⟨[109, 97, 114, 103, 105, 110]⟩⟩, .string ⟨⟨[98, 111, 114, 100, 101, 114]⟩⟩, .string ⟨⟨[111, 117, 116, 108, 105, 110, 101]⟩⟩, .string ⟨⟨[98, 97, 99, 107, 103, 114, 111, 117, 110, 100]⟩⟩] ([[109, 97, 114, 103, 105, 110], [98, 111, 114, 100, 101, 114], [111, 117, 116, 108, 105, 110, 101], [98, 97, 99, 107, 103, 114, 111, 117, 110, 100]] : List Str) [gL [], gL [], gL [], gL []] _ H2 hd rfl (by kernel_rfl) (by kernel_rfl) (by kernel_rfl) (by kernel_rfl) (by kernel_rfl) (by kernel_rfl) (by kernel_rfl) rfl (InnL.cons trivial (InnL.cons trivial (InnL.cons trivial (InnL.cons trivial InnL.nil))))) (fun _ => rfl) fun _ wd5 v H6 hq => ?_
 clear H2 hd
 obtain ⟨g3, rfl, hq⟩ := hq
 replace hS : SH M X w [Ent.own 9 tS ([[109, 97, 114, 103, 105, 110], [98, 111, 114, 100, 101, 114], [111, 117, 116, 108, 105, 110, 101], [98, 97, 99, 107, 103, 114, 111, 117, 110, 100]] : List Str) g3] _ := hS.join [] [] rfl rfl hq
 clear hq
 refine wl_batch 1 2 [] [0] [(0, [], .slice g3.a 4 g3.c)] [] H6 (by decide) (by kernel_rfl) trivial fun _ wd7 H8 hb => ?_
 clear H6
 replace hS := hS.below hb
 clear hb
 refine wl_end rfl ?_
 refine w_ret ?_
 subst hm
 exact retR1 H8 rfl rfl ⟨_, rfl, g3, rfl, (hS.sel [0] rfl)⟩
theorem short_Names_ok   (r : List Str) (hm : short_Names = r) (M : Av) (w : World) (hS : S0 M [] w) : DoesX Tryd.prog 74 ⟨[]⟩ w (fun v w' => ∃ (g901 : Gh), v = .slice g901.a r.length g901.c ∧ SH M (fpl []) w [Ent.own 9 tS r g901] w') := ⟨Tryd.call74 _, short_Names_w M    r hm w hS⟩

def slices_Index_string_string_L1 (m : Nat) (s : List Str) (v_ : Str) : Nat → Int → Option (Sum (Int) (Unit))
  | 0, _ => none
  | kk + 1, v6 =>
    cond (decide (v6 < (ln s))) (
    chk (0 ≤ v6 ∧ v6 < ln s) <|
    cond (v_ == (gi s v6)) (
    some (.inl v6)) (
    slices_Index_string_string_L1 m s v_ kk (w64 (v6 + 1)))) (
    some (.inr ()))
def slices_Index_string_string (m : Nat) (s : List Str) (v_ : Str) : Option (Int) :=
  Option.bind (
  slices_Index_string_string_L1 m s v_ m 0) fun (z3 : Sum (Int) (Unit)) => sumK z3 fun s_z3 =>
  some (-1)
theorem slices_Index_string_string_w {g_s : Gh} (M : Av) (m : Nat) (s : List Str) (v_ : Str) (r : Int) (hm : slices_Index_string_string m s v_ = some r) (w : World) (hS : S0 M [Ent.im tS s g_s] w) : Calls Tryd.prog 30 ⟨[.slice g_s.a s.length g_s.c, .string ⟨⟨v_⟩⟩]⟩ w (fun e w' => ∃ v, e = .returned v ∧ v = .int .i64 r ∧ SH M (fpl [Ent.im tS s g_s]) w [] w') := by
 rw [slices_Index_string_string] at hm
 have hS0 : SH M (fpl [Ent.im tS s g_s]) w [Ent.im tS s g_s] w := hS
 generalize hX : fpl [Ent.im tS s g_s] = X at hS0 ⊢
 clear hS hX
 have hS := hS0
 clear hS0
 refine calls_entryP Tryd.func30 rfl Tryd.ntmps30 rfl fun _ H => ?_
 refine s_reg [] [0, 1] [(0, [], .slice g_s.a s.length g_s.c), (1, [], .string ⟨⟨v_⟩⟩)] [] H (by kernel_rfl) trivial fun _ wd1 H2 hb => ?_
 clear H
 replace hS := hS.below hb
 clear hb
 obtain ⟨z3, hz, hm_z3⟩ := bindE hm
 refine w_cut (fun a' w' => ∃ s_z3 : Unit, z3 = Sum.inr s_z3 ∧ Fr 19 [] a' ∧ SH M X w [Ent.im tS s g_s] w') ?_ ?_
 ·replace hm := hz
  refine s_reg [] [0, 1, 7, 8] [(0, [], .slice g_s.a s.length g_s.c), (1, [], .string ⟨⟨v_⟩⟩), (7, [], .int .i64 (ln s)), (8, [], .int .i64 0)] [] H2 (by kernel_rfl) trivial fun _ wd4 H5 hb => ?_
  clear H2
  replace hS := hS.below hb
  clear hb
  refine w_block ?_
  refine w_loop (fun kk a' w' => ∃ (v6 : Int), slices_Index_string_string_L1 m s v_ kk v6 = some _ ∧ Fr 19 [(0, [], .slice g_s.a s.length g_s.c), (1, [], .string ⟨⟨v_⟩⟩), (7, [], .int .i64 (ln s)), (8, [], .int .i64 v6)] a' ∧ SH M X w [Ent.im tS s g_s] w') ⟨_, 0, hm, FrG.keep (ks := [0, 1, 7, 8]) H5 (by kernel_rfl), hS⟩ ?_
  clear hm H5 hS
  rintro kk _ wd20 ⟨v6, hm, H, hS⟩
  cases kk with
  | zero => exact noneE hm
  | succ kk =>
   rw [slices_Index_string_string_L1] at hm
   refine s_reg [] [0, 1, 7, 8, 9] [(0, [], .slice g_s.a s.length g_s.c), (1, [], .string ⟨⟨v_⟩⟩), (7, [], .int .i64 (ln s)), (8, [], .int .i64 v6), (9, [], .bool (decide (v6 < (ln s))))] [] H (by kernel_rfl) trivial fun _ wd7 H8 hb => ?_
   clear H
   replace hS := hS.below hb
   clear hb
   refine w_seq ?_
   refine w_if H8 rfl (fun hc => ?_) (fun hc => ?c19)
   case c19 =>
    replace hm := bF hc hm
    refine w_exit rfl ?_
    obtain rfl := someE hm
    exact ⟨_, rfl, FrG.keep (ks := []) H8 (by kernel_rfl), hS⟩
   replace hm := bT hc hm
   refine w_skip ?_
   refine w_seq ?_
   refine w_block ?_
   refine s_reg [] [0, 1, 5, 7, 8] [(0, [], .slice g_s.a s.length g_s.c), (1, [], .string ⟨⟨v_⟩⟩), (5, [], .int .i64 v6), (7, [], .int .i64 (ln s)), (8, [], .int .i64 v6)] [] H8 (by kernel_rfl) trivial fun _ wd9 H10 hb => ?_
   clear H8
   replace hS := hS.below hb
   clear hb
   obtain ⟨ho11, hm⟩ := chkE hm
   refine s_reg [(.string ⟨⟨(gi s v6)⟩⟩)] [0, 1, 5, 7, 8, 16] [(0, [], .slice g_s.a s.length g_s.c), (1, [], .string ⟨⟨v_⟩⟩), (5, [], .int .i64 v6), (7, [], .int .i64 (ln s)), (8, [], .int .i64 v6), (16, [], .bool (v_ == (gi s v6)))] [fun _ => oka g_s.a ∧ 0 ≤ v6 ∧ v6 < ln s, fun wz => V.at1 ⟨ab g_s.a, ao g_s.a + (v6).toNat * 1, none⟩ (.string ⟨⟨(gi s v6)⟩⟩) wz] H10 (by kernel_rfl) ⟨((hS.im 0 rfl).oki ho11), ((hS.im 0 rfl).at1 ho11 0 rfl), trivial⟩ fun _ wd12 H13 hb => ?_
   clear H10
   replace hS := hS.below hb
   clear hb
   refine w_if H13 rfl (fun hc => ?_) (fun hc => ?c18)
   case c18 =>
    replace hm := bF hc hm
    refine w_skip ?_
    refine w_reg [] [0, 1, 7, 8] [(0, [], .slice g_s.a s.length g_s.c), (1, [], .string ⟨⟨v_⟩⟩), (7, [], .int .i64 (ln s)), (8, [], .int .i64 (w64 (v6 + 1)))] [] H13 (by kernel_rfl) trivial fun _ wd16 H17 hb => ?_
    clear H13
    replace hS := hS.below hb
    clear hb
    exact ⟨_, Nat.lt_succ_self _, w64 (v6 + 1), hm, FrG.keep (ks := [0, 1, 7, 8]) H17 (by kernel_rfl), hS⟩
   replace hm := bT hc hm
   refine s_reg [] [4] [(4, [], .int .i64 v6)] [] H13 (by kernel_rfl) trivial fun _ wd14 H15 hb => ?_
   clear H13
   replace hS := hS.below hb
   clear hb
   refine w_ret ?_
   obtain rfl := someE hm
   have hm := hm_z3
   obtain rfl := someE hm
   exact retR1 H15 rfl rfl ⟨_, rfl, rfl, (hS.sel [] rfl)⟩
 ·rintro _ wd23 ⟨s_z3, hz, H, hS⟩
  subst hz
  replace hm := sumR hm_z3
  replace hS : SH M X w [] _ := hS.sel [] rfl
  refine s_reg [] [4] [(4, [], .int .i64 (-1))] [] H (by kernel_rfl) trivial fun _ wd21 H22 hb => ?_
  clear H
  replace hS := hS.below hb
  clear hb
  refine w_ret ?_
  obtain rfl := someE hm
  exact retR1 H22 rfl rfl ⟨_, rfl, rfl, (hS.sel [] rfl)⟩
theorem slices_Index_string_string_ok {g_s : Gh} (m : Nat) (s : List Str) (v_ : Str) (r : Int) (hm : slices_Index_string_string m s v_ = some r) (w : World) (hL : S0 F0 [Ent.im tS s g_s] w ∧ fpl [Ent.im tS s g_s] = []) : RetB Tryd.prog 30 ⟨[.slice g_s.a s.length g_s.c, .string ⟨⟨v_⟩⟩]⟩ (.int .i64 r) w := retB_of hL (Tryd.call30 _) (fun w' h => slices_Index_string_string_w F0 m   s v_ r hm w' h)

def slices_Contains_string_string (m : Nat) (s : List Str) (v_ : Str) : Option (Bool) :=
  Option.bind (slices_Index_string_string m s v_) fun y3 =>
  some (decide (0 ≤ y3))
theorem slices_Contains_string_string_w {g_s : Gh} (M : Av) (m : Nat) (s : List Str) (v_ : Str) (r : Bool) (hm : slices_Contains_string_string m s v_ = some r) (w : World) (hS : S0 M [Ent.im tS s g_s] w) : Calls Tryd.prog 16 ⟨[.slice g_s.a s.length g_s.c, .string ⟨⟨v_⟩⟩]⟩ w (fun e w' => ∃ v, e = .returned v ∧ v = .bool r ∧ SH M (fpl [Ent.im tS s g_s]) w [] w') := by
 rw [slices_Contains_string_string] at hm
 have hS0 : SH M (fpl [Ent.im tS s g_s]) w [Ent.im tS s g_s] w := hS
 generalize hX : fpl [Ent.im tS s g_s] = X at hS0 ⊢
 clear hS hX
 have hS := hS0
 clear hS0
 refine calls_entryP Tryd.func16 rfl Tryd.ntmps16 rfl fun _ H => ?_
 refine s_reg [] [0, 1] [(0, [], .slice g_s.a s.length g_s.c), (1, [], .string ⟨⟨v_⟩⟩)] [] H (by kernel_rfl) trivial fun _ wd1 H2 hb => ?_
 clear H
 replace hS := hS.below hb
 clear hb
 obtain ⟨y3, hy3, hm⟩ := bindE hm
 refine s_reg [(.int .i64 y3)] [4] [(4, [], .bool (decide (0 ≤ y3)))] [fun wz => RetB Tryd.prog 30 ⟨[.slice g_s.a s.length g_s.c, .string ⟨⟨v_⟩⟩]⟩ (.int .i64 y3) wz] H2 (by kernel_rfl) ⟨(slices_Index_string_string_ok (g_s := g_s) m _ _ _ hy3 _ (s0im s0nil (hS.im 0 rfl))), trivial⟩ fun _ wd4 H5 hb => ?_
 clear H2
 replace hS := hS.below hb
 clear hb
 replace hS : SH M X w [] _ := hS.sel [] rfl
 refine w_ret ?_
 obtain rfl := someE hm
 exact retR1 H5 rfl rfl ⟨_, rfl, rfl, (hS.sel [] rfl)⟩
theorem slices_Contains_string_string_ok {g_s : Gh} (m : Nat) (s : List Str) (v_ : Str) (r : Bool) (hm : slices_Contains_string_string m s v_ = some r) (w : World) (hL : S0 F0 [Ent.im tS s g_s] w ∧ fpl [Ent.im tS s g_s] = []) : RetB Tryd.prog 16 ⟨[.slice g_s.a s.length g_s.c, .string ⟨⟨v_⟩⟩]⟩ (.bool r) w := retB_of hL (Tryd.call16 _) (fun w' h => slices_Contains_string_string_w F0 m   s v_ r hm w' h)

def short_of_L1 (m : Nat) (name_ : Str) : Nat → (List Str) → Int → Option (List Str)
  | 0, _, _ => none
  | kk + 1, v36, v38 =>
    cond (decide (v38 < 4)) (
    chk (0 ≤ v38 ∧ v38 < ln ([[116, 111, 112], [114, 105, 103, 104, 116], [98, 111, 116, 116, 111, 109], [108, 101, 102, 116]] : List Str)) <|
    lt ((gi ([[116, 111, 112], [114, 105, 103, 104, 116], [98, 111, 116, 116, 111, 109], [108, 101, 102, 116]] : List Str) v38)) fun x42 =>
    chk (ln name_ + ln [45] ≤ 9223372036854775807) <|
    chk (ln (name_ ++ [45]) + ln x42 ≤ 9223372036854775807) <|
    chk (ln v36 + ln ([(name_ ++ [45]) ++ x42] : List Str) ≤ 1099511627776) <|
    lt (v36 ++ ([(name_ ++ [45]) ++ x42] : List Str)) fun q54 =>
    short_of_L1 m name_ kk q54 (w64 (v38 + 1))) (
    some v36)
def short_of (m : Nat) (name_ : Str) : Option (List Str) :=
  lt (short_Names) fun y3 =>
  Option.bind (slices_Contains_string_string m y3 name_) fun y8 =>
  cond (!y8) (
  some ([] : List Str)) (
  lt (!(name_ == [109, 97, 114, 103, 105, 110])) fun x14 =>
  cond x14 (
  chk (ln name_ + ln [45, 99, 111, 108, 111, 114] ≤ 9223372036854775807) <|
  some ([name_ ++ [45, 99, 111, 108, 111, 114]] : List Str)) (
  Option.bind (
  short_of_L1 m name_ m ([] : List Str) 0) fun (z28 : List Str) =>
  some z28))
theorem short_of_w  (M : Av) (m : Nat) (name_ : Str) (r : List Str) (hm : short_of m name_ = some r) (w : World) (hS : S0 M [] w) : Calls Tryd.prog 56 ⟨[.string ⟨⟨name_⟩⟩]⟩ w (fun e w' => ∃ v, e = .returned v ∧ ∃ (g901 : Gh), v = .slice g901.a r.length g901.c ∧ SH M (fpl []) w [Ent.own 9 tS r g901] w') := by
 rw [short_of] at hm
 have hS0 : SH M (fpl []) w [] w := hS
 generalize hX : fpl [] = X at hS0 ⊢
 clear hS hX
 have hS := hS0
 clear hS0
 refine calls_entryP Tryd.func56 rfl Tryd.ntmps56 rfl fun _ H => ?_
 refine s_reg [] [0] [(0, [], .string ⟨⟨name_⟩⟩)] [] H (by kernel_rfl) trivial fun _ wd1 H2 hb => ?_
 clear H
 replace hS := hS.below hb
 clear hb
 refine w_seq ?_
 refine w_block ?_
 refine w_seq ?_
 refine wl_start ?_
 obtain ⟨y3, hy3, hm⟩ := letE hm
 have hd := hS.hand [] [] rfl rfl
 refine m_stp [7, 0] [(0, [], .string ⟨⟨name_⟩⟩)] H2 rfl rfl rfl rfl (o_callx H2 rfl rfl (short_Names_ok _ hy3.symm _ _ hd)) (fun _ => rfl) fun _ wd6 v H7 hq => ?_
 clear H2 hd
 obtain ⟨g4, rfl, hq⟩ := hq
 replace hS : SH M X w [Ent.own 9 tS y3 g4] _ := hS.join [] [] rfl rfl hq
 clear hq
 obtain ⟨y8, hy8, hm⟩ := bindE hm
 refine wl_batch 1 5 [(.bool y8)] [0, 6] [(0, [], .string ⟨⟨name_⟩⟩), (6, [], .bool (!y8))] [fun wz => RetB Tryd.prog 16 ⟨[.slice g4.a y3.length g4.c, .string ⟨⟨name_⟩⟩]⟩ (.bool y8) wz] H7 (by decide) (by kernel_rfl) ⟨(slices_Contains_string_string_ok (g_s := g4) m _ _ _ hy8 _ (s0im s0nil (hS.osl 0 rfl))), trivial⟩ fun _ wd9 H10 hb => ?_
 clear H7
 replace hS := hS.below hb
 clear hb
 refine wl_end rfl ?_
 replace hS : SH M X w [] _ := hS.sel [] rfl
 refine w_if H10 rfl (fun hc => ?c70) (fun hc => ?_)
 case c70 =>
  replace hm := bT hc hm
  refine s_reg [] [2] [(2, [], .slice none 0 0)] [] H10 (by kernel_rfl) trivial fun _ wd11 H12 hb => ?_
  clear H10
  replace hS := hS.below hb
  clear hb
  refine w_ret ?_
  obtain rfl := someE hm
  replace hS : SH M X w [Ent.own 9 tS ([] : List Str) (.nil)] _ := hS.addNil 9 tS
  exact retR1 H12 rfl rfl ⟨_, rfl, Gh.nil, rfl, (hS.sel [0] rfl)⟩
 replace hm := bF hc hm
 obtain ⟨x14, hx14, hm⟩ := letE hm
 refine s_reg [] [0, 11] [(0, [], .string ⟨⟨name_⟩⟩), (11, [], .bool x14)] [] H10 (by subst hx14; kernel_rfl) trivial fun _ wd15 H16 hb => ?_
 clear H10
 replace hS := hS.below hb
 clear hb
 refine w_if H16 rfl (fun hc => ?c69) (fun hc => ?_)
 case c69 =>
  replace hm := bT hc hm
  refine w_seq ?_
  refine wl_start ?_
  obtain ⟨ho17, hm⟩ := chkE hm
  refine wl_batch 0 2 [] [15] [(15, [], .string ⟨⟨name_ ++ [45, 99, 111, 108, 111, 114]⟩⟩)] [fun _ => ln name_ + ln [45, 99, 111, 108, 111, 114] ≤ 9223372036854775807] H16 (by decide) (by kernel_rfl) ⟨ho17, trivial⟩ fun _ wd18 H19 hb => ?_
  clear H16
  replace hS := hS.below hb
  clear hb
  have hd := hS.hand [] [] rfl rfl
  refine m_stp [16] [] H19 rfl rfl rfl rfl (o_lit (T := tS) (E := 9) (zv := .string ⟨⟨[]⟩⟩) [.string ⟨⟨name_ ++ [45, 99, 111, 108, 111, 114]⟩⟩] ([name_ ++ [45, 99, 111, 108, 111, 114]] : List Str) [gL []] _ H19 hd rfl (by kernel_rfl) (by kernel_rfl) (by kernel_rfl) (by kernel_rfl) (by kernel_rfl) (by kernel_rfl) (by kernel_rfl) rfl (InnL.cons trivial InnL.nil)) (fun _ => rfl) fun _ wd22 v H23 hq => ?_
  clear H19 hd
  obtain ⟨g20, rfl, hq⟩ := hq
  replace hS : SH M X w [Ent.own 9 tS ([name_ ++ [45, 99, 111, 108, 111, 114]] : List Str) g20] _ := hS.join [] [] rfl rfl hq
  clear hq
  refine wl_batch 3 4 [] [2] [(2, [], .slice g20.a 1 g20.c)] [] H23 (by decide) (by kernel_rfl) trivial fun _ wd24 H25 hb => ?_
  clear H23
  replace hS := hS.below hb
  clear hb
  refine wl_end rfl ?_
  refine w_ret ?_
  obtain rfl := someE hm
  exact retR1 H25 rfl rfl ⟨_, rfl, g20, rfl, (hS.sel [0] rfl)⟩
 replace hm := bF hc hm
 refine w_skip ?_
 refine s_reg [] [0, 3] [(0, [], .string ⟨⟨name_⟩⟩), (3, [], .slice none 0 0)] [] H16 (by kernel_rfl) trivial fun _ wd26 H27 hb => ?_
 clear H16
 replace hS := hS.below hb
 clear hb
 obtain ⟨z28, hz, hm⟩ := bindE hm
 refine w_cut (fun a' w' => ∃ (g64 : Gh), Fr 32 [(3, [], .slice g64.a z28.length g64.c)] a' ∧ SH M X w [Ent.own 9 tS z28 g64] w') ?_ ?_
 ·replace hm := hz
  refine w_seq ?_
  refine wl_start ?_
  have hd := hS.hand [] [] rfl rfl
  refine m_stp [17, 0, 3] [(0, [], .string ⟨⟨name_⟩⟩), (3, [], .slice none 0 0)] H27 rfl rfl rfl rfl (o_lit (T := tS) (E := 9) (zv := .string ⟨⟨[]⟩⟩) [.string ⟨⟨[116, 111, 112]⟩⟩, .string ⟨⟨[114, 105, 103, 104, 116]⟩⟩, .string ⟨⟨[98, 111, 116, 116, 111, 109]⟩⟩, .string ⟨⟨[108, 101, 102, 116]⟩⟩] ([[116, 111, 112], [114, 105, 103, 104, 116], [98, 111, 116, 116, 111, 109], [108, 101, 102, 116]] : List Str) [gL [], gL [], gL [], gL []] _ H27 hd rfl (by kernel_rfl) (by kernel_rfl) (by kernel_rfl) (by kernel_rfl) (by kernel_rfl) (by kernel_rfl) (by kernel_rfl) rfl (InnL.cons trivial (InnL.cons trivial (InnL.cons trivial (InnL.cons trivial InnL.nil))))) (fun _ => rfl) fun _ wd31 v H32 hq => ?_
  clear H27 hd
  obtain ⟨g29, rfl, hq⟩ := hq
  replace hS : SH M X w [Ent.own 9 tS ([[116, 111, 112], [114, 105, 103, 104, 116], [98, 111, 116, 116, 111, 109], [108, 101, 102, 116]] : List Str) g29] _ := hS.join [] [] rfl rfl hq
  clear hq
  refine wl_batch 1 3 [] [0, 3, 17, 18, 19] [(0, [], .string ⟨⟨name_⟩⟩), (3, [], .slice none 0 0), (17, [], .slice g29.a 4 g29.c), (18, [], .int .i64 4), (19, [], .int .i64 0)] [] H32 (by decide) (by kernel_rfl) trivial fun _ wd33 H34 hb => ?_
  clear H32
  replace hS := hS.below hb
  clear hb
  refine wl_end rfl ?_
  refine w_block ?_
  replace hS : SH M X w [Ent.own 9 tS ([] : List Str) (.nil), Ent.own 9 tS ([[116, 111, 112], [114, 105, 103, 104, 116], [98, 111, 116, 116, 111, 109], [108, 101, 102, 116]] : List Str) g29] _ := hS.addNil 9 tS
  refine w_loop (fun kk a' w' => ∃ (v36 : List Str) (v38 : Int) (g37 : Gh), short_of_L1 m name_ kk v36 v38 = some _ ∧ Fr 32 [(0, [], .string ⟨⟨name_⟩⟩), (17, [], .slice g29.a 4 g29.c), (18, [], .int .i64 4), (3, [], .slice g37.a v36.length g37.c), (19, [], .int .i64 v38)] a' ∧ SH M X w [Ent.own 9 tS v36 g37, Ent.own 9 tS ([[116, 111, 112], [114, 105, 103, 104, 116], [98, 111, 116, 116, 111, 109], [108, 101, 102, 116]] : List Str) g29] w') ⟨_, ([] : List Str), 0, Gh.nil, hm, FrG.keep (ks := [0, 17, 18, 3, 19]) H34 (by kernel_rfl), hS⟩ ?_
  clear hm H34 hS
  rintro kk _ wd63 ⟨v36, v38, g37, hm, H, hS⟩
  cases kk with
  | zero => exact noneE hm
  | succ kk =>
   rw [short_of_L1] at hm
   refine s_reg [] [0, 3, 17, 18, 19, 20] [(0, [], .string ⟨⟨name_⟩⟩), (3, [], .slice g37.a v36.length g37.c), (17, [], .slice g29.a 4 g29.c), (18, [], .int .i64 4), (19, [], .int .i64 v38), (20, [], .bool (decide (v38 < 4)))] [] H (by kernel_rfl) trivial fun _ wd39 H40 hb => ?_
   clear H
   replace hS := hS.below hb
   clear hb
   refine w_seq ?_
   refine w_if H40 rfl (fun hc => ?_) (fun hc => ?c62)
   case c62 =>
    replace hm := bF hc hm
    refine w_exit rfl ?_
    obtain rfl := someE hm
    replace hS : SH M X w [Ent.own 9 tS v36 g37] _ := hS.sel [0] rfl
    exact ⟨g37, FrG.keep (ks := [3]) H40 (by kernel_rfl), hS⟩
   replace hm := bT hc hm
   refine w_skip ?_
   refine w_seq ?_
   refine w_block ?_
   obtain ⟨ho41, hm⟩ := chkE hm
   obtain ⟨x42, hx42, hm⟩ := letE hm
   refine s_reg [(.string ⟨⟨(gi ([[116, 111, 112], [114, 105, 103, 104, 116], [98, 111, 116, 116, 111, 109], [108, 101, 102, 116]] : List Str) v38)⟩⟩)] [0, 3, 5, 17, 18, 19] [(0, [], .string ⟨⟨name_⟩⟩), (3, [], .slice g37.a v36.length g37.c), (5, [], .string ⟨⟨x42⟩⟩), (17, [], .slice g29.a 4 g29.c), (18, [], .int .i64 4), (19, [], .int .i64 v38)] [fun _ => oka g29.a ∧ 0 ≤ v38 ∧ v38 < ln ([[116, 111, 112], [114, 105, 103, 104, 116], [98, 111, 116, 116, 111, 109], [108, 101, 102, 116]] : List Str), fun wz => V.at1 ⟨ab g29.a, ao g29.a + (v38).toNat * 1, none⟩ (.string ⟨⟨(gi ([[116, 111, 112], [114, 105, 103, 104, 116], [98, 111, 116, 116, 111, 109], [108, 101, 102, 116]] : List Str) v38)⟩⟩) wz] H40 (by subst hx42; kernel_rfl) ⟨((hS.osl 1 rfl).oki ho41), ((hS.osl 1 rfl).at1 ho41 0 rfl), trivial⟩ fun _ wd43 H44 hb => ?_
   clear H40
   replace hS := hS.below hb
   clear hb
   refine wl_start ?_
   obtain ⟨ho45, hm⟩ := chkE hm
   obtain ⟨ho46, hm⟩ := chkE hm
   refine wl_batch 0 5 [] [0, 17, 18, 19, 23, 27] [(0, [], .string ⟨⟨name_⟩⟩), (17, [], .slice g29.a 4 g29.c), (18, [], .int .i64 4), (19, [], .int .i64 v38), (23, [], .slice g37.a v36.length g37.c), (27, [], .string ⟨⟨(name_ ++ [45]) ++ x42⟩⟩)] [fun _ => ln name_ + ln [45] ≤ 9223372036854775807, fun _ => ln (name_ ++ [45]) + ln x42 ≤ 9223372036854775807] H44 (by decide) (by kernel_rfl) ⟨ho45, ho46, trivial⟩ fun _ wd47 H48 hb => ?_
   clear H44
   replace hS := hS.below hb
   clear hb
   have hd := hS.hand [] [0, 1] rfl rfl
   refine m_stp [28, 0, 17, 18, 19, 23] [(0, [], .string ⟨⟨name_⟩⟩), (17, [], .slice g29.a 4 g29.c), (18, [], .int .i64 4), (19, [], .int .i64 v38), (23, [], .slice g37.a v36.length g37.c)] H48 rfl rfl rfl rfl (o_lit (T := tS) (E := 9) (zv := .string ⟨⟨[]⟩⟩) [.string ⟨⟨(name_ ++ [45]) ++ x42⟩⟩] ([(name_ ++ [45]) ++ x42] : List Str) [gL []] _ H48 hd rfl (by kernel_rfl) (by kernel_rfl) (by kernel_rfl) (by kernel_rfl) (by kernel_rfl) (by kernel_rfl) (by kernel_rfl) rfl (InnL.cons trivial InnL.nil)) (fun _ => rfl) fun _ wd51 v H52 hq => ?_
   clear H48 hd
   obtain ⟨g49, rfl, hq⟩ := hq
   replace hS : SH M X w [Ent.own 9 tS ([(name_ ++ [45]) ++ x42] : List Str) g49, Ent.own 9 tS v36 g37, Ent.own 9 tS ([[116, 111, 112], [114, 105, 103, 104, 116], [98, 111, 116, 116, 111, 109], [108, 101, 102, 116]] : List Str) g29] _ := hS.join [] [0, 1] rfl rfl hq
   clear hq
   obtain ⟨ho53, hm⟩ := chkE hm
   obtain ⟨q54, hq54, hm⟩ := letE hm
   have hd := hS.hand [1, 0] [2] rfl rfl
   refine m_stp [29, 0, 17, 18, 19] [(0, [], .string ⟨⟨name_⟩⟩), (17, [], .slice g29.a 4 g29.c), (18, [], .int .i64 4), (19, [], .int .i64 v38)] H52 rfl rfl rfl rfl (o_app2 (T := tS) (zv := .string ⟨⟨[]⟩⟩) (g1 := g37) (g2 := g49) (l1 := v36) (l2 := ([(name_ ++ [45]) ++ x42] : List Str)) q54 hq54.symm H52 hd rfl rfl rfl rfl rfl rfl rfl (by kernel_rfl) (by kernel_rfl) rfl rfl ho53) (fun _ => rfl) fun _ wd55 v H56 hq => ?_
   clear H52 hd
   obtain ⟨g57, rfl, hq⟩ := hq
   replace hS : SH M X w [Ent.own 9 tS q54 g57, Ent.own 9 tS ([(name_ ++ [45]) ++ x42] : List Str) g49, Ent.own 9 tS ([[116, 111, 112], [114, 105, 103, 104, 116], [98, 111, 116, 116, 111, 109], [108, 101, 102, 116]] : List Str) g29] _ := hS.join [1, 0] [2] rfl rfl hq
   clear hq
   refine wl_batch 7 8 [] [0, 3, 17, 18, 19] [(0, [], .string ⟨⟨name_⟩⟩), (3, [], .slice g57.a q54.length g57.c), (17, [], .slice g29.a 4 g29.c), (18, [], .int .i64 4), (19, [], .int .i64 v38)] [] H56 (by decide) (by kernel_rfl) trivial fun _ wd58 H59 hb => ?_
   clear H56
   replace hS := hS.below hb
   clear hb
   refine wl_end rfl ?_
   replace hS : SH M X w [Ent.own 9 tS q54 g57, Ent.own 9 tS ([[116, 111, 112], [114, 105, 103, 104, 116], [98, 111, 116, 116, 111, 109], [108, 101, 102, 116]] : List Str) g29] _ := hS.sel [0, 2] rfl
   refine w_reg [] [0, 3, 17, 18, 19] [(0, [], .string ⟨⟨name_⟩⟩), (3, [], .slice g57.a q54.length g57.c), (17, [], .slice g29.a 4 g29.c), (18, [], .int .i64 4), (19, [], .int .i64 (w64 (v38 + 1)))] [] H59 (by kernel_rfl) trivial fun _ wd60 H61 hb => ?_
   clear H59
   replace hS := hS.below hb
   clear hb
   exact ⟨_, Nat.lt_succ_self _, q54, w64 (v38 + 1), g57, hm, FrG.keep (ks := [0, 17, 18, 3, 19]) H61 (by kernel_rfl), hS⟩
 ·rintro _ wd68 ⟨g64, H, hS⟩
  refine s_reg [] [2] [(2, [], .slice g64.a z28.length g64.c)] [] H (by kernel_rfl) trivial fun _ wd66 H67 hb => ?_
  clear H
  replace hS := hS.below hb
  clear hb
  refine w_ret ?_
  obtain rfl := someE hm
  exact retR1 H67 rfl rfl ⟨_, rfl, g64, rfl, (hS.sel [0] rfl)⟩
theorem short_of_ok  (m : Nat) (name_ : Str) (r : List Str) (hm : short_of m name_ = some r) (M : Av) (w : World) (hS : S0 M [] w) : DoesX Tryd.prog 56 ⟨[.string ⟨⟨name_⟩⟩]⟩ w (fun v w' => ∃ (g901 : Gh), v = .slice g901.a r.length g901.c ∧ SH M (fpl []) w [Ent.own 9 tS r g901] w') := ⟨Tryd.call56 _, short_of_w M m   name_ r hm w hS⟩

def short_Longs (m : Nat) (name_ : Str) : Option ((List Str) × Int) :=
  Option.bind (short_of m name_) fun y5 =>
  cond (decide (0 < (ln y5))) (
  some (y5, 0)) (
  Option.bind (props_Inherited m name_) fun y16 =>
  cond (y16.2 != 0) (
  some (([] : List Str), y16.2)) (
  some (([name_] : List Str), 0)))
theorem short_Longs_w  (M : Av) (m : Nat) (name_ : Str) (r : (List Str) × Int) (hm : short_Longs m name_ = some r) (w : World) (hS : S0 M [gE0] w) : Calls Tryd.prog 37 ⟨[.string ⟨⟨name_⟩⟩]⟩ w (fun e w' => ∃ v, e = .returned v ∧ ∃ (g901 : Gh), v = .tuple ⟨[.slice g901.a r.1.length g901.c, .int .i64 r.2]⟩ ∧ SH M (fpl [gE0]) w [Ent.own 9 tS r.1 g901] w') := by
 rw [short_Longs] at hm
 have hS0 : SH M (fpl [gE0]) w [gE0] w := hS
 generalize hX : fpl [gE0] = X at hS0 ⊢
 clear hS hX
 have hS := hS0
 clear hS0
 refine calls_entryP Tryd.func37 rfl Tryd.ntmps37 rfl fun _ H => ?_
 refine s_reg [] [0] [(0, [], .string ⟨⟨name_⟩⟩)] [] H (by kernel_rfl) trivial fun _ wd1 H2 hb => ?_
 clear H
 replace hS := hS.below hb
 clear hb
 refine w_seq ?_
 refine w_seq ?_
 refine wl_start ?_
 refine wl_batch 0 1 [] [0, 7] [(0, [], .string ⟨⟨name_⟩⟩), (7, [], .string ⟨⟨name_⟩⟩)] [] H2 (by decide) (by kernel_rfl) trivial fun _ wd3 H4 hb => ?_
 clear H2
 replace hS := hS.below hb
 clear hb
 obtain ⟨y5, hy5, hm⟩ := bindE hm
 have hd := hS.hand [] [0] rfl rfl
 refine m_stp [8, 0] [(0, [], .string ⟨⟨name_⟩⟩)] H4 rfl rfl rfl rfl (o_callx H4 rfl rfl (short_of_ok m _ _ hy5 _ _ hd)) (fun _ => rfl) fun _ wd8 v H9 hq => ?_
 clear H4 hd
 obtain ⟨g6, rfl, hq⟩ := hq
 replace hS : SH M X w [Ent.own 9 tS y5 g6, gE0] _ := hS.join [] [0] rfl rfl hq
 clear hq
 refine wl_batch 2 3 [] [0, 4] [(0, [], .string ⟨⟨name_⟩⟩), (4, [], .slice g6.a y5.length g6.c)] [] H9 (by decide) (by kernel_rfl) trivial fun _ wd10 H11 hb => ?_
 clear H9
 replace hS := hS.below hb
 clear hb
 refine wl_end rfl ?_
 refine s_reg [] [0, 4, 11] [(0, [], .string ⟨⟨name_⟩⟩), (4, [], .slice g6.a y5.length g6.c), (11, [], .bool (decide (0 < (ln y5))))] [] H11 (by kernel_rfl) trivial fun _ wd12 H13 hb => ?_
 clear H11
 replace hS := hS.below hb
 clear hb
 refine w_if H13 rfl (fun hc => ?c33) (fun hc => ?_)
 case c33 =>
  replace hm := bT hc hm
  refine s_reg [] [2, 3] [(2, [], .slice g6.a y5.length g6.c), (3, [], .int .i64 0)] [] H13 (by kernel_rfl) trivial fun _ wd14 H15 hb => ?_
  clear H13
  replace hS := hS.below hb
  clear hb
  refine w_ret ?_
  obtain rfl := someE hm
  exact retR2 H15 rfl rfl rfl ⟨_, rfl, g6, rfl, (hS.sel [0] rfl)⟩
 replace hm := bF hc hm
 refine w_skip ?_
 refine w_seq ?_
 obtain ⟨y16, hy16, hm⟩ := bindE hm
 refine s_reg [(.tuple ⟨[.bool y16.1, .int .i64 y16.2]⟩)] [0, 6] [(0, [], .string ⟨⟨name_⟩⟩), (6, [], .int .i64 y16.2)] [fun wz => RetB Tryd.prog 14 ⟨[.string ⟨⟨name_⟩⟩]⟩ (.tuple ⟨[.bool y16.1, .int .i64 y16.2]⟩) wz] H13 (by kernel_rfl) ⟨(props_Inherited_ok m _ _ hy16 _ (s0im s0nil (hS.im 1 rfl))), trivial⟩ fun _ wd17 H18 hb => ?_
 clear H13
 replace hS := hS.below hb
 clear hb
 replace hS : SH M X w [gE0] _ := hS.sel [1] rfl
 refine s_reg [] [0, 6, 19] [(0, [], .string ⟨⟨name_⟩⟩), (6, [], .int .i64 y16.2), (19, [], .bool (y16.2 != 0))] [] H18 (by kernel_rfl) trivial fun _ wd19 H20 hb => ?_
 clear H18
 replace hS := hS.below hb
 clear hb
 refine w_if H20 rfl (fun hc => ?c32) (fun hc => ?_)
 case c32 =>
  replace hm := bT hc hm
  refine s_reg [] [2, 3] [(2, [], .slice none 0 0), (3, [], .int .i64 y16.2)] [] H20 (by kernel_rfl) trivial fun _ wd21 H22 hb => ?_
  clear H20
  replace hS := hS.below hb
  clear hb
  refine w_ret ?_
  obtain rfl := someE hm
  replace hS : SH M X w [Ent.own 9 tS ([] : List Str) (.nil), gE0] _ := hS.addNil 9 tS
  exact retR2 H22 rfl rfl rfl ⟨_, rfl, Gh.nil, rfl, (hS.sel [0] rfl)⟩
 replace hm := bF hc hm
 refine w_skip ?_
 refine w_seq ?_
 refine wl_start ?_
 refine wl_batch 0 1 [] [21] [(21, [], .string ⟨⟨name_⟩⟩)] [] H20 (by decide) (by kernel_rfl) trivial fun _ wd24 H25 hb => ?_
 clear H20
 replace hS := hS.below hb
 clear hb
 have hd := hS.hand [] [0] rfl rfl
 refine m_stp [22] [] H25 rfl rfl rfl rfl (o_lit (T := tS) (E := 9) (zv := .string ⟨⟨[]⟩⟩) [.string ⟨⟨name_⟩⟩] ([name_] : List Str) [gL []] _ H25 hd rfl (by kernel_rfl) (by kernel_rfl) (by kernel_rfl) (by kernel_rfl) (by kernel_rfl) (by kernel_rfl) (by kernel_rfl) rfl (InnL.cons trivial InnL.nil)) (fun _ => rfl) fun _ wd28 v H29 hq => ?_
 clear H25 hd
 obtain ⟨g26, rfl, hq⟩ := hq
 replace hS : SH M X w [Ent.own 9 tS ([name_] : List Str) g26, gE0] _ := hS.join [] [0] rfl rfl hq
 clear hq
 refine wl_batch 2 4 [] [2, 3] [(2, [], .slice g26.a 1 g26.c), (3, [], .int .i64 0)] [] H29 (by decide) (by kernel_rfl) trivial fun _ wd30 H31 hb => ?_
 clear H29
 replace hS := hS.below hb
 clear hb
 refine wl_end rfl ?_
 refine w_ret ?_
 obtain rfl := someE hm
 exact retR2 H31 rfl rfl rfl ⟨_, rfl, g26, rfl, (hS.sel [0] rfl)⟩
theorem short_Longs_ok  (m : Nat) (name_ : Str) (r : (List Str) × Int) (hm : short_Longs m name_ = some r) (M : Av) (w : World) (hS : S0 M [gE0] w) : DoesX Tryd.prog 37 ⟨[.string ⟨⟨name_⟩⟩]⟩ w (fun v w' => ∃ (g901 : Gh), v = .tuple ⟨[.slice g901.a r.1.length g901.c, .int .i64 r.2]⟩ ∧ SH M (fpl [gE0]) w [Ent.own 9 tS r.1 g901] w') := ⟨Tryd.call37 _, short_Longs_w M m   name_ r hm w hS⟩

def sorter_Check_L1 (m : Nat) (d_ : TDeclared) : Nat → Int → Option (Sum (Int) (Unit))
  | 0, _ => none
  | kk + 1, v39 =>
    cond (decide (v39 < 5)) (
    chk (0 ≤ v39 ∧ v39 < (5 : Int)) <|
    lt (gi [d_.Layer, d_.Order, d_.Weight.e0, d_.Weight.e1, d_.Weight.e2] v39) fun x43 =>
    lt (cond (decide (x43 < 0)) true (decide (1000000 < x43))) fun x46 =>
    cond x46 (
    some (.inl 8)) (
    sorter_Check_L1 m d_ kk (w64 (v39 + 1)))) (
    some (.inr ()))
def sorter_Check (m : Nat) (d_ : TDeclared) : Option (Int) :=
  Option.bind (props_Inherited m d_.Long.Name) fun y6 =>
  Option.bind (cond (y6.2 != 0) (some default) (nest_Check m d_.Long.Value)) fun y9 =>
  cond (cond (y6.2 != 0) true (y9 != 0)) (
  some 8) (
  Option.bind (
  cond (!(d_.Long.Whole == [])) (
  Option.bind (short_Longs m d_.Long.Whole) fun y21 =>
  Option.bind (cond (y21.2 != 0) (some default) (slices_Contains_string_string m y21.1 d_.Long.Name)) fun y28 =>
  lt (cond (cond (y21.2 != 0) true (!y28)) true (d_.Long.Whole == d_.Long.Name)) fun x29 =>
  cond x29 (
  some (.inl 8)) (
  some (.inr ()))) (
  some (.inr ()))) fun (z14 : Sum (Int) (Unit)) => sumK z14 fun s_z14 =>
  Option.bind (
  sorter_Check_L1 m d_ m 0) fun (z36 : Sum (Int) (Unit)) => sumK z36 fun s_z36 =>
  lt (cond (decide (d_.Origin < 1)) true (decide (3 < d_.Origin))) fun x56 =>
  cond x56 (
  some 8) (
  lt (cond d_.Attached (cond (cond (d_.Origin != 3) true (d_.Layer != 0)) true (!((d_.Weight.e0 == 0) && ((d_.Weight.e1 == 0) && ((d_.Weight.e2 == 0) && true))))) false) fun x61 =>
  cond x61 (
  some 8) (
  some 0)))
theorem sorter_Check_w {g_d__0 : Gh} (M : Av) (m : Nat) (d_ : TDeclared) (r : Int) (hm : sorter_Check m d_ = some r) (w : World) (hS : S0 M [Ent.im tyValue d_.Long.Value g_d__0, gE0] w) : Calls Tryd.prog 22 ⟨[.agg ⟨[.string ⟨⟨d_.Long.Name⟩⟩, .slice g_d__0.a d_.Long.Value.length g_d__0.c, .string ⟨⟨d_.Long.Whole⟩⟩, .bool d_.Important, .int .u8 d_.Origin, .bool d_.Attached, .int .i64 d_.Layer, .int .i64 d_.Weight.e0, .int .i64 d_.Weight.e1, .int .i64 d_.Weight.e2, .int .i64 d_.Order]⟩]⟩ w (fun e w' => ∃ v, e = .returned v ∧ v = .int .i64 r ∧ SH M (fpl [Ent.im tyValue d_.Long.Value g_d__0, gE0]) w [] w') := by
 rw [sorter_Check] at hm
 have hS0 : SH M (fpl [Ent.im tyValue d_.Long.Value g_d__0, gE0]) w [Ent.im tyValue d_.Long.Value g_d__0, gE0] w := hS
 generalize hX : fpl [Ent.im tyValue d_.Long.Value g_d__0, gE0] = X at hS0 ⊢
 clear hS hX
 have hS := hS0
 clear hS0
 refine calls_entryP Tryd.func22 rfl Tryd.ntmps22 rfl fun _ H => ?_
 refine w_seq ?_
 refine wl_start ?_
 have hd := hS.hand [] [0, 1] rfl rfl
 refine m_stp [1] [] H rfl rfl rfl rfl (o_box [.string ⟨⟨d_.Long.Name⟩⟩, .slice g_d__0.a d_.Long.Value.length g_d__0.c, .string ⟨⟨d_.Long.Whole⟩⟩, .bool d_.Important, .int .u8 d_.Origin, .bool d_.Attached, .int .i64 d_.Layer, .int .i64 d_.Weight.e0, .int .i64 d_.Weight.e1, .int .i64 d_.Weight.e2, .int .i64 d_.Order] H hd rfl rfl) (fun _ => rfl) fun _ wd2 v H3 hq => ?_
 clear H hd
 obtain ⟨b1, rfl, hq⟩ := hq
 replace hS : SH M X w [Ent.blk b1 [.string ⟨⟨d_.Long.Name⟩⟩, .slice g_d__0.a d_.Long.Value.length g_d__0.c, .string ⟨⟨d_.Long.Whole⟩⟩, .bool d_.Important, .int .u8 d_.Origin, .bool d_.Attached, .int .i64 d_.Layer, .int .i64 d_.Weight.e0, .int .i64 d_.Weight.e1, .int .i64 d_.Weight.e2, .int .i64 d_.Order], Ent.im tyValue d_.Long.Value g_d__0, gE0] _ := hS.join [] [0, 1] rfl rfl hq
 clear hq
 refine wl_batch 1 2 [] [1] [(1, [], .pointer (some ⟨b1, 0, none⟩))] [] H3 (by decide) (by kernel_rfl) trivial fun _ wd4 H5 hb => ?_
 clear H3
 replace hS := hS.below hb
 clear hb
 refine wl_end rfl ?_
 refine w_seq ?_
 obtain ⟨y6, hy6, hm⟩ := bindE hm
 refine s_reg [(.string ⟨⟨d_.Long.Name⟩⟩), (.tuple ⟨[.bool y6.1, .int .i64 y6.2]⟩)] [1, 4] [(1, [], .pointer (some ⟨b1, 0, none⟩)), (4, [], .int .i64 y6.2)] [fun wz => V.at1 ⟨b1, 0, none⟩ (.string ⟨⟨d_.Long.Name⟩⟩) wz, fun wz => RetB Tryd.prog 14 ⟨[.string ⟨⟨d_.Long.Name⟩⟩]⟩ (.tuple ⟨[.bool y6.1, .int .i64 y6.2]⟩) wz] H5 (by kernel_rfl) ⟨((hS.bk 0 rfl).at1 rfl), (props_Inherited_ok m _ _ hy6 _ (s0im s0nil (hS.im 2 rfl))), trivial⟩ fun _ wd7 H8 hb => ?_
 clear H5
 replace hS := hS.below hb
 clear hb
 obtain ⟨y9, hy9, hm⟩ := bindE hm
 refine s_reg [(.slice g_d__0.a d_.Long.Value.length g_d__0.c), (.int .i64 y9)] [1, 25] [(1, [], .pointer (some ⟨b1, 0, none⟩)), (25, [], .bool (cond (y6.2 != 0) true (y9 != 0)))] [fun wz => ((y6.2 != 0) = false ∧ True → V.at1 ⟨b1, 1, none⟩ (.slice g_d__0.a d_.Long.Value.length g_d__0.c) wz), fun wz => ((y6.2 != 0) = false ∧ True → RetB Tryd.prog 36 ⟨[.slice g_d__0.a d_.Long.Value.length g_d__0.c]⟩ (.int .i64 y9) wz)] H8 (by kernel_rfl) ⟨fun hg => (hS.bk 0 rfl).at1 rfl, fun hg => nest_Check_ok (g_v_ := g_d__0) m _ _ (bF (hg.1) hy9) _ (s0im s0nil (hS.im 1 rfl)), trivial⟩ fun _ wd10 H11 hb => ?_
 clear H8
 replace hS := hS.below hb
 clear hb
 refine w_if H11 rfl (fun hc => ?c72) (fun hc => ?_)
 case c72 =>
  replace hm := bT hc hm
  refine s_reg [] [2] [(2, [], .int .i64 8)] [] H11 (by kernel_rfl) trivial fun _ wd12 H13 hb => ?_
  clear H11
  replace hS := hS.below hb
  clear hb
  replace hS : SH M X w [gE0] _ := hS.sel [2] rfl
  refine w_ret ?_
  obtain rfl := someE hm
  exact retR1 H13 rfl rfl ⟨_, rfl, rfl, (hS.sel [] rfl)⟩
 replace hm := bF hc hm
 refine w_skip ?_
 obtain ⟨z14, hz, hm_z14⟩ := bindE hm
 refine w_cut (fun a' w' => ∃ s_z14 : Unit, z14 = Sum.inr s_z14 ∧ Fr 105 [(1, [], .pointer (some ⟨b1, 0, none⟩))] a' ∧ SH M X w [Ent.blk b1 [.string ⟨⟨d_.Long.Name⟩⟩, .slice g_d__0.a d_.Long.Value.length g_d__0.c, .string ⟨⟨d_.Long.Whole⟩⟩, .bool d_.Important, .int .u8 d_.Origin, .bool d_.Attached, .int .i64 d_.Layer, .int .i64 d_.Weight.e0, .int .i64 d_.Weight.e1, .int .i64 d_.Weight.e2, .int .i64 d_.Order], Ent.im tyValue d_.Long.Value g_d__0, gE0] w') ?_ ?_
 ·replace hm := hz
  refine s_reg [(.string ⟨⟨d_.Long.Whole⟩⟩)] [1, 5] [(1, [], .pointer (some ⟨b1, 0, none⟩)), (5, [], .string ⟨⟨d_.Long.Whole⟩⟩)] [fun wz => V.at1 ⟨b1, 2, none⟩ (.string ⟨⟨d_.Long.Whole⟩⟩) wz] H11 (by kernel_rfl) ⟨((hS.bk 0 rfl).at1 rfl), trivial⟩ fun _ wd15 H16 hb => ?_
  clear H11
  replace hS := hS.below hb
  clear hb
  refine s_reg [] [1, 5, 30] [(1, [], .pointer (some ⟨b1, 0, none⟩)), (5, [], .string ⟨⟨d_.Long.Whole⟩⟩), (30, [], .bool (!(d_.Long.Whole == [])))] [] H16 (by kernel_rfl) trivial fun _ wd17 H18 hb => ?_
  clear H16
  replace hS := hS.below hb
  clear hb
  refine w_if H18 rfl (fun hc => ?_) (fun hc => ?c35)
  case c35 =>
   replace hm := bF hc hm
   refine w_skip ?_
   obtain rfl := someE hm
   exact ⟨_, rfl, FrG.keep (ks := [1]) H18 (by kernel_rfl), hS⟩
  replace hm := bT hc hm
  refine w_seq ?_
  refine wl_start ?_
  refine wl_batch 0 1 [] [1, 5, 32] [(1, [], .pointer (some ⟨b1, 0, none⟩)), (5, [], .string ⟨⟨d_.Long.Whole⟩⟩), (32, [], .string ⟨⟨d_.Long.Whole⟩⟩)] [] H18 (by decide) (by kernel_rfl) trivial fun _ wd19 H20 hb => ?_
  clear H18
  replace hS := hS.below hb
  clear hb
  obtain ⟨y21, hy21, hm⟩ := bindE hm
  have hd := hS.hand [2] [0, 1, 2] rfl rfl
  refine m_stp [33, 1, 5] [(1, [], .pointer (some ⟨b1, 0, none⟩)), (5, [], .string ⟨⟨d_.Long.Whole⟩⟩)] H20 rfl rfl rfl rfl (o_callx H20 rfl rfl (short_Longs_ok m _ _ hy21 _ _ hd)) (fun _ => rfl) fun _ wd24 v H25 hq => ?_
  clear H20 hd
  obtain ⟨g22, rfl, hq⟩ := hq
  replace hS : SH M X w [Ent.own 9 tS y21.1 g22, Ent.blk b1 [.string ⟨⟨d_.Long.Name⟩⟩, .slice g_d__0.a d_.Long.Value.length g_d__0.c, .string ⟨⟨d_.Long.Whole⟩⟩, .bool d_.Important, .int .u8 d_.Origin, .bool d_.Attached, .int .i64 d_.Layer, .int .i64 d_.Weight.e0, .int .i64 d_.Weight.e1, .int .i64 d_.Weight.e2, .int .i64 d_.Order], Ent.im tyValue d_.Long.Value g_d__0, gE0] _ := hS.join [2] [0, 1, 2] rfl rfl hq
  clear hq
  refine wl_batch 2 7 [] [1, 5, 6, 7] [(1, [], .pointer (some ⟨b1, 0, none⟩)), (5, [], .string ⟨⟨d_.Long.Whole⟩⟩), (6, [], .slice g22.a y21.1.length g22.c), (7, [], .int .i64 y21.2)] [] H25 (by decide) (by kernel_rfl) trivial fun _ wd26 H27 hb => ?_
  clear H25
  replace hS := hS.below hb
  clear hb
  refine wl_end rfl ?_
  obtain ⟨y28, hy28, hm⟩ := bindE hm
  obtain ⟨x29, hx29, hm⟩ := letE hm
  refine s_reg [(.string ⟨⟨d_.Long.Name⟩⟩), (.bool y28), (.string ⟨⟨d_.Long.Name⟩⟩)] [1, 52] [(1, [], .pointer (some ⟨b1, 0, none⟩)), (52, [], .bool x29)] [fun wz => ((y21.2 != 0) = false ∧ True → V.at1 ⟨b1, 0, none⟩ (.string ⟨⟨d_.Long.Name⟩⟩) wz), fun wz => ((y21.2 != 0) = false ∧ True → RetB Tryd.prog 16 ⟨[.slice g22.a y21.1.length g22.c, .string ⟨⟨d_.Long.Name⟩⟩]⟩ (.bool y28) wz), fun wz => ((cond (y21.2 != 0) true (!y28)) = false ∧ True → V.at1 ⟨b1, 0, none⟩ (.string ⟨⟨d_.Long.Name⟩⟩) wz)] H27 (by subst hx29; kernel_rfl) ⟨fun hg => (hS.bk 1 rfl).at1 rfl, fun hg => slices_Contains_string_string_ok (g_s := g22) m _ _ _ (bF (hg.1) hy28) _ (s0im s0nil (hS.osl 0 rfl)), fun hg => (hS.bk 1 rfl).at1 rfl, trivial⟩ fun _ wd30 H31 hb => ?_
  clear H27
  replace hS := hS.below hb
  clear hb
  replace hS : SH M X w [Ent.blk b1 [.string ⟨⟨d_.Long.Name⟩⟩, .slice g_d__0.a d_.Long.Value.length g_d__0.c, .string ⟨⟨d_.Long.Whole⟩⟩, .bool d_.Important, .int .u8 d_.Origin, .bool d_.Attached, .int .i64 d_.Layer, .int .i64 d_.Weight.e0, .int .i64 d_.Weight.e1, .int .i64 d_.Weight.e2, .int .i64 d_.Order], Ent.im tyValue d_.Long.Value g_d__0, gE0] _ := hS.sel [1, 2, 3] rfl
  refine w_if H31 rfl (fun hc => ?_) (fun hc => ?c34)
  case c34 =>
   replace hm := bF hc hm
   refine w_skip ?_
   obtain rfl := someE hm
   exact ⟨_, rfl, FrG.keep (ks := [1]) H31 (by kernel_rfl), hS⟩
  replace hm := bT hc hm
  refine s_reg [] [2] [(2, [], .int .i64 8)] [] H31 (by kernel_rfl) trivial fun _ wd32 H33 hb => ?_
  clear H31
  replace hS := hS.below hb
  clear hb
  refine w_ret ?_
  obtain rfl := someE hm
  have hm := hm_z14
  obtain rfl := someE hm
  exact retR1 H33 rfl rfl ⟨_, rfl, rfl, (hS.sel [] rfl)⟩
 ·rintro _ wd71 ⟨s_z14, hz, H, hS⟩
  subst hz
  replace hm := sumR hm_z14
  obtain ⟨z36, hz, hm_z36⟩ := bindE hm
  refine w_cut (fun a' w' => ∃ s_z36 : Unit, z36 = Sum.inr s_z36 ∧ Fr 105 [(1, [], .pointer (some ⟨b1, 0, none⟩))] a' ∧ SH M X w [Ent.blk b1 [.string ⟨⟨d_.Long.Name⟩⟩, .slice g_d__0.a d_.Long.Value.length g_d__0.c, .string ⟨⟨d_.Long.Whole⟩⟩, .bool d_.Important, .int .u8 d_.Origin, .bool d_.Attached, .int .i64 d_.Layer, .int .i64 d_.Weight.e0, .int .i64 d_.Weight.e1, .int .i64 d_.Weight.e2, .int .i64 d_.Order], Ent.im tyValue d_.Long.Value g_d__0, gE0] w') ?_ ?_
  ·replace hm := hz
   refine s_reg [(.int .i64 d_.Layer), (.int .i64 d_.Order), (.int .i64 d_.Weight.e0), (.int .i64 d_.Weight.e1), (.int .i64 d_.Weight.e2)] [1, 66, 67] [(1, [], .pointer (some ⟨b1, 0, none⟩)), (66, [], .agg ⟨[.int .i64 d_.Layer, .int .i64 d_.Order, .int .i64 d_.Weight.e0, .int .i64 d_.Weight.e1, .int .i64 d_.Weight.e2]⟩), (67, [], .int .i64 0)] [fun wz => V.at1 ⟨b1, 6, none⟩ (.int .i64 d_.Layer) wz, fun wz => V.at1 ⟨b1, 10, none⟩ (.int .i64 d_.Order) wz, fun _ => 0 ≤ (0 : Int) ∧ (0 : Int) < 3, fun wz => V.at1 ⟨b1, 7, none⟩ (.int .i64 d_.Weight.e0) wz, fun _ => 0 ≤ (1 : Int) ∧ (1 : Int) < 3, fun wz => V.at1 ⟨b1, 8, none⟩ (.int .i64 d_.Weight.e1) wz, fun _ => 0 ≤ (2 : Int) ∧ (2 : Int) < 3, fun wz => V.at1 ⟨b1, 9, none⟩ (.int .i64 d_.Weight.e2) wz] H (by kernel_rfl) ⟨((hS.bk 0 rfl).at1 rfl), ((hS.bk 0 rfl).at1 rfl), (show 0 ≤ (0 : Int) ∧ (0 : Int) < 3 from by decide), ((hS.bk 0 rfl).at1 rfl), (show 0 ≤ (1 : Int) ∧ (1 : Int) < 3 from by decide), ((hS.bk 0 rfl).at1 rfl), (show 0 ≤ (2 : Int) ∧ (2 : Int) < 3 from by decide), ((hS.bk 0 rfl).at1 rfl), trivial⟩ fun _ wd37 H38 hb => ?_
   clear H
   replace hS := hS.below hb
   clear hb
   refine w_block ?_
   refine w_loop (fun kk a' w' => ∃ (v39 : Int), sorter_Check_L1 m d_ kk v39 = some _ ∧ Fr 105 [(1, [], .pointer (some ⟨b1, 0, none⟩)), (66, [], .agg ⟨[.int .i64 d_.Layer, .int .i64 d_.Order, .int .i64 d_.Weight.e0, .int .i64 d_.Weight.e1, .int .i64 d_.Weight.e2]⟩), (67, [], .int .i64 v39)] a' ∧ SH M X w [Ent.blk b1 [.string ⟨⟨d_.Long.Name⟩⟩, .slice g_d__0.a d_.Long.Value.length g_d__0.c, .string ⟨⟨d_.Long.Whole⟩⟩, .bool d_.Important, .int .u8 d_.Origin, .bool d_.Attached, .int .i64 d_.Layer, .int .i64 d_.Weight.e0, .int .i64 d_.Weight.e1, .int .i64 d_.Weight.e2, .int .i64 d_.Order], Ent.im tyValue d_.Long.Value g_d__0, gE0] w') ⟨_, 0, hm, FrG.keep (ks := [1, 66, 67]) H38 (by kernel_rfl), hS⟩ ?_
   clear hm H38 hS
   rintro kk _ wd55 ⟨v39, hm, H, hS⟩
   cases kk with
   | zero => exact noneE hm
   | succ kk =>
    rw [sorter_Check_L1] at hm
    refine s_reg [] [1, 66, 67, 68] [(1, [], .pointer (some ⟨b1, 0, none⟩)), (66, [], .agg ⟨[.int .i64 d_.Layer, .int .i64 d_.Order, .int .i64 d_.Weight.e0, .int .i64 d_.Weight.e1, .int .i64 d_.Weight.e2]⟩), (67, [], .int .i64 v39), (68, [], .bool (decide (v39 < 5)))] [] H (by kernel_rfl) trivial fun _ wd40 H41 hb => ?_
    clear H
    replace hS := hS.below hb
    clear hb
    refine w_seq ?_
    refine w_if H41 rfl (fun hc => ?_) (fun hc => ?c54)
    case c54 =>
     replace hm := bF hc hm
     refine w_exit rfl ?_
     obtain rfl := someE hm
     exact ⟨_, rfl, FrG.keep (ks := [1]) H41 (by kernel_rfl), hS⟩
    replace hm := bT hc hm
    refine w_skip ?_
    refine w_seq ?_
    refine w_block ?_
    obtain ⟨ho42, hm⟩ := chkE hm
    obtain ⟨x43, hx43, hm⟩ := letE hm
    refine s_reg [] [1, 9, 66, 67] [(1, [], .pointer (some ⟨b1, 0, none⟩)), (9, [], .int .i64 x43), (66, [], .agg ⟨[.int .i64 d_.Layer, .int .i64 d_.Order, .int .i64 d_.Weight.e0, .int .i64 d_.Weight.e1, .int .i64 d_.Weight.e2]⟩), (67, [], .int .i64 v39)] [fun _ => 0 ≤ v39 ∧ v39 < (5 : Int)] H41 (by subst hx43; kernel_rfl) ⟨ho42, trivial⟩ fun _ wd44 H45 hb => ?_
    clear H41
    replace hS := hS.below hb
    clear hb
    obtain ⟨x46, hx46, hm⟩ := letE hm
    refine s_reg [] [1, 66, 67, 75] [(1, [], .pointer (some ⟨b1, 0, none⟩)), (66, [], .agg ⟨[.int .i64 d_.Layer, .int .i64 d_.Order, .int .i64 d_.Weight.e0, .int .i64 d_.Weight.e1, .int .i64 d_.Weight.e2]⟩), (67, [], .int .i64 v39), (75, [], .bool x46)] [] H45 (by subst hx46; kernel_rfl) trivial fun _ wd47 H48 hb => ?_
    clear H45
    replace hS := hS.below hb
    clear hb
    refine w_if H48 rfl (fun hc => ?_) (fun hc => ?c53)
    case c53 =>
     replace hm := bF hc hm
     refine w_skip ?_
     refine w_reg [] [1, 66, 67] [(1, [], .pointer (some ⟨b1, 0, none⟩)), (66, [], .agg ⟨[.int .i64 d_.Layer, .int .i64 d_.Order, .int .i64 d_.Weight.e0, .int .i64 d_.Weight.e1, .int .i64 d_.Weight.e2]⟩), (67, [], .int .i64 (w64 (v39 + 1)))] [] H48 (by kernel_rfl) trivial fun _ wd51 H52 hb => ?_
     clear H48
     replace hS := hS.below hb
     clear hb
     exact ⟨_, Nat.lt_succ_self _, w64 (v39 + 1), hm, FrG.keep (ks := [1, 66, 67]) H52 (by kernel_rfl), hS⟩
    replace hm := bT hc hm
    refine s_reg [] [2] [(2, [], .int .i64 8)] [] H48 (by kernel_rfl) trivial fun _ wd49 H50 hb => ?_
    clear H48
    replace hS := hS.below hb
    clear hb
    refine w_ret ?_
    obtain rfl := someE hm
    have hm := hm_z36
    obtain rfl := someE hm
    exact retR1 H50 rfl rfl ⟨_, rfl, rfl, (hS.sel [] rfl)⟩
  ·rintro _ wd70 ⟨s_z36, hz, H, hS⟩
   subst hz
   replace hm := sumR hm_z36
   refine w_seq ?_
   refine w_block ?_
   obtain ⟨x56, hx56, hm⟩ := letE hm
   refine s_reg [(.int .u8 d_.Origin), (.int .u8 d_.Origin)] [1, 77] [(1, [], .pointer (some ⟨b1, 0, none⟩)), (77, [], .bool x56)] [fun wz => V.at1 ⟨b1, 4, none⟩ (.int .u8 d_.Origin) wz, fun wz => ((decide (d_.Origin < 1)) = false ∧ True → V.at1 ⟨b1, 4, none⟩ (.int .u8 d_.Origin) wz)] H (by subst hx56; kernel_rfl) ⟨((hS.bk 0 rfl).at1 rfl), fun hg => (hS.bk 0 rfl).at1 rfl, trivial⟩ fun _ wd57 H58 hb => ?_
   clear H
   replace hS := hS.below hb
   clear hb
   refine w_if H58 rfl (fun hc => ?c69) (fun hc => ?_)
   case c69 =>
    replace hm := bT hc hm
    refine s_reg [] [2] [(2, [], .int .i64 8)] [] H58 (by kernel_rfl) trivial fun _ wd59 H60 hb => ?_
    clear H58
    replace hS := hS.below hb
    clear hb
    replace hS : SH M X w [gE0] _ := hS.sel [2] rfl
    refine w_ret ?_
    obtain rfl := someE hm
    exact retR1 H60 rfl rfl ⟨_, rfl, rfl, (hS.sel [] rfl)⟩
   replace hm := bF hc hm
   obtain ⟨x61, hx61, hm⟩ := letE hm
   refine s_reg [(.bool d_.Attached), (.int .u8 d_.Origin), (.int .i64 d_.Layer), (.agg ⟨[.int .i64 d_.Weight.e0, .int .i64 d_.Weight.e1, .int .i64 d_.Weight.e2]⟩)] [86] [(86, [], .bool x61)] [fun wz => V.at1 ⟨b1, 5, none⟩ (.bool d_.Attached) wz, fun wz => (d_.Attached = true ∧ True → V.at1 ⟨b1, 4, none⟩ (.int .u8 d_.Origin) wz), fun wz => ((d_.Origin != 3) = false ∧ d_.Attached = true ∧ True → V.at1 ⟨b1, 6, none⟩ (.int .i64 d_.Layer) wz), fun wz => ((cond (d_.Origin != 3) true (d_.Layer != 0)) = false ∧ d_.Attached = true ∧ True → V.atN b1 7 [.int .i64 d_.Weight.e0, .int .i64 d_.Weight.e1, .int .i64 d_.Weight.e2] 0 wz)] H58 (by subst hx61; kernel_rfl) ⟨((hS.bk 0 rfl).at1 rfl), fun hg => (hS.bk 0 rfl).at1 rfl, fun hg => (hS.bk 0 rfl).at1 rfl, fun hg => (hS.bk 0 rfl).atD rfl, trivial⟩ fun _ wd62 H63 hb => ?_
   clear H58
   replace hS := hS.below hb
   clear hb
   replace hS : SH M X w [gE0] _ := hS.sel [2] rfl
   refine w_if H63 rfl (fun hc => ?c68) (fun hc => ?_)
   case c68 =>
    replace hm := bT hc hm
    refine s_reg [] [2] [(2, [], .int .i64 8)] [] H63 (by kernel_rfl) trivial fun _ wd64 H65 hb => ?_
    clear H63
    replace hS := hS.below hb
    clear hb
    refine w_ret ?_
    obtain rfl := someE hm
    exact retR1 H65 rfl rfl ⟨_, rfl, rfl, (hS.sel [] rfl)⟩
   replace hm := bF hc hm
   refine w_skip ?_
   refine s_reg [] [2] [(2, [], .int .i64 0)] [] H63 (by kernel_rfl) trivial fun _ wd66 H67 hb => ?_
   clear H63
   replace hS := hS.below hb
   clear hb
   refine w_ret ?_
   obtain rfl := someE hm
   exact retR1 H67 rfl rfl ⟨_, rfl, rfl, (hS.sel [] rfl)⟩
theorem sorter_Check_ok {g_d__0 : Gh} (m : Nat) (d_ : TDeclared) (r : Int) (hm : sorter_Check m d_ = some r) (w : World) (hL : S0 F0 [Ent.im tyValue d_.Long.Value g_d__0, gE0] w ∧ fpl [Ent.im tyValue d_.Long.Value g_d__0, gE0] = []) : RetB Tryd.prog 22 ⟨[.agg ⟨[.string ⟨⟨d_.Long.Name⟩⟩, .slice g_d__0.a d_.Long.Value.length g_d__0.c, .string ⟨⟨d_.Long.Whole⟩⟩, .bool d_.Important, .int .u8 d_.Origin, .bool d_.Attached, .int .i64 d_.Layer, .int .i64 d_.Weight.e0, .int .i64 d_.Weight.e1, .int .i64 d_.Weight.e2, .int .i64 d_.Order]⟩]⟩ (.int .i64 r) w := retB_of hL (Tryd.call22 _) (fun w' h => sorter_Check_w F0 m   d_ r hm w' h)

def sorter_check_L1 (m : Nat) (l_ : List TDeclared) : Nat → Int → Option (Sum (Int) (Unit))
  | 0, _ => none
  | kk + 1, v6 =>
    cond (decide (v6 < (ln l_))) (
    chk (0 ≤ v6 ∧ v6 < ln l_) <|
    Option.bind (sorter_Check m (gi l_ v6)) fun y17 =>
    cond (y17 != 0) (
    some (.inl y17)) (
    sorter_check_L1 m l_ kk (w64 (v6 + 1)))) (
    some (.inr ()))
def sorter_check (m : Nat) (l_ : List TDeclared) : Option (Int) :=
  Option.bind (
  sorter_check_L1 m l_ m 0) fun (z3 : Sum (Int) (Unit)) => sumK z3 fun s_z3 =>
  some 0
theorem sorter_check_w {g_l_ : Gh} (M : Av) (m : Nat) (l_ : List TDeclared) (r : Int) (hm : sorter_check m l_ = some r) (w : World) (hS : S0 M [Ent.im tyDeclared l_ g_l_, gE0] w) : Calls Tryd.prog 38 ⟨[.slice g_l_.a l_.length g_l_.c]⟩ w (fun e w' => ∃ v, e = .returned v ∧ v = .int .i64 r ∧ SH M (fpl [Ent.im tyDeclared l_ g_l_, gE0]) w [] w') := by
 rw [sorter_check] at hm
 have hS0 : SH M (fpl [Ent.im tyDeclared l_ g_l_, gE0]) w [Ent.im tyDeclared l_ g_l_, gE0] w := hS
 generalize hX : fpl [Ent.im tyDeclared l_ g_l_, gE0] = X at hS0 ⊢
 clear hS hX
 have hS := hS0
 clear hS0
 refine calls_entryP Tryd.func38 rfl Tryd.ntmps38 rfl fun _ H => ?_
 refine s_reg [] [0] [(0, [], .slice g_l_.a l_.length g_l_.c)] [] H (by kernel_rfl) trivial fun _ wd1 H2 hb => ?_
 clear H
 replace hS := hS.below hb
 clear hb
 obtain ⟨z3, hz, hm_z3⟩ := bindE hm
 refine w_cut (fun a' w' => ∃ s_z3 : Unit, z3 = Sum.inr s_z3 ∧ Fr 18 [] a' ∧ SH M X w [Ent.im tyDeclared l_ g_l_, gE0] w') ?_ ?_
 ·replace hm := hz
  refine s_reg [] [6, 7, 8] [(6, [], .slice g_l_.a l_.length g_l_.c), (7, [], .int .i64 (ln l_)), (8, [], .int .i64 0)] [] H2 (by kernel_rfl) trivial fun _ wd4 H5 hb => ?_
  clear H2
  replace hS := hS.below hb
  clear hb
  refine w_block ?_
  refine w_loop (fun kk a' w' => ∃ (v6 : Int), sorter_check_L1 m l_ kk v6 = some _ ∧ Fr 18 [(6, [], .slice g_l_.a l_.length g_l_.c), (7, [], .int .i64 (ln l_)), (8, [], .int .i64 v6)] a' ∧ SH M X w [Ent.im tyDeclared l_ g_l_, gE0] w') ⟨_, 0, hm, FrG.keep (ks := [6, 7, 8]) H5 (by kernel_rfl), hS⟩ ?_
  clear hm H5 hS
  rintro kk _ wd28 ⟨v6, hm, H, hS⟩
  cases kk with
  | zero => exact noneE hm
  | succ kk =>
   rw [sorter_check_L1] at hm
   refine s_reg [] [6, 7, 8, 9] [(6, [], .slice g_l_.a l_.length g_l_.c), (7, [], .int .i64 (ln l_)), (8, [], .int .i64 v6), (9, [], .bool (decide (v6 < (ln l_))))] [] H (by kernel_rfl) trivial fun _ wd7 H8 hb => ?_
   clear H
   replace hS := hS.below hb
   clear hb
   refine w_seq ?_
   refine w_if H8 rfl (fun hc => ?_) (fun hc => ?c27)
   case c27 =>
    replace hm := bF hc hm
    refine w_exit rfl ?_
    obtain rfl := someE hm
    exact ⟨_, rfl, FrG.keep (ks := []) H8 (by kernel_rfl), hS⟩
   replace hm := bT hc hm
   refine w_skip ?_
   refine w_seq ?_
   refine w_block ?_
   refine w_seq ?_
   refine wl_start ?_
   obtain ⟨ho9, hm⟩ := chkE hm
   refine wl_batch 0 2 [(.agg ⟨[.string ⟨⟨(gi l_ v6).Long.Name⟩⟩, .slice (g_l_.s (v6).toNat 0).a (((gi l_ v6).Long.Value).length) (g_l_.s (v6).toNat 0).c, .string ⟨⟨(gi l_ v6).Long.Whole⟩⟩, .bool ((gi l_ v6).Important), .int .u8 ((gi l_ v6).Origin), .bool ((gi l_ v6).Attached), .int .i64 ((gi l_ v6).Layer), .int .i64 ((gi l_ v6).Weight.e0), .int .i64 ((gi l_ v6).Weight.e1), .int .i64 ((gi l_ v6).Weight.e2), .int .i64 ((gi l_ v6).Order)]⟩)] [6, 7, 8, 11] [(6, [], .slice g_l_.a l_.length g_l_.c), (7, [], .int .i64 (ln l_)), (8, [], .int .i64 v6), (11, [], .agg ⟨[.string ⟨⟨(gi l_ v6).Long.Name⟩⟩, .slice (g_l_.s (v6).toNat 0).a (((gi l_ v6).Long.Value).length) (g_l_.s (v6).toNat 0).c, .string ⟨⟨(gi l_ v6).Long.Whole⟩⟩, .bool ((gi l_ v6).Important), .int .u8 ((gi l_ v6).Origin), .bool ((gi l_ v6).Attached), .int .i64 ((gi l_ v6).Layer), .int .i64 ((gi l_ v6).Weight.e0), .int .i64 ((gi l_ v6).Weight.e1), .int .i64 ((gi l_ v6).Weight.e2), .int .i64 ((gi l_ v6).Order)]⟩)] [fun _ => oka g_l_.a ∧ 0 ≤ v6 ∧ v6 < ln l_, fun wz => V.atN (ab g_l_.a) (ao g_l_.a + (v6).toNat * 11) [.string ⟨⟨(gi l_ v6).Long.Name⟩⟩, .slice (g_l_.s (v6).toNat 0).a (((gi l_ v6).Long.Value).length) (g_l_.s (v6).toNat 0).c, .string ⟨⟨(gi l_ v6).Long.Whole⟩⟩, .bool ((gi l_ v6).Important), .int .u8 ((gi l_ v6).Origin), .bool ((gi l_ v6).Attached), .int .i64 ((gi l_ v6).Layer), .int .i64 ((gi l_ v6).Weight.e0), .int .i64 ((gi l_ v6).Weight.e1), .int .i64 ((gi l_ v6).Weight.e2), .int .i64 ((gi l_ v6).Order)] 0 wz] H8 (by decide) (by kernel_rfl) ⟨((hS.im 0 rfl).oki ho9), ((hS.im 0 rfl).atA ho9 0 rfl), trivial⟩ fun _ wd10 H11 hb => ?_
   clear H8
   replace hS := hS.below hb
   clear hb
   have hd := hS.hand [] [0, 1] rfl rfl
   refine m_stp [4, 6, 7, 8, 11] [(6, [], .slice g_l_.a l_.length g_l_.c), (7, [], .int .i64 (ln l_)), (8, [], .int .i64 v6), (11, [], .agg ⟨[.string ⟨⟨(gi l_ v6).Long.Name⟩⟩, .slice (g_l_.s (v6).toNat 0).a (((gi l_ v6).Long.Value).length) (g_l_.s (v6).toNat 0).c, .string ⟨⟨(gi l_ v6).Long.Whole⟩⟩, .bool ((gi l_ v6).Important), .int .u8 ((gi l_ v6).Origin), .bool ((gi l_ v6).Attached), .int .i64 ((gi l_ v6).Layer), .int .i64 ((gi l_ v6).Weight.e0), .int .i64 ((gi l_ v6).Weight.e1), .int .i64 ((gi l_ v6).Weight.e2), .int .i64 ((gi l_ v6).Order)]⟩)] H11 rfl rfl rfl rfl (o_alloc [.string ⟨⟨[]⟩⟩, .slice none 0 0, .string ⟨⟨[]⟩⟩, .bool false, .int .u8 0, .bool false, .int .i64 0, .int .i64 0, .int .i64 0, .int .i64 0, .int .i64 0] (z := .agg ⟨[.string ⟨⟨[]⟩⟩, .slice none 0 0, .string ⟨⟨[]⟩⟩, .bool false, .int .u8 0, .bool false, .int .i64 0, .int .i64 0, .int .i64 0, .int .i64 0, .int .i64 0]⟩) hd (by kernel_rfl) rfl) (fun _ => rfl) fun _ wd13 v H14 hq => ?_
   clear H11 hd
   obtain ⟨b12, rfl, hq⟩ := hq
   replace hS : SH M X w [Ent.blk b12 [.string ⟨⟨[]⟩⟩, .slice none 0 0, .string ⟨⟨[]⟩⟩, .bool false, .int .u8 0, .bool false, .int .i64 0, .int .i64 0, .int .i64 0, .int .i64 0, .int .i64 0], Ent.im tyDeclared l_ g_l_, gE0] _ := hS.join [] [0, 1] rfl rfl hq
   clear hq
   have hd := hS.hand [0] [1, 2] rfl rfl
   refine m_stp0 [4, 6, 7, 8] [(4, [], .pointer (some ⟨b12, 0, none⟩)), (6, [], .slice g_l_.a l_.length g_l_.c), (7, [], .int .i64 (ln l_)), (8, [], .int .i64 v6)] H14 rfl rfl rfl (o_store [.string ⟨⟨(gi l_ v6).Long.Name⟩⟩, .slice (g_l_.s (v6).toNat 0).a (((gi l_ v6).Long.Value).length) (g_l_.s (v6).toNat 0).c, .string ⟨⟨(gi l_ v6).Long.Whole⟩⟩, .bool ((gi l_ v6).Important), .int .u8 ((gi l_ v6).Origin), .bool ((gi l_ v6).Attached), .int .i64 ((gi l_ v6).Layer), .int .i64 ((gi l_ v6).Weight.e0), .int .i64 ((gi l_ v6).Weight.e1), .int .i64 ((gi l_ v6).Weight.e2), .int .i64 ((gi l_ v6).Order)] H14 hd rfl rfl (by kernel_rfl) rfl rfl rfl) rfl fun _ wd15 H16 hq => ?_
   clear H14 hd
   obtain ⟨_, hq⟩ := hq
   replace hS : SH M X w [Ent.blk b12 [.string ⟨⟨(gi l_ v6).Long.Name⟩⟩, .slice (g_l_.s (v6).toNat 0).a (((gi l_ v6).Long.Value).length) (g_l_.s (v6).toNat 0).c, .string ⟨⟨(gi l_ v6).Long.Whole⟩⟩, .bool ((gi l_ v6).Important), .int .u8 ((gi l_ v6).Origin), .bool ((gi l_ v6).Attached), .int .i64 ((gi l_ v6).Layer), .int .i64 ((gi l_ v6).Weight.e0), .int .i64 ((gi l_ v6).Weight.e1), .int .i64 ((gi l_ v6).Weight.e2), .int .i64 ((gi l_ v6).Order)], Ent.im tyDeclared l_ g_l_, gE0] _ := hS.join [0] [1, 2] rfl rfl hq
   clear hq
   refine wl_end rfl ?_
   obtain ⟨y17, hy17, hm⟩ := bindE hm
   refine s_reg [(.agg ⟨[.string ⟨⟨(gi l_ v6).Long.Name⟩⟩, .slice (g_l_.s (v6).toNat 0).a (((gi l_ v6).Long.Value).length) (g_l_.s (v6).toNat 0).c, .string ⟨⟨(gi l_ v6).Long.Whole⟩⟩, .bool ((gi l_ v6).Important), .int .u8 ((gi l_ v6).Origin), .bool ((gi l_ v6).Attached), .int .i64 ((gi l_ v6).Layer), .int .i64 ((gi l_ v6).Weight.e0), .int .i64 ((gi l_ v6).Weight.e1), .int .i64 ((gi l_ v6).Weight.e2), .int .i64 ((gi l_ v6).Order)]⟩), (.int .i64 y17)] [5, 6, 7, 8] [(5, [], .int .i64 y17), (6, [], .slice g_l_.a l_.length g_l_.c), (7, [], .int .i64 (ln l_)), (8, [], .int .i64 v6)] [fun wz => V.atN b12 0 [.string ⟨⟨(gi l_ v6).Long.Name⟩⟩, .slice (g_l_.s (v6).toNat 0).a (((gi l_ v6).Long.Value).length) (g_l_.s (v6).toNat 0).c, .string ⟨⟨(gi l_ v6).Long.Whole⟩⟩, .bool ((gi l_ v6).Important), .int .u8 ((gi l_ v6).Origin), .bool ((gi l_ v6).Attached), .int .i64 ((gi l_ v6).Layer), .int .i64 ((gi l_ v6).Weight.e0), .int .i64 ((gi l_ v6).Weight.e1), .int .i64 ((gi l_ v6).Weight.e2), .int .i64 ((gi l_ v6).Order)] 0 wz, fun wz => RetB Tryd.prog 22 ⟨[.agg ⟨[.string ⟨⟨(gi l_ v6).Long.Name⟩⟩, .slice (g_l_.s (v6).toNat 0).a (((gi l_ v6).Long.Value).length) (g_l_.s (v6).toNat 0).c, .string ⟨⟨(gi l_ v6).Long.Whole⟩⟩, .bool ((gi l_ v6).Important), .int .u8 ((gi l_ v6).Origin), .bool ((gi l_ v6).Attached), .int .i64 ((gi l_ v6).Layer), .int .i64 ((gi l_ v6).Weight.e0), .int .i64 ((gi l_ v6).Weight.e1), .int .i64 ((gi l_ v6).Weight.e2), .int .i64 ((gi l_ v6).Order)]⟩]⟩ (.int .i64 y17) wz] H16 (by kernel_rfl) ⟨((hS.bk 0 rfl).atD rfl), (sorter_Check_ok (g_d__0 := (g_l_.s (v6).toNat 0)) m _ _ hy17 _ (s0im (s0im s0nil (hS.im 2 rfl)) (tyDeclared_i0 ((hS.im 1 rfl).el ho9)))), trivial⟩ fun _ wd18 H19 hb => ?_
   clear H16
   replace hS := hS.below hb
   clear hb
   replace hS : SH M X w [Ent.im tyDeclared l_ g_l_, gE0] _ := hS.sel [1, 2] rfl
   refine s_reg [] [5, 6, 7, 8, 15] [(5, [], .int .i64 y17), (6, [], .slice g_l_.a l_.length g_l_.c), (7, [], .int .i64 (ln l_)), (8, [], .int .i64 v6), (15, [], .bool (y17 != 0))] [] H19 (by kernel_rfl) trivial fun _ wd20 H21 hb => ?_
   clear H19
   replace hS := hS.below hb
   clear hb
   refine w_if H21 rfl (fun hc => ?_) (fun hc => ?c26)
   case c26 =>
    replace hm := bF hc hm
    refine w_skip ?_
    refine w_reg [] [6, 7, 8] [(6, [], .slice g_l_.a l_.length g_l_.c), (7, [], .int .i64 (ln l_)), (8, [], .int .i64 (w64 (v6 + 1)))] [] H21 (by kernel_rfl) trivial fun _ wd24 H25 hb => ?_
    clear H21
    replace hS := hS.below hb
    clear hb
    exact ⟨_, Nat.lt_succ_self _, w64 (v6 + 1), hm, FrG.keep (ks := [6, 7, 8]) H25 (by kernel_rfl), hS⟩
   replace hm := bT hc hm
   refine s_reg [] [2] [(2, [], .int .i64 y17)] [] H21 (by kernel_rfl) trivial fun _ wd22 H23 hb => ?_
   clear H21
   replace hS := hS.below hb
   clear hb
   refine w_ret ?_
   obtain rfl := someE hm
   have hm := hm_z3
   obtain rfl := someE hm
   exact retR1 H23 rfl rfl ⟨_, rfl, rfl, (hS.sel [] rfl)⟩
 ·rintro _ wd31 ⟨s_z3, hz, H, hS⟩
  subst hz
  replace hm := sumR hm_z3
  replace hS : SH M X w [gE0] _ := hS.sel [1] rfl
  refine s_reg [] [2] [(2, [], .int .i64 0)] [] H (by kernel_rfl) trivial fun _ wd29 H30 hb => ?_
  clear H
  replace hS := hS.below hb
  clear hb
  refine w_ret ?_
  obtain rfl := someE hm
  exact retR1 H30 rfl rfl ⟨_, rfl, rfl, (hS.sel [] rfl)⟩
theorem sorter_check_ok {g_l_ : Gh} (m : Nat) (l_ : List TDeclared) (r : Int) (hm : sorter_check m l_ = some r) (w : World) (hL : S0 F0 [Ent.im tyDeclared l_ g_l_, gE0] w ∧ fpl [Ent.im tyDeclared l_ g_l_, gE0] = []) : RetB Tryd.prog 38 ⟨[.slice g_l_.a l_.length g_l_.c]⟩ (.int .i64 r) w := retB_of hL (Tryd.call38 _) (fun w' h => sorter_check_w F0 m   l_ r hm w' h)

def sorter_rank (d_ : TDeclared) : List Int :=
  lt (
  cond d_.Important (
  (w64 (7 - (w64 d_.Origin)), w64 (1000000 - d_.Layer))) (
  (w64 d_.Origin, d_.Layer))) fun (z8 : Int × Int) =>
  lt (
  cond d_.Attached (
  1) (
  0)) fun (z14 : Int) =>
  ([z8.1, z14, z8.2, d_.Weight.e0, d_.Weight.e1, d_.Weight.e2, d_.Order] : List Int)
theorem sorter_rank_w {g_d__0 : Gh} (M : Av) (d_ : TDeclared) (r : List Int) (hm : sorter_rank d_ = r) (w : World) (hS : S0 M [Ent.im tyValue d_.Long.Value g_d__0] w) : Calls Tryd.prog 58 ⟨[.agg ⟨[.string ⟨⟨d_.Long.Name⟩⟩, .slice g_d__0.a d_.Long.Value.length g_d__0.c, .string ⟨⟨d_.Long.Whole⟩⟩, .bool d_.Important, .int .u8 d_.Origin, .bool d_.Attached, .int .i64 d_.Layer, .int .i64 d_.Weight.e0, .int .i64 d_.Weight.e1, .int .i64 d_.Weight.e2, .int .i64 d_.Order]⟩]⟩ w (fun e w' => ∃ v, e = .returned v ∧ ∃ (g901 : Gh), v = .slice g901.a r.length g901.c ∧ SH M (fpl [Ent.im tyValue d_.Long.Value g_d__0]) w [Ent.own 3 (tI .i64) r g901] w') := by
 rw [sorter_rank] at hm
 have hS0 : SH M (fpl [Ent.im tyValue d_.Long.Value g_d__0]) w [Ent.im tyValue d_.Long.Value g_d__0] w := hS
 generalize hX : fpl [Ent.im tyValue d_.Long.Value g_d__0] = X at hS0 ⊢
 clear hS hX
 have hS := hS0
 clear hS0
 refine calls_entryP Tryd.func58 rfl Tryd.ntmps58 rfl fun _ H => ?_
 refine w_seq ?_
 refine wl_start ?_
 have hd := hS.hand [] [0] rfl rfl
 refine m_stp [1] [] H rfl rfl rfl rfl (o_box [.string ⟨⟨d_.Long.Name⟩⟩, .slice g_d__0.a d_.Long.Value.length g_d__0.c, .string ⟨⟨d_.Long.Whole⟩⟩, .bool d_.Important, .int .u8 d_.Origin, .bool d_.Attached, .int .i64 d_.Layer, .int .i64 d_.Weight.e0, .int .i64 d_.Weight.e1, .int .i64 d_.Weight.e2, .int .i64 d_.Order] H hd rfl rfl) (fun _ => rfl) fun _ wd2 v H3 hq => ?_
 clear H hd
 obtain ⟨b1, rfl, hq⟩ := hq
 replace hS : SH M X w [Ent.blk b1 [.string ⟨⟨d_.Long.Name⟩⟩, .slice g_d__0.a d_.Long.Value.length g_d__0.c, .string ⟨⟨d_.Long.Whole⟩⟩, .bool d_.Important, .int .u8 d_.Origin, .bool d_.Attached, .int .i64 d_.Layer, .int .i64 d_.Weight.e0, .int .i64 d_.Weight.e1, .int .i64 d_.Weight.e2, .int .i64 d_.Order], Ent.im tyValue d_.Long.Value g_d__0] _ := hS.join [] [0] rfl rfl hq
 clear hq
 refine wl_batch 1 2 [] [1] [(1, [], .pointer (some ⟨b1, 0, none⟩))] [] H3 (by decide) (by kernel_rfl) trivial fun _ wd4 H5 hb => ?_
 clear H3
 replace hS := hS.below hb
 clear hb
 refine wl_end rfl ?_
 refine s_draw [(.int .u8 d_.Origin), (.int .i64 d_.Layer)] [1, 3, 4, 5] [(1, [], .pointer (some ⟨b1, 0, none⟩)), (3, [], .int .i64 (w64 d_.Origin)), (4, [], .int .i64 d_.Layer), (5, [], .int .i64 0)] [fun wz => V.at1 ⟨b1, 4, none⟩ (.int .u8 d_.Origin) wz, fun wz => V.at1 ⟨b1, 6, none⟩ (.int .i64 d_.Layer) wz] H5 (by kernel_rfl) (by kernel_rfl) (by kernel_rfl) ⟨((hS.bk 0 rfl).at1 rfl), ((hS.bk 0 rfl).at1 rfl), trivial⟩ fun _ wd6 H7 hb => ?_
 clear H5
 replace hS := hS.below hb
 clear hb
 obtain ⟨z8, hz, hm⟩ := letE hm
 refine w_cut (fun a' w' => Fr 34 [(1, [], .pointer (some ⟨b1, 0, none⟩)), (5, [], .int .i64 0), (3, [], .int .i64 z8.1), (4, [], .int .i64 z8.2)] a' ∧ SH M X w [Ent.blk b1 [.string ⟨⟨d_.Long.Name⟩⟩, .slice g_d__0.a d_.Long.Value.length g_d__0.c, .string ⟨⟨d_.Long.Whole⟩⟩, .bool d_.Important, .int .u8 d_.Origin, .bool d_.Attached, .int .i64 d_.Layer, .int .i64 d_.Weight.e0, .int .i64 d_.Weight.e1, .int .i64 d_.Weight.e2, .int .i64 d_.Order], Ent.im tyValue d_.Long.Value g_d__0] w') ?_ ?_
 ·replace hm := hz.symm
  refine s_reg [(.bool d_.Important)] [1, 3, 4, 5, 12] [(1, [], .pointer (some ⟨b1, 0, none⟩)), (3, [], .int .i64 (w64 d_.Origin)), (4, [], .int .i64 d_.Layer), (5, [], .int .i64 0), (12, [], .bool d_.Important)] [fun wz => V.at1 ⟨b1, 3, none⟩ (.bool d_.Important) wz] H7 (by kernel_rfl) ⟨((hS.bk 0 rfl).at1 rfl), trivial⟩ fun _ wd9 H10 hb => ?_
  clear H7
  replace hS := hS.below hb
  clear hb
  refine w_if H10 rfl (fun hc => ?_) (fun hc => ?c13)
  case c13 =>
   replace hm := bF hc hm
   refine w_skip ?_
   subst hm
   exact ⟨FrG.keep (ks := [1, 5, 3, 4]) H10 (by kernel_rfl), hS⟩
  replace hm := bT hc hm
  refine w_reg [] [1, 3, 4, 5] [(1, [], .pointer (some ⟨b1, 0, none⟩)), (3, [], .int .i64 (w64 (7 - (w64 d_.Origin)))), (4, [], .int .i64 (w64 (1000000 - d_.Layer))), (5, [], .int .i64 0)] [] H10 (by kernel_rfl) trivial fun _ wd11 H12 hb => ?_
  clear H10
  replace hS := hS.below hb
  clear hb
  subst hm
  exact ⟨FrG.keep (ks := [1, 5, 3, 4]) H12 (by kernel_rfl), hS⟩
 ·rintro _ wd29 ⟨H, hS⟩
  obtain ⟨z14, hz, hm⟩ := letE hm
  refine w_cut (fun a' w' => Fr 34 [(1, [], .pointer (some ⟨b1, 0, none⟩)), (3, [], .int .i64 z8.1), (4, [], .int .i64 z8.2), (5, [], .int .i64 z14)] a' ∧ SH M X w [Ent.blk b1 [.string ⟨⟨d_.Long.Name⟩⟩, .slice g_d__0.a d_.Long.Value.length g_d__0.c, .string ⟨⟨d_.Long.Whole⟩⟩, .bool d_.Important, .int .u8 d_.Origin, .bool d_.Attached, .int .i64 d_.Layer, .int .i64 d_.Weight.e0, .int .i64 d_.Weight.e1, .int .i64 d_.Weight.e2, .int .i64 d_.Order], Ent.im tyValue d_.Long.Value g_d__0] w') ?_ ?_
  ·replace hm := hz.symm
   refine s_reg [(.bool d_.Attached)] [1, 3, 4, 5, 18] [(1, [], .pointer (some ⟨b1, 0, none⟩)), (3, [], .int .i64 z8.1), (4, [], .int .i64 z8.2), (5, [], .int .i64 0), (18, [], .bool d_.Attached)] [fun wz => V.at1 ⟨b1, 5, none⟩ (.bool d_.Attached) wz] H (by kernel_rfl) ⟨((hS.bk 0 rfl).at1 rfl), trivial⟩ fun _ wd15 H16 hb => ?_
   clear H
   replace hS := hS.below hb
   clear hb
   refine w_if H16 rfl (fun hc => ?_) (fun hc => ?c19)
   case c19 =>
    replace hm := bF hc hm
    refine w_skip ?_
    subst hm
    exact ⟨FrG.keep (ks := [1, 3, 4, 5]) H16 (by kernel_rfl), hS⟩
   replace hm := bT hc hm
   refine w_reg [] [1, 3, 4, 5] [(1, [], .pointer (some ⟨b1, 0, none⟩)), (3, [], .int .i64 z8.1), (4, [], .int .i64 z8.2), (5, [], .int .i64 1)] [] H16 (by kernel_rfl) trivial fun _ wd17 H18 hb => ?_
   clear H16
   replace hS := hS.below hb
   clear hb
   subst hm
   exact ⟨FrG.keep (ks := [1, 3, 4, 5]) H18 (by kernel_rfl), hS⟩
  ·rintro _ wd28 ⟨H, hS⟩
   refine w_seq ?_
   refine wl_start ?_
   refine wl_batch 0 14 [(.int .i64 d_.Weight.e0), (.int .i64 d_.Weight.e1), (.int .i64 d_.Weight.e2), (.int .i64 d_.Order)] [19, 20, 21, 24, 27, 30, 32] [(19, [], .int .i64 z8.1), (20, [], .int .i64 z14), (21, [], .int .i64 z8.2), (24, [], .int .i64 d_.Weight.e0), (27, [], .int .i64 d_.Weight.e1), (30, [], .int .i64 d_.Weight.e2), (32, [], .int .i64 d_.Order)] [fun _ => 0 ≤ (0 : Int) ∧ (0 : Int) < 3, fun wz => V.at1 ⟨b1, 7, none⟩ (.int .i64 d_.Weight.e0) wz, fun _ => 0 ≤ (1 : Int) ∧ (1 : Int) < 3, fun wz => V.at1 ⟨b1, 8, none⟩ (.int .i64 d_.Weight.e1) wz, fun _ => 0 ≤ (2 : Int) ∧ (2 : Int) < 3, fun wz => V.at1 ⟨b1, 9, none⟩ (.int .i64 d_.Weight.e2) wz, fun wz => V.at1 ⟨b1, 10, none⟩ (.int .i64 d_.Order) wz] H (by decide) (by kernel_rfl) ⟨(show 0 ≤ (0 : Int) ∧ (0 : Int) < 3 from by decide), ((hS.bk 0 rfl).at1 rfl), (show 0 ≤ (1 : Int) ∧ (1 : Int) < 3 from by decide), ((hS.bk 0 rfl).at1 rfl), (show 0 ≤ (2 : Int) ∧ (2 : Int) < 3 from by decide), ((hS.bk 0 rfl).at1 rfl), ((hS.bk 0 rfl).at1 rfl), trivial⟩ fun _ wd20 H21 hb => ?_
   clear H
   replace hS := hS.below hb
   clear hb
   have hd := hS.hand [] [0, 1] rfl rfl
   refine m_stp [33] [] H21 rfl rfl rfl rfl (o_lit (T := (tI .i64)) (E := 3) (zv := .int .i64 0) [.int .i64 z8.1, .int .i64 z14, .int .i64 z8.2, .int .i64 d_.Weight.e0, .int .i64 d_.Weight.e1, .int .i64 d_.Weight.e2, .int .i64 d_.Order] ([z8.1, z14, z8.2, d_.Weight.e0, d_.Weight.e1, d_.Weight.e2, d_.Order] : List Int) [gL [], gL [], gL [], gL [], gL [], gL [], gL []] _ H21 hd rfl (by kernel_rfl) (by kernel_rfl) (by kernel_rfl) (by kernel_rfl) (by kernel_rfl) (by kernel_rfl) (by kernel_rfl) rfl (InnL.cons trivial (InnL.cons trivial (InnL.cons trivial (InnL.cons trivial (InnL.cons trivial (InnL.cons trivial (InnL.cons trivial InnL.nil)))))))) (fun _ => rfl) fun _ wd24 v H25 hq => ?_
   clear H21 hd
   obtain ⟨g22, rfl, hq⟩ := hq
   replace hS : SH M X w [Ent.own 3 (tI .i64) ([z8.1, z14, z8.2, d_.Weight.e0, d_.Weight.e1, d_.Weight.e2, d_.Order] : List Int) g22, Ent.blk b1 [.string ⟨⟨d_.Long.Name⟩⟩, .slice g_d__0.a d_.Long.Value.length g_d__0.c, .string ⟨⟨d_.Long.Whole⟩⟩, .bool d_.Important, .int .u8 d_.Origin, .bool d_.Attached, .int .i64 d_.Layer, .int .i64 d_.Weight.e0, .int .i64 d_.Weight.e1, .int .i64 d_.Weight.e2, .int .i64 d_.Order], Ent.im tyValue d_.Long.Value g_d__0] _ := hS.join [] [0, 1] rfl rfl hq
   clear hq
   refine wl_batch 15 16 [] [2] [(2, [], .slice g22.a 7 g22.c)] [] H25 (by decide) (by kernel_rfl) trivial fun _ wd26 H27 hb => ?_
   clear H25
   replace hS := hS.below hb
   clear hb
   refine wl_end rfl ?_
   replace hS : SH M X w [Ent.own 3 (tI .i64) ([z8.1, z14, z8.2, d_.Weight.e0, d_.Weight.e1, d_.Weight.e2, d_.Order] : List Int) g22] _ := hS.sel [0] rfl
   refine w_ret ?_
   subst hm
   exact retR1 H27 rfl rfl ⟨_, rfl, g22, rfl, (hS.sel [0] rfl)⟩
theorem sorter_rank_ok {g_d__0 : Gh} (d_ : TDeclared) (r : List Int) (hm : sorter_rank d_ = r) (M : Av) (w : World) (hS : S0 M [Ent.im tyValue d_.Long.Value g_d__0] w) : DoesX Tryd.prog 58 ⟨[.agg ⟨[.string ⟨⟨d_.Long.Name⟩⟩, .slice g_d__0.a d_.Long.Value.length g_d__0.c, .string ⟨⟨d_.Long.Whole⟩⟩, .bool d_.Important, .int .u8 d_.Origin, .bool d_.Attached, .int .i64 d_.Layer, .int .i64 d_.Weight.e0, .int .i64 d_.Weight.e1, .int .i64 d_.Weight.e2, .int .i64 d_.Order]⟩]⟩ w (fun v w' => ∃ (g901 : Gh), v = .slice g901.a r.length g901.c ∧ SH M (fpl [Ent.im tyValue d_.Long.Value g_d__0]) w [Ent.own 3 (tI .i64) r g901] w') := ⟨Tryd.call58 _, sorter_rank_w M   d_ r hm w hS⟩

def cmp_isNaN_int (x_ : Int) : Bool :=
  x_ != x_
theorem cmp_isNaN_int_w  (M : Av) (x_ : Int) (r : Bool) (hm : cmp_isNaN_int x_ = r) (w : World) (hS : S0 M [] w) : Calls Tryd.prog 86 ⟨[.int .i64 x_]⟩ w (fun e w' => ∃ v, e = .returned v ∧ v = .bool r ∧ SH M (fpl []) w [] w') := by
 rw [cmp_isNaN_int] at hm
 have hS0 : SH M (fpl []) w [] w := hS
 generalize hX : fpl [] = X at hS0 ⊢
 clear hS hX
 have hS := hS0
 clear hS0
 refine calls_entryP Tryd.func86 rfl Tryd.ntmps86 rfl fun _ H => ?_
 refine s_reg [] [0] [(0, [], .int .i64 x_)] [] H (by kernel_rfl) trivial fun _ wd1 H2 hb => ?_
 clear H
 replace hS := hS.below hb
 clear hb
 refine s_reg [] [2] [(2, [], .bool (x_ != x_))] [] H2 (by kernel_rfl) trivial fun _ wd3 H4 hb => ?_
 clear H2
 replace hS := hS.below hb
 clear hb
 refine w_ret ?_
 subst hm
 exact retR1 H4 rfl rfl ⟨_, rfl, rfl, (hS.sel [] rfl)⟩
theorem cmp_isNaN_int_ok  (x_ : Int) : Ret Tryd.prog 86 ⟨[.int .i64 x_]⟩ (.bool (cmp_isNaN_int x_)) := retP_of (Tryd.call86 _) (fun w h => cmp_isNaN_int_w F0   x_ _ rfl w h)

def cmp_Compare_int (x_ : Int) (y_ : Int) : Int :=
  cond (cmp_isNaN_int x_) (
  cond (cmp_isNaN_int y_) (
  0) (
  (-1))) (
  cond (cmp_isNaN_int y_) (
  1) (
  cond (decide (x_ < y_)) (
  (-1)) (
  cond (decide (y_ < x_)) (
  1) (
  0))))
theorem cmp_Compare_int_w  (M : Av) (x_ : Int) (y_ : Int) (r : Int) (hm : cmp_Compare_int x_ y_ = r) (w : World) (hS : S0 M [] w) : Calls Tryd.prog 75 ⟨[.int .i64 x_, .int .i64 y_]⟩ w (fun e w' => ∃ v, e = .returned v ∧ v = .int .i64 r ∧ SH M (fpl []) w [] w') := by
 rw [cmp_Compare_int] at hm
 have hS0 : SH M (fpl []) w [] w := hS
 generalize hX : fpl [] = X at hS0 ⊢
 clear hS hX
 have hS := hS0
 clear hS0
 refine calls_entryP Tryd.func75 rfl Tryd.ntmps75 rfl fun _ H => ?_
 refine s_reg [] [0, 1] [(0, [], .int .i64 x_), (1, [], .int .i64 y_)] [] H (by kernel_rfl) trivial fun _ wd1 H2 hb => ?_
 clear H
 replace hS := hS.below hb
 clear hb
 refine s_reg [(.bool (cmp_isNaN_int x_))] [0, 1, 5] [(0, [], .int .i64 x_), (1, [], .int .i64 y_), (5, [], .bool (cmp_isNaN_int x_))] [fun wz => RetB Tryd.prog 86 ⟨[.int .i64 x_]⟩ (.bool (cmp_isNaN_int x_)) wz] H2 (by kernel_rfl) ⟨((cmp_isNaN_int_ok _).b), trivial⟩ fun _ wd3 H4 hb => ?_
 clear H2
 replace hS := hS.below hb
 clear hb
 refine s_reg [(.bool (cmp_isNaN_int y_))] [0, 1, 5, 6] [(0, [], .int .i64 x_), (1, [], .int .i64 y_), (5, [], .bool (cmp_isNaN_int x_)), (6, [], .bool (cmp_isNaN_int y_))] [fun wz => RetB Tryd.prog 86 ⟨[.int .i64 y_]⟩ (.bool (cmp_isNaN_int y_)) wz] H4 (by kernel_rfl) ⟨((cmp_isNaN_int_ok _).b), trivial⟩ fun _ wd5 H6 hb => ?_
 clear H4
 replace hS := hS.below hb
 clear hb
 refine w_seq ?_
 refine s_reg [] [0, 1, 6, 11] [(0, [], .int .i64 x_), (1, [], .int .i64 y_), (6, [], .bool (cmp_isNaN_int y_)), (11, [], .bool (cmp_isNaN_int x_))] [] H6 (by kernel_rfl) trivial fun _ wd7 H8 hb => ?_
 clear H6
 replace hS := hS.below hb
 clear hb
 refine w_if H8 rfl (fun hc => ?c33) (fun hc => ?_)
 case c33 =>
  replace hm := bT hc hm
  refine w_seq ?_
  refine s_reg [] [12] [(12, [], .bool (cmp_isNaN_int y_))] [] H8 (by kernel_rfl) trivial fun _ wd9 H10 hb => ?_
  clear H8
  replace hS := hS.below hb
  clear hb
  refine w_if H10 rfl (fun hc => ?c15) (fun hc => ?_)
  case c15 =>
   replace hm := bT hc hm
   refine s_reg [] [4] [(4, [], .int .i64 0)] [] H10 (by kernel_rfl) trivial fun _ wd11 H12 hb => ?_
   clear H10
   replace hS := hS.below hb
   clear hb
   refine w_ret ?_
   subst hm
   exact retR1 H12 rfl rfl ⟨_, rfl, rfl, (hS.sel [] rfl)⟩
  replace hm := bF hc hm
  refine w_skip ?_
  refine s_reg [] [4] [(4, [], .int .i64 (-1))] [] H10 (by kernel_rfl) trivial fun _ wd13 H14 hb => ?_
  clear H10
  replace hS := hS.below hb
  clear hb
  refine w_ret ?_
  subst hm
  exact retR1 H14 rfl rfl ⟨_, rfl, rfl, (hS.sel [] rfl)⟩
 replace hm := bF hc hm
 refine w_skip ?_
 refine w_seq ?_
 refine s_reg [] [0, 1, 13] [(0, [], .int .i64 x_), (1, [], .int .i64 y_), (13, [], .bool (cmp_isNaN_int y_))] [] H8 (by kernel_rfl) trivial fun _ wd16 H17 hb => ?_
 clear H8
 replace hS := hS.below hb
 clear hb
 refine w_if H17 rfl (fun hc => ?c32) (fun hc => ?_)
 case c32 =>
  replace hm := bT hc hm
  refine s_reg [] [4] [(4, [], .int .i64 1)] [] H17 (by kernel_rfl) trivial fun _ wd18 H19 hb => ?_
  clear H17
  replace hS := hS.below hb
  clear hb
  refine w_ret ?_
  subst hm
  exact retR1 H19 rfl rfl ⟨_, rfl, rfl, (hS.sel [] rfl)⟩
 replace hm := bF hc hm
 refine w_skip ?_
 refine w_seq ?_
 refine s_reg [] [0, 1, 16] [(0, [], .int .i64 x_), (1, [], .int .i64 y_), (16, [], .bool (decide (x_ < y_)))] [] H17 (by kernel_rfl) trivial fun _ wd20 H21 hb => ?_
 clear H17
 replace hS := hS.below hb
 clear hb
 refine w_if H21 rfl (fun hc => ?c31) (fun hc => ?_)
 case c31 =>
  replace hm := bT hc hm
  refine s_reg [] [4] [(4, [], .int .i64 (-1))] [] H21 (by kernel_rfl) trivial fun _ wd22 H23 hb => ?_
  clear H21
  replace hS := hS.below hb
  clear hb
  refine w_ret ?_
  subst hm
  exact retR1 H23 rfl rfl ⟨_, rfl, rfl, (hS.sel [] rfl)⟩
 replace hm := bF hc hm
 refine w_skip ?_
 refine w_seq ?_
 refine s_reg [] [19] [(19, [], .bool (decide (y_ < x_)))] [] H21 (by kernel_rfl) trivial fun _ wd24 H25 hb => ?_
 clear H21
 replace hS := hS.below hb
 clear hb
 refine w_if H25 rfl (fun hc => ?c30) (fun hc => ?_)
 case c30 =>
  replace hm := bT hc hm
  refine s_reg [] [4] [(4, [], .int .i64 1)] [] H25 (by kernel_rfl) trivial fun _ wd26 H27 hb => ?_
  clear H25
  replace hS := hS.below hb
  clear hb
  refine w_ret ?_
  subst hm
  exact retR1 H27 rfl rfl ⟨_, rfl, rfl, (hS.sel [] rfl)⟩
 replace hm := bF hc hm
 refine w_skip ?_
 refine s_reg [] [4] [(4, [], .int .i64 0)] [] H25 (by kernel_rfl) trivial fun _ wd28 H29 hb => ?_
 clear H25
 replace hS := hS.below hb
 clear hb
 refine w_ret ?_
 subst hm
 exact retR1 H29 rfl rfl ⟨_, rfl, rfl, (hS.sel [] rfl)⟩
theorem cmp_Compare_int_ok  (x_ : Int) (y_ : Int) : Ret Tryd.prog 75 ⟨[.int .i64 x_, .int .i64 y_]⟩ (.int .i64 (cmp_Compare_int x_ y_)) := retP_of (Tryd.call75 _) (fun w h => cmp_Compare_int_w F0   x_ y_ _ rfl w h)

def slices_Compare_int_int_L1 (m : Nat) (s1 : List Int) (s2 : List Int) : Nat → Int → Option (Sum (Int) (Unit))
  | 0, _ => none
  | kk + 1, v6 =>
    cond (decide (v6 < (ln s1))) (
    chk (0 ≤ v6 ∧ v6 < ln s1) <|
    cond (decide ((ln s2) ≤ v6)) (
    some (.inl 1)) (
    chk (0 ≤ v6 ∧ v6 < ln s2) <|
    lt ((cmp_Compare_int (gi s1 v6) (gi s2 v6)) != 0) fun x21 =>
    cond x21 (
    some (.inl (cmp_Compare_int (gi s1 v6) (gi s2 v6)))) (
    slices_Compare_int_int_L1 m s1 s2 kk (w64 (v6 + 1))))) (
    some (.inr ()))
def slices_Compare_int_int (m : Nat) (s1 : List Int) (s2 : List Int) : Option (Int) :=
  Option.bind (
  slices_Compare_int_int_L1 m s1 s2 m 0) fun (z3 : Sum (Int) (Unit)) => sumK z3 fun s_z3 =>
  cond (decide ((ln s1) < (ln s2))) (
  some (-1)) (
  some 0)
theorem slices_Compare_int_int_w {g_s1 : Gh} {g_s2 : Gh} (M : Av) (m : Nat) (s1 : List Int) (s2 : List Int) (r : Int) (hm : slices_Compare_int_int m s1 s2 = some r) (w : World) (hS : S0 M [Ent.im (tI .i64) s1 g_s1, Ent.im (tI .i64) s2 g_s2] w) : Calls Tryd.prog 57 ⟨[.slice g_s1.a s1.length g_s1.c, .slice g_s2.a s2.length g_s2.c]⟩ w (fun e w' => ∃ v, e = .returned v ∧ v = .int .i64 r ∧ SH M (fpl [Ent.im (tI .i64) s1 g_s1, Ent.im (tI .i64) s2 g_s2]) w [] w') := by
 rw [slices_Compare_int_int] at hm
 have hS0 : SH M (fpl [Ent.im (tI .i64) s1 g_s1, Ent.im (tI .i64) s2 g_s2]) w [Ent.im (tI .i64) s1 g_s1, Ent.im (tI .i64) s2 g_s2] w := hS
 generalize hX : fpl [Ent.im (tI .i64) s1 g_s1, Ent.im (tI .i64) s2 g_s2] = X at hS0 ⊢
 clear hS hX
 have hS := hS0
 clear hS0
 refine calls_entryP Tryd.func57 rfl Tryd.ntmps57 rfl fun _ H => ?_
 refine s_reg [] [0, 1] [(0, [], .slice g_s1.a s1.length g_s1.c), (1, [], .slice g_s2.a s2.length g_s2.c)] [] H (by kernel_rfl) trivial fun _ wd1 H2 hb => ?_
 clear H
 replace hS := hS.below hb
 clear hb
 obtain ⟨z3, hz, hm_z3⟩ := bindE hm
 refine w_cut (fun a' w' => ∃ s_z3 : Unit, z3 = Sum.inr s_z3 ∧ Fr 36 [(0, [], .slice g_s1.a s1.length g_s1.c), (1, [], .slice g_s2.a s2.length g_s2.c)] a' ∧ SH M X w [Ent.im (tI .i64) s1 g_s1, Ent.im (tI .i64) s2 g_s2] w') ?_ ?_
 ·replace hm := hz
  refine s_reg [] [0, 1, 9, 10, 11] [(0, [], .slice g_s1.a s1.length g_s1.c), (1, [], .slice g_s2.a s2.length g_s2.c), (9, [], .slice g_s1.a s1.length g_s1.c), (10, [], .int .i64 (ln s1)), (11, [], .int .i64 0)] [] H2 (by kernel_rfl) trivial fun _ wd4 H5 hb => ?_
  clear H2
  replace hS := hS.below hb
  clear hb
  refine w_block ?_
  refine w_loop (fun kk a' w' => ∃ (v6 : Int), slices_Compare_int_int_L1 m s1 s2 kk v6 = some _ ∧ Fr 36 [(0, [], .slice g_s1.a s1.length g_s1.c), (1, [], .slice g_s2.a s2.length g_s2.c), (9, [], .slice g_s1.a s1.length g_s1.c), (10, [], .int .i64 (ln s1)), (11, [], .int .i64 v6)] a' ∧ SH M X w [Ent.im (tI .i64) s1 g_s1, Ent.im (tI .i64) s2 g_s2] w') ⟨_, 0, hm, FrG.keep (ks := [0, 1, 9, 10, 11]) H5 (by kernel_rfl), hS⟩ ?_
  clear hm H5 hS
  rintro kk _ wd31 ⟨v6, hm, H, hS⟩
  cases kk with
  | zero => exact noneE hm
  | succ kk =>
   rw [slices_Compare_int_int_L1] at hm
   refine s_reg [] [0, 1, 9, 10, 11, 12] [(0, [], .slice g_s1.a s1.length g_s1.c), (1, [], .slice g_s2.a s2.length g_s2.c), (9, [], .slice g_s1.a s1.length g_s1.c), (10, [], .int .i64 (ln s1)), (11, [], .int .i64 v6), (12, [], .bool (decide (v6 < (ln s1))))] [] H (by kernel_rfl) trivial fun _ wd7 H8 hb => ?_
   clear H
   replace hS := hS.below hb
   clear hb
   refine w_seq ?_
   refine w_if H8 rfl (fun hc => ?_) (fun hc => ?c30)
   case c30 =>
    replace hm := bF hc hm
    refine w_exit rfl ?_
    obtain rfl := someE hm
    exact ⟨_, rfl, FrG.keep (ks := [0, 1]) H8 (by kernel_rfl), hS⟩
   replace hm := bT hc hm
   refine w_skip ?_
   refine w_seq ?_
   refine w_block ?_
   obtain ⟨ho9, hm⟩ := chkE hm
   refine s_reg [(.int .i64 (gi s1 v6))] [0, 1, 5, 6, 9, 10, 11] [(0, [], .slice g_s1.a s1.length g_s1.c), (1, [], .slice g_s2.a s2.length g_s2.c), (5, [], .int .i64 v6), (6, [], .int .i64 (gi s1 v6)), (9, [], .slice g_s1.a s1.length g_s1.c), (10, [], .int .i64 (ln s1)), (11, [], .int .i64 v6)] [fun _ => oka g_s1.a ∧ 0 ≤ v6 ∧ v6 < ln s1, fun wz => V.at1 ⟨ab g_s1.a, ao g_s1.a + (v6).toNat * 1, none⟩ (.int .i64 (gi s1 v6)) wz] H8 (by kernel_rfl) ⟨((hS.im 0 rfl).oki ho9), ((hS.im 0 rfl).at1 ho9 0 rfl), trivial⟩ fun _ wd10 H11 hb => ?_
   clear H8
   replace hS := hS.below hb
   clear hb
   refine w_seq ?_
   refine s_reg [] [0, 1, 5, 6, 9, 10, 11, 19] [(0, [], .slice g_s1.a s1.length g_s1.c), (1, [], .slice g_s2.a s2.length g_s2.c), (5, [], .int .i64 v6), (6, [], .int .i64 (gi s1 v6)), (9, [], .slice g_s1.a s1.length g_s1.c), (10, [], .int .i64 (ln s1)), (11, [], .int .i64 v6), (19, [], .bool (decide ((ln s2) ≤ v6)))] [] H11 (by kernel_rfl) trivial fun _ wd12 H13 hb => ?_
   clear H11
   replace hS := hS.below hb
   clear hb
   refine w_if H13 rfl (fun hc => ?c29) (fun hc => ?_)
   case c29 =>
    replace hm := bT hc hm
    refine s_reg [] [4] [(4, [], .int .i64 1)] [] H13 (by kernel_rfl) trivial fun _ wd14 H15 hb => ?_
    clear H13
    replace hS := hS.below hb
    clear hb
    refine w_ret ?_
    obtain rfl := someE hm
    have hm := hm_z3
    obtain rfl := someE hm
    exact retR1 H15 rfl rfl ⟨_, rfl, rfl, (hS.sel [] rfl)⟩
   replace hm := bF hc hm
   refine w_skip ?_
   obtain ⟨ho16, hm⟩ := chkE hm
   refine s_reg [(.int .i64 (gi s2 v6))] [0, 1, 6, 7, 9, 10, 11] [(0, [], .slice g_s1.a s1.length g_s1.c), (1, [], .slice g_s2.a s2.length g_s2.c), (6, [], .int .i64 (gi s1 v6)), (7, [], .int .i64 (gi s2 v6)), (9, [], .slice g_s1.a s1.length g_s1.c), (10, [], .int .i64 (ln s1)), (11, [], .int .i64 v6)] [fun _ => oka g_s2.a ∧ 0 ≤ v6 ∧ v6 < ln s2, fun wz => V.at1 ⟨ab g_s2.a, ao g_s2.a + (v6).toNat * 1, none⟩ (.int .i64 (gi s2 v6)) wz] H13 (by kernel_rfl) ⟨((hS.im 1 rfl).oki ho16), ((hS.im 1 rfl).at1 ho16 0 rfl), trivial⟩ fun _ wd17 H18 hb => ?_
   clear H13
   replace hS := hS.below hb
   clear hb
   refine s_reg [(.int .i64 (cmp_Compare_int (gi s1 v6) (gi s2 v6)))] [0, 1, 8, 9, 10, 11] [(0, [], .slice g_s1.a s1.length g_s1.c), (1, [], .slice g_s2.a s2.length g_s2.c), (8, [], .int .i64 (cmp_Compare_int (gi s1 v6) (gi s2 v6))), (9, [], .slice g_s1.a s1.length g_s1.c), (10, [], .int .i64 (ln s1)), (11, [], .int .i64 v6)] [fun wz => RetB Tryd.prog 75 ⟨[.int .i64 (gi s1 v6), .int .i64 (gi s2 v6)]⟩ (.int .i64 (cmp_Compare_int (gi s1 v6) (gi s2 v6))) wz] H18 (by kernel_rfl) ⟨((cmp_Compare_int_ok _ _).b), trivial⟩ fun _ wd19 H20 hb => ?_
   clear H18
   replace hS := hS.below hb
   clear hb
   obtain ⟨x21, hx21, hm⟩ := letE hm
   refine s_reg [] [0, 1, 8, 9, 10, 11, 28] [(0, [], .slice g_s1.a s1.length g_s1.c), (1, [], .slice g_s2.a s2.length g_s2.c), (8, [], .int .i64 (cmp_Compare_int (gi s1 v6) (gi s2 v6))), (9, [], .slice g_s1.a s1.length g_s1.c), (10, [], .int .i64 (ln s1)), (11, [], .int .i64 v6), (28, [], .bool x21)] [] H20 (by subst hx21; kernel_rfl) trivial fun _ wd22 H23 hb => ?_
   clear H20
   replace hS := hS.below hb
   clear hb
   refine w_if H23 rfl (fun hc => ?_) (fun hc => ?c28)
   case c28 =>
    replace hm := bF hc hm
    refine w_skip ?_
    refine w_reg [] [0, 1, 9, 10, 11] [(0, [], .slice g_s1.a s1.length g_s1.c), (1, [], .slice g_s2.a s2.length g_s2.c), (9, [], .slice g_s1.a s1.length g_s1.c), (10, [], .int .i64 (ln s1)), (11, [], .int .i64 (w64 (v6 + 1)))] [] H23 (by kernel_rfl) trivial fun _ wd26 H27 hb => ?_
    clear H23
    replace hS := hS.below hb
    clear hb
    exact ⟨_, Nat.lt_succ_self _, w64 (v6 + 1), hm, FrG.keep (ks := [0, 1, 9, 10, 11]) H27 (by kernel_rfl), hS⟩
   replace hm := bT hc hm
   refine s_reg [] [4] [(4, [], .int .i64 (cmp_Compare_int (gi s1 v6) (gi s2 v6)))] [] H23 (by kernel_rfl) trivial fun _ wd24 H25 hb => ?_
   clear H23
   replace hS := hS.below hb
   clear hb
   refine w_ret ?_
   obtain rfl := someE hm
   have hm := hm_z3
   obtain rfl := someE hm
   exact retR1 H25 rfl rfl ⟨_, rfl, rfl, (hS.sel [] rfl)⟩
 ·rintro _ wd39 ⟨s_z3, hz, H, hS⟩
  subst hz
  replace hm := sumR hm_z3
  refine w_seq ?_
  refine s_reg [] [35] [(35, [], .bool (decide ((ln s1) < (ln s2))))] [] H (by kernel_rfl) trivial fun _ wd32 H33 hb => ?_
  clear H
  replace hS := hS.below hb
  clear hb
  replace hS : SH M X w [] _ := hS.sel [] rfl
  refine w_if H33 rfl (fun hc => ?c38) (fun hc => ?_)
  case c38 =>
   replace hm := bT hc hm
   refine s_reg [] [4] [(4, [], .int .i64 (-1))] [] H33 (by kernel_rfl) trivial fun _ wd34 H35 hb => ?_
   clear H33
   replace hS := hS.below hb
   clear hb
   refine w_ret ?_
   obtain rfl := someE hm
   exact retR1 H35 rfl rfl ⟨_, rfl, rfl, (hS.sel [] rfl)⟩
  replace hm := bF hc hm
  refine w_skip ?_
  refine s_reg [] [4] [(4, [], .int .i64 0)] [] H33 (by kernel_rfl) trivial fun _ wd36 H37 hb => ?_
  clear H33
  replace hS := hS.below hb
  clear hb
  refine w_ret ?_
  obtain rfl := someE hm
  exact retR1 H37 rfl rfl ⟨_, rfl, rfl, (hS.sel [] rfl)⟩
theorem slices_Compare_int_int_ok {g_s1 : Gh} {g_s2 : Gh} (m : Nat) (s1 : List Int) (s2 : List Int) (r : Int) (hm : slices_Compare_int_int m s1 s2 = some r) (w : World) (hL : S0 F0 [Ent.im (tI .i64) s1 g_s1, Ent.im (tI .i64) s2 g_s2] w ∧ fpl [Ent.im (tI .i64) s1 g_s1, Ent.im (tI .i64) s2 g_s2] = []) : RetB Tryd.prog 57 ⟨[.slice g_s1.a s1.length g_s1.c, .slice g_s2.a s2.length g_s2.c]⟩ (.int .i64 r) w := retB_of hL (Tryd.call57 _) (fun w' h => slices_Compare_int_int_w F0 m   s1 s2 r hm w' h)

def sorter_compare (m : Nat) (a_ : TDeclared) (b_ : TDeclared) : Option (Int) :=
  lt (sorter_rank a_) fun y10 =>
  lt (sorter_rank b_) fun y13 =>
  Option.bind (slices_Compare_int_int m y10 y13) fun y16 =>
  some y16
theorem sorter_compare_w {g_a__0 : Gh} {g_b__0 : Gh} (M : Av) (m : Nat) (a_ : TDeclared) (b_ : TDeclared) (r : Int) (hm : sorter_compare m a_ b_ = some r) (w : World) (hS : S0 M [Ent.im tyValue a_.Long.Value g_a__0, Ent.im tyValue b_.Long.Value g_b__0] w) : Calls Tryd.prog 39 ⟨[.agg ⟨[.string ⟨⟨a_.Long.Name⟩⟩, .slice g_a__0.a a_.Long.Value.length g_a__0.c, .string ⟨⟨a_.Long.Whole⟩⟩, .bool a_.Important, .int .u8 a_.Origin, .bool a_.Attached, .int .i64 a_.Layer, .int .i64 a_.Weight.e0, .int .i64 a_.Weight.e1, .int .i64 a_.Weight.e2, .int .i64 a_.Order]⟩, .agg ⟨[.string ⟨⟨b_.Long.Name⟩⟩, .slice g_b__0.a b_.Long.Value.length g_b__0.c, .string ⟨⟨b_.Long.Whole⟩⟩, .bool b_.Important, .int .u8 b_.Origin, .bool b_.Attached, .int .i64 b_.Layer, .int .i64 b_.Weight.e0, .int .i64 b_.Weight.e1, .int .i64 b_.Weight.e2, .int .i64 b_.Order]⟩]⟩ w (fun e w' => ∃ v, e = .returned v ∧ v = .int .i64 r ∧ SH M (fpl [Ent.im tyValue a_.Long.Value g_a__0, Ent.im tyValue b_.Long.Value g_b__0]) w [] w') := by
 rw [sorter_compare] at hm
 have hS0 : SH M (fpl [Ent.im tyValue a_.Long.Value g_a__0, Ent.im tyValue b_.Long.Value g_b__0]) w [Ent.im tyValue a_.Long.Value g_a__0, Ent.im tyValue b_.Long.Value g_b__0] w := hS
 generalize hX : fpl [Ent.im tyValue a_.Long.Value g_a__0, Ent.im tyValue b_.Long.Value g_b__0] = X at hS0 ⊢
 clear hS hX
 have hS := hS0
 clear hS0
 refine calls_entryP Tryd.func39 rfl Tryd.ntmps39 rfl fun _ H => ?_
 refine w_seq ?_
 refine wl_start ?_
 have hd := hS.hand [] [0, 1] rfl rfl
 refine m_stp [2, 1] [(1, [], .agg ⟨[.string ⟨⟨b_.Long.Name⟩⟩, .slice g_b__0.a b_.Long.Value.length g_b__0.c, .string ⟨⟨b_.Long.Whole⟩⟩, .bool b_.Important, .int .u8 b_.Origin, .bool b_.Attached, .int .i64 b_.Layer, .int .i64 b_.Weight.e0, .int .i64 b_.Weight.e1, .int .i64 b_.Weight.e2, .int .i64 b_.Order]⟩)] H rfl rfl rfl rfl (o_box [.string ⟨⟨a_.Long.Name⟩⟩, .slice g_a__0.a a_.Long.Value.length g_a__0.c, .string ⟨⟨a_.Long.Whole⟩⟩, .bool a_.Important, .int .u8 a_.Origin, .bool a_.Attached, .int .i64 a_.Layer, .int .i64 a_.Weight.e0, .int .i64 a_.Weight.e1, .int .i64 a_.Weight.e2, .int .i64 a_.Order] H hd rfl rfl) (fun _ => rfl) fun _ wd2 v H3 hq => ?_
 clear H hd
 obtain ⟨b1, rfl, hq⟩ := hq
 replace hS : SH M X w [Ent.blk b1 [.string ⟨⟨a_.Long.Name⟩⟩, .slice g_a__0.a a_.Long.Value.length g_a__0.c, .string ⟨⟨a_.Long.Whole⟩⟩, .bool a_.Important, .int .u8 a_.Origin, .bool a_.Attached, .int .i64 a_.Layer, .int .i64 a_.Weight.e0, .int .i64 a_.Weight.e1, .int .i64 a_.Weight.e2, .int .i64 a_.Order], Ent.im tyValue a_.Long.Value g_a__0, Ent.im tyValue b_.Long.Value g_b__0] _ := hS.join [] [0, 1] rfl rfl hq
 clear hq
 have hd := hS.hand [] [0, 1, 2] rfl rfl
 refine m_stp [3, 2] [(2, [], .pointer (some ⟨b1, 0, none⟩))] H3 rfl rfl rfl rfl (o_box [.string ⟨⟨b_.Long.Name⟩⟩, .slice g_b__0.a b_.Long.Value.length g_b__0.c, .string ⟨⟨b_.Long.Whole⟩⟩, .bool b_.Important, .int .u8 b_.Origin, .bool b_.Attached, .int .i64 b_.Layer, .int .i64 b_.Weight.e0, .int .i64 b_.Weight.e1, .int .i64 b_.Weight.e2, .int .i64 b_.Order] H3 hd rfl rfl) (fun _ => rfl) fun _ wd5 v H6 hq => ?_
 clear H3 hd
 obtain ⟨b4, rfl, hq⟩ := hq
 replace hS : SH M X w [Ent.blk b4 [.string ⟨⟨b_.Long.Name⟩⟩, .slice g_b__0.a b_.Long.Value.length g_b__0.c, .string ⟨⟨b_.Long.Whole⟩⟩, .bool b_.Important, .int .u8 b_.Origin, .bool b_.Attached, .int .i64 b_.Layer, .int .i64 b_.Weight.e0, .int .i64 b_.Weight.e1, .int .i64 b_.Weight.e2, .int .i64 b_.Order], Ent.blk b1 [.string ⟨⟨a_.Long.Name⟩⟩, .slice g_a__0.a a_.Long.Value.length g_a__0.c, .string ⟨⟨a_.Long.Whole⟩⟩, .bool a_.Important, .int .u8 a_.Origin, .bool a_.Attached, .int .i64 a_.Layer, .int .i64 a_.Weight.e0, .int .i64 a_.Weight.e1, .int .i64 a_.Weight.e2, .int .i64 a_.Order], Ent.im tyValue a_.Long.Value g_a__0, Ent.im tyValue b_.Long.Value g_b__0] _ := hS.join [] [0, 1, 2] rfl rfl hq
 clear hq
 refine wl_batch 2 3 [] [2, 3] [(2, [], .pointer (some ⟨b1, 0, none⟩)), (3, [], .pointer (some ⟨b4, 0, none⟩))] [] H6 (by decide) (by kernel_rfl) trivial fun _ wd7 H8 hb => ?_
 clear H6
 replace hS := hS.below hb
 clear hb
 refine wl_end rfl ?_
 obtain ⟨y10, hy10, hm⟩ := letE hm
 obtain ⟨y13, hy13, hm⟩ := letE hm
 obtain ⟨y16, hy16, hm⟩ := bindE hm
 refine s_drawS (base := [(2, [], .pointer (some ⟨b1, 0, none⟩)), (3, [], .pointer (some ⟨b4, 0, none⟩))]) (L := [Ent.blk b4 [.string ⟨⟨b_.Long.Name⟩⟩, .slice g_b__0.a b_.Long.Value.length g_b__0.c, .string ⟨⟨b_.Long.Whole⟩⟩, .bool b_.Important, .int .u8 b_.Origin, .bool b_.Attached, .int .i64 b_.Layer, .int .i64 b_.Weight.e0, .int .i64 b_.Weight.e1, .int .i64 b_.Weight.e2, .int .i64 b_.Order], Ent.blk b1 [.string ⟨⟨a_.Long.Name⟩⟩, .slice g_a__0.a a_.Long.Value.length g_a__0.c, .string ⟨⟨a_.Long.Whole⟩⟩, .bool a_.Important, .int .u8 a_.Origin, .bool a_.Attached, .int .i64 a_.Layer, .int .i64 a_.Weight.e0, .int .i64 a_.Weight.e1, .int .i64 a_.Weight.e2, .int .i64 a_.Order], Ent.im tyValue a_.Long.Value g_a__0, Ent.im tyValue b_.Long.Value g_b__0]) 6 4 (fun yg9 => [.agg ⟨[.string ⟨⟨a_.Long.Name⟩⟩, .slice g_a__0.a a_.Long.Value.length g_a__0.c, .string ⟨⟨a_.Long.Whole⟩⟩, .bool a_.Important, .int .u8 a_.Origin, .bool a_.Attached, .int .i64 a_.Layer, .int .i64 a_.Weight.e0, .int .i64 a_.Weight.e1, .int .i64 a_.Weight.e2, .int .i64 a_.Order]⟩, .slice (yg9 1 0).a y10.length (yg9 1 0).c, .agg ⟨[.string ⟨⟨b_.Long.Name⟩⟩, .slice g_b__0.a b_.Long.Value.length g_b__0.c, .string ⟨⟨b_.Long.Whole⟩⟩, .bool b_.Important, .int .u8 b_.Origin, .bool b_.Attached, .int .i64 b_.Layer, .int .i64 b_.Weight.e0, .int .i64 b_.Weight.e1, .int .i64 b_.Weight.e2, .int .i64 b_.Order]⟩, .slice (yg9 3 0).a y13.length (yg9 3 0).c, .int .i64 y16, .int .i64 y16]) (fun yg9 => [[], [Ent.own 3 (tI .i64) y10 (yg9 1 0)], [], [Ent.own 3 (tI .i64) y13 (yg9 3 0)], [], []]) [[7, 8], [8], [6, 9], [9], [1, 3], []] [[], [], [], [], [], []] [[0], [0, 1], [2], [2, 3], [0, 1, 2, 3, 4], [0, 1, 2, 3, 4, 5]] [] (FrG.keep (ks := [2, 3]) H8 (by kernel_rfl)) (fun _ _ h => by cases h) (by kernel_rfl) hS (by kernel_rfl) rfl rfl (by kernel_rfl) (by kernel_rfl) (by kernel_rfl) (gd_none (by kernel_rfl) _ _) ?hloc_yg9 ?hstep_yg9 fun _ wd17 yg9 H18 hv hS => ?hK_yg9
 case hloc_yg9 => exact ⟨(fun _ _ _ _ => ⟨rfl, rfl⟩), (fun yg9 i g hi => by have h1 : updC yg9 i g 1 = yg9 1 := updC_out hi rfl; exact ⟨(show (.slice ((updC yg9 i g) 1 0).a y10.length ((updC yg9 i g) 1 0).c : Value) = .slice (yg9 1 0).a y10.length (yg9 1 0).c by simp only [h1]), (show ([Ent.own 3 (tI .i64) y10 ((updC yg9 i g) 1 0)] : List Ent) = [Ent.own 3 (tI .i64) y10 (yg9 1 0)] by simp only [h1])⟩), (fun _ _ _ _ => ⟨rfl, rfl⟩), (fun yg9 i g hi => by have h3 : updC yg9 i g 3 = yg9 3 := updC_out hi rfl; exact ⟨(show (.slice ((updC yg9 i g) 3 0).a y13.length ((updC yg9 i g) 3 0).c : Value) = .slice (yg9 3 0).a y13.length (yg9 3 0).c by simp only [h3]), (show ([Ent.own 3 (tI .i64) y13 ((updC yg9 i g) 3 0)] : List Ent) = [Ent.own 3 (tI .i64) y13 (yg9 3 0)] by simp only [h3])⟩), (fun _ _ _ _ => ⟨rfl, rfl⟩), (fun _ _ _ _ => ⟨rfl, rfl⟩), trivial⟩
 case hstep_yg9 =>
  refine ⟨?_, ?_, ?_, ?_, ?_, ?_, trivial⟩
  ·intro o ho a w yg9 M Hb hv hO hS0
   obtain rfl := Option.some.inj ho
   have H : Fr 10 ([] ++ [(2, [], .pointer (some ⟨b1, 0, none⟩)), (3, [], .pointer (some ⟨b4, 0, none⟩))]) _ := Hb
   obtain ⟨X, hX⟩ : ∃ X, X = fpl [Ent.blk b1 [.string ⟨⟨a_.Long.Name⟩⟩, .slice g_a__0.a a_.Long.Value.length g_a__0.c, .string ⟨⟨a_.Long.Whole⟩⟩, .bool a_.Important, .int .u8 a_.Origin, .bool a_.Attached, .int .i64 a_.Layer, .int .i64 a_.Weight.e0, .int .i64 a_.Weight.e1, .int .i64 a_.Weight.e2, .int .i64 a_.Order], Ent.im tyValue a_.Long.Value g_a__0] := ⟨_, rfl⟩
   have hS : SH M X w [Ent.blk b1 [.string ⟨⟨a_.Long.Name⟩⟩, .slice g_a__0.a a_.Long.Value.length g_a__0.c, .string ⟨⟨a_.Long.Whole⟩⟩, .bool a_.Important, .int .u8 a_.Origin, .bool a_.Attached, .int .i64 a_.Layer, .int .i64 a_.Weight.e0, .int .i64 a_.Weight.e1, .int .i64 a_.Weight.e2, .int .i64 a_.Order], Ent.im tyValue a_.Long.Value g_a__0] w := by rw [hX]; exact hS0
   refine Stp.mono (o_evs [(.agg ⟨[.string ⟨⟨a_.Long.Name⟩⟩, .slice g_a__0.a a_.Long.Value.length g_a__0.c, .string ⟨⟨a_.Long.Whole⟩⟩, .bool a_.Important, .int .u8 a_.Origin, .bool a_.Attached, .int .i64 a_.Layer, .int .i64 a_.Weight.e0, .int .i64 a_.Weight.e1, .int .i64 a_.Weight.e2, .int .i64 a_.Order]⟩)] (.agg ⟨[.string ⟨⟨a_.Long.Name⟩⟩, .slice g_a__0.a a_.Long.Value.length g_a__0.c, .string ⟨⟨a_.Long.Whole⟩⟩, .bool a_.Important, .int .u8 a_.Origin, .bool a_.Attached, .int .i64 a_.Layer, .int .i64 a_.Weight.e0, .int .i64 a_.Weight.e1, .int .i64 a_.Weight.e2, .int .i64 a_.Order]⟩) (some (fun wz => V.atN b1 0 [.string ⟨⟨a_.Long.Name⟩⟩, .slice g_a__0.a a_.Long.Value.length g_a__0.c, .string ⟨⟨a_.Long.Whole⟩⟩, .bool a_.Important, .int .u8 a_.Origin, .bool a_.Attached, .int .i64 a_.Layer, .int .i64 a_.Weight.e0, .int .i64 a_.Weight.e1, .int .i64 a_.Weight.e2, .int .i64 a_.Order] 0 wz)) [] H rfl (by kernel_rfl) (fun q e => by cases e; exact ((hS.bk 0 rfl).atD rfl))) ?_
   rintro v w2 ⟨rfl, hq⟩
   replace hS : SH M X w [Ent.blk b1 [.string ⟨⟨a_.Long.Name⟩⟩, .slice g_a__0.a a_.Long.Value.length g_a__0.c, .string ⟨⟨a_.Long.Whole⟩⟩, .bool a_.Important, .int .u8 a_.Origin, .bool a_.Attached, .int .i64 a_.Layer, .int .i64 a_.Weight.e0, .int .i64 a_.Weight.e1, .int .i64 a_.Weight.e2, .int .i64 a_.Order], Ent.im tyValue a_.Long.Value g_a__0] _ := hS.below hq.below
   rw [hX] at hS
   exact ⟨gL [], fun _ _ => rfl, hS.sel [0, 1] rfl⟩
  ·intro o ho a w yg9 M Hb hv hO hS0
   obtain rfl := Option.some.inj ho
   have H : Fr 10 ([(5, [], .agg ⟨[.string ⟨⟨a_.Long.Name⟩⟩, .slice g_a__0.a a_.Long.Value.length g_a__0.c, .string ⟨⟨a_.Long.Whole⟩⟩, .bool a_.Important, .int .u8 a_.Origin, .bool a_.Attached, .int .i64 a_.Layer, .int .i64 a_.Weight.e0, .int .i64 a_.Weight.e1, .int .i64 a_.Weight.e2, .int .i64 a_.Order]⟩)] ++ [(2, [], .pointer (some ⟨b1, 0, none⟩)), (3, [], .pointer (some ⟨b4, 0, none⟩))]) _ := (Hb).add (hv 0 (by decide) (by decide) 5 rfl)
   obtain ⟨X, hX⟩ : ∃ X, X = fpl [Ent.im tyValue a_.Long.Value g_a__0] := ⟨_, rfl⟩
   have hS : SH M X w [Ent.im tyValue a_.Long.Value g_a__0] w := by rw [hX]; exact hS0
   have hd := hS.hand [0] [0] rfl rfl
   refine Stp.mono (o_callx H rfl rfl (sorter_rank_ok (g_d__0 := g_a__0) _ _ hy10.symm _ _ hd)) ?_
   rintro v w2 hq
   obtain ⟨g11, rfl, hq⟩ := hq
   replace hS : SH M X w [Ent.own 3 (tI .i64) y10 g11, Ent.im tyValue a_.Long.Value g_a__0] _ := hS.join [0] [0] rfl rfl hq
   clear hq
   rw [hX] at hS
   exact ⟨gL [g11], fun _ _ => rfl, hS.sel [0, 1] rfl⟩
  ·intro o ho a w yg9 M Hb hv hO hS0
   obtain rfl := Option.some.inj ho
   have H : Fr 10 ([] ++ [(2, [], .pointer (some ⟨b1, 0, none⟩)), (3, [], .pointer (some ⟨b4, 0, none⟩))]) _ := Hb
   obtain ⟨X, hX⟩ : ∃ X, X = fpl [Ent.blk b4 [.string ⟨⟨b_.Long.Name⟩⟩, .slice g_b__0.a b_.Long.Value.length g_b__0.c, .string ⟨⟨b_.Long.Whole⟩⟩, .bool b_.Important, .int .u8 b_.Origin, .bool b_.Attached, .int .i64 b_.Layer, .int .i64 b_.Weight.e0, .int .i64 b_.Weight.e1, .int .i64 b_.Weight.e2, .int .i64 b_.Order], Ent.im tyValue b_.Long.Value g_b__0] := ⟨_, rfl⟩
   have hS : SH M X w [Ent.blk b4 [.string ⟨⟨b_.Long.Name⟩⟩, .slice g_b__0.a b_.Long.Value.length g_b__0.c, .string ⟨⟨b_.Long.Whole⟩⟩, .bool b_.Important, .int .u8 b_.Origin, .bool b_.Attached, .int .i64 b_.Layer, .int .i64 b_.Weight.e0, .int .i64 b_.Weight.e1, .int .i64 b_.Weight.e2, .int .i64 b_.Order], Ent.im tyValue b_.Long.Value g_b__0] w := by rw [hX]; exact hS0
   refine Stp.mono (o_evs [(.agg ⟨[.string ⟨⟨b_.Long.Name⟩⟩, .slice g_b__0.a b_.Long.Value.length g_b__0.c, .string ⟨⟨b_.Long.Whole⟩⟩, .bool b_.Important, .int .u8 b_.Origin, .bool b_.Attached, .int .i64 b_.Layer, .int .i64 b_.Weight.e0, .int .i64 b_.Weight.e1, .int .i64 b_.Weight.e2, .int .i64 b_.Order]⟩)] (.agg ⟨[.string ⟨⟨b_.Long.Name⟩⟩, .slice g_b__0.a b_.Long.Value.length g_b__0.c, .string ⟨⟨b_.Long.Whole⟩⟩, .bool b_.Important, .int .u8 b_.Origin, .bool b_.Attached, .int .i64 b_.Layer, .int .i64 b_.Weight.e0, .int .i64 b_.Weight.e1, .int .i64 b_.Weight.e2, .int .i64 b_.Order]⟩) (some (fun wz => V.atN b4 0 [.string ⟨⟨b_.Long.Name⟩⟩, .slice g_b__0.a b_.Long.Value.length g_b__0.c, .string ⟨⟨b_.Long.Whole⟩⟩, .bool b_.Important, .int .u8 b_.Origin, .bool b_.Attached, .int .i64 b_.Layer, .int .i64 b_.Weight.e0, .int .i64 b_.Weight.e1, .int .i64 b_.Weight.e2, .int .i64 b_.Order] 0 wz)) [] H rfl (by kernel_rfl) (fun q e => by cases e; exact ((hS.bk 0 rfl).atD rfl))) ?_
   rintro v w2 ⟨rfl, hq⟩
   replace hS : SH M X w [Ent.blk b4 [.string ⟨⟨b_.Long.Name⟩⟩, .slice g_b__0.a b_.Long.Value.length g_b__0.c, .string ⟨⟨b_.Long.Whole⟩⟩, .bool b_.Important, .int .u8 b_.Origin, .bool b_.Attached, .int .i64 b_.Layer, .int .i64 b_.Weight.e0, .int .i64 b_.Weight.e1, .int .i64 b_.Weight.e2, .int .i64 b_.Order], Ent.im tyValue b_.Long.Value g_b__0] _ := hS.below hq.below
   rw [hX] at hS
   exact ⟨gL [], fun _ _ => rfl, hS.sel [0, 1] rfl⟩
  ·intro o ho a w yg9 M Hb hv hO hS0
   obtain rfl := Option.some.inj ho
   have H : Fr 10 ([(7, [], .agg ⟨[.string ⟨⟨b_.Long.Name⟩⟩, .slice g_b__0.a b_.Long.Value.length g_b__0.c, .string ⟨⟨b_.Long.Whole⟩⟩, .bool b_.Important, .int .u8 b_.Origin, .bool b_.Attached, .int .i64 b_.Layer, .int .i64 b_.Weight.e0, .int .i64 b_.Weight.e1, .int .i64 b_.Weight.e2, .int .i64 b_.Order]⟩)] ++ [(2, [], .pointer (some ⟨b1, 0, none⟩)), (3, [], .pointer (some ⟨b4, 0, none⟩))]) _ := (Hb).add (hv 2 (by decide) (by decide) 7 rfl)
   obtain ⟨X, hX⟩ : ∃ X, X = fpl [Ent.im tyValue b_.Long.Value g_b__0] := ⟨_, rfl⟩
   have hS : SH M X w [Ent.im tyValue b_.Long.Value g_b__0] w := by rw [hX]; exact hS0
   have hd := hS.hand [0] [0] rfl rfl
   refine Stp.mono (o_callx H rfl rfl (sorter_rank_ok (g_d__0 := g_b__0) _ _ hy13.symm _ _ hd)) ?_
   rintro v w2 hq
   obtain ⟨g14, rfl, hq⟩ := hq
   replace hS : SH M X w [Ent.own 3 (tI .i64) y13 g14, Ent.im tyValue b_.Long.Value g_b__0] _ := hS.join [0] [0] rfl rfl hq
   clear hq
   rw [hX] at hS
   exact ⟨gL [g14], fun _ _ => rfl, hS.sel [0, 1] rfl⟩
  ·intro o ho a w yg9 M Hb hv hO hS0
   obtain rfl := Option.some.inj ho
   have H : Fr 10 ([(8, [], .slice (yg9 3 0).a y13.length (yg9 3 0).c), (6, [], .slice (yg9 1 0).a y10.length (yg9 1 0).c)] ++ [(2, [], .pointer (some ⟨b1, 0, none⟩)), (3, [], .pointer (some ⟨b4, 0, none⟩))]) _ := ((Hb).add (hv 1 (by decide) (by decide) 6 rfl)).add (hv 3 (by decide) (by decide) 8 rfl)
   obtain ⟨X, hX⟩ : ∃ X, X = fpl [Ent.own 3 (tI .i64) y10 (yg9 1 0), Ent.own 3 (tI .i64) y13 (yg9 3 0)] := ⟨_, rfl⟩
   have hS : SH M X w [Ent.own 3 (tI .i64) y10 (yg9 1 0), Ent.own 3 (tI .i64) y13 (yg9 3 0)] w := by rw [hX]; exact hS0
   refine Stp.mono (o_evs [(.int .i64 y16)] (.int .i64 y16) (some (fun wz => RetB Tryd.prog 57 ⟨[.slice (yg9 1 0).a y10.length (yg9 1 0).c, .slice (yg9 3 0).a y13.length (yg9 3 0).c]⟩ (.int .i64 y16) wz)) [] H rfl (by kernel_rfl) (fun q e => by cases e; exact (slices_Compare_int_int_ok (g_s1 := (yg9 1 0)) (g_s2 := (yg9 3 0)) m _ _ _ hy16 _ (s0im (s0im s0nil (hS.osl 1 rfl)) (hS.osl 0 rfl))))) ?_
   rintro v w2 ⟨rfl, hq⟩
   replace hS : SH M X w [Ent.own 3 (tI .i64) y10 (yg9 1 0), Ent.own 3 (tI .i64) y13 (yg9 3 0)] _ := hS.below hq.below
   rw [hX] at hS
   exact ⟨gL [], fun _ _ => rfl, hS.sel [0, 1] rfl⟩
  ·intro o ho a w yg9 M Hb hv hO hS0
   obtain rfl := Option.some.inj ho
   have H : Fr 10 ([(9, [], .int .i64 y16)] ++ [(2, [], .pointer (some ⟨b1, 0, none⟩)), (3, [], .pointer (some ⟨b4, 0, none⟩))]) _ := (Hb).add (hv 4 (by decide) (by decide) 9 rfl)
   obtain ⟨X, hX⟩ : ∃ X, X = fpl [] := ⟨_, rfl⟩
   have hS : SH M X w [] w := by rw [hX]; exact hS0
   refine Stp.mono (o_evs [] (.int .i64 y16) none [] H rfl (by kernel_rfl) (fun q e => by cases e)) ?_
   rintro v w2 ⟨rfl, hq⟩
   replace hS : SH M X w [] _ := hS.below hq.below
   rw [hX] at hS
   exact ⟨gL [], fun _ _ => rfl, hS.sel [] rfl⟩
 have H19 : Fr 10 [(4, [], .int .i64 y16)] _ := (FrG.add (FrG.keep (ks := []) H18 (by kernel_rfl)) (hv 5 4 rfl))
 replace hS : SH M X w [Ent.own 3 (tI .i64) y10 (yg9 1 0), Ent.own 3 (tI .i64) y13 (yg9 3 0), Ent.blk b4 [.string ⟨⟨b_.Long.Name⟩⟩, .slice g_b__0.a b_.Long.Value.length g_b__0.c, .string ⟨⟨b_.Long.Whole⟩⟩, .bool b_.Important, .int .u8 b_.Origin, .bool b_.Attached, .int .i64 b_.Layer, .int .i64 b_.Weight.e0, .int .i64 b_.Weight.e1, .int .i64 b_.Weight.e2, .int .i64 b_.Order], Ent.blk b1 [.string ⟨⟨a_.Long.Name⟩⟩, .slice g_a__0.a a_.Long.Value.length g_a__0.c, .string ⟨⟨a_.Long.Whole⟩⟩, .bool a_.Important, .int .u8 a_.Origin, .bool a_.Attached, .int .i64 a_.Layer, .int .i64 a_.Weight.e0, .int .i64 a_.Weight.e1, .int .i64 a_.Weight.e2, .int .i64 a_.Order], Ent.im tyValue a_.Long.Value g_a__0, Ent.im tyValue b_.Long.Value g_b__0] _ := hS
 clear hv H18
 generalize yg9 1 0 = g20 at H19 hS
 generalize yg9 3 0 = g21 at H19 hS
 replace hS : SH M X w [] _ := hS.sel [] rfl
 refine w_ret ?_
 obtain rfl := someE hm
 exact retR1 H19 rfl rfl ⟨_, rfl, rfl, (hS.sel [] rfl)⟩
theorem sorter_compare_ok {g_a__0 : Gh} {g_b__0 : Gh} (m : Nat) (a_ : TDeclared) (b_ : TDeclared) (r : Int) (hm : sorter_compare m a_ b_ = some r) (w : World) (hL : S0 F0 [Ent.im tyValue a_.Long.Value g_a__0, Ent.im tyValue b_.Long.Value g_b__0] w ∧ fpl [Ent.im tyValue a_.Long.Value g_a__0, Ent.im tyValue b_.Long.Value g_b__0] = []) : RetB Tryd.prog 39 ⟨[.agg ⟨[.string ⟨⟨a_.Long.Name⟩⟩, .slice g_a__0.a a_.Long.Value.length g_a__0.c, .string ⟨⟨a_.Long.Whole⟩⟩, .bool a_.Important, .int .u8 a_.Origin, .bool a_.Attached, .int .i64 a_.Layer, .int .i64 a_.Weight.e0, .int .i64 a_.Weight.e1, .int .i64 a_.Weight.e2, .int .i64 a_.Order]⟩, .agg ⟨[.string ⟨⟨b_.Long.Name⟩⟩, .slice g_b__0.a b_.Long.Value.length g_b__0.c, .string ⟨⟨b_.Long.Whole⟩⟩, .bool b_.Important, .int .u8 b_.Origin, .bool b_.Attached, .int .i64 b_.Layer, .int .i64 b_.Weight.e0, .int .i64 b_.Weight.e1, .int .i64 b_.Weight.e2, .int .i64 b_.Order]⟩]⟩ (.int .i64 r) w := retB_of hL (Tryd.call39 _) (fun w' h => sorter_compare_w F0 m   a_ b_ r hm w' h)

def sorter_Before (m : Nat) (a_ : TDeclared) (b_ : TDeclared) : Option (Bool × Int) :=
  Option.bind (sorter_check m ([a_, b_] : List TDeclared)) fun y15 =>
  cond (y15 != 0) (
  some (false, y15)) (
  Option.bind (sorter_compare m a_ b_) fun y22 =>
  some (decide (y22 < 0), 0))
theorem sorter_Before_w {g_a__0 : Gh} {g_b__0 : Gh} (M : Av) (m : Nat) (a_ : TDeclared) (b_ : TDeclared) (r : Bool × Int) (hm : sorter_Before m a_ b_ = some r) (w : World) (hS : S0 M [Ent.im tyValue a_.Long.Value g_a__0, Ent.im tyValue b_.Long.Value g_b__0, gE0] w) : Calls Tryd.prog 23 ⟨[.agg ⟨[.string ⟨⟨a_.Long.Name⟩⟩, .slice g_a__0.a a_.Long.Value.length g_a__0.c, .string ⟨⟨a_.Long.Whole⟩⟩, .bool a_.Important, .int .u8 a_.Origin, .bool a_.Attached, .int .i64 a_.Layer, .int .i64 a_.Weight.e0, .int .i64 a_.Weight.e1, .int .i64 a_.Weight.e2, .int .i64 a_.Order]⟩, .agg ⟨[.string ⟨⟨b_.Long.Name⟩⟩, .slice g_b__0.a b_.Long.Value.length g_b__0.c, .string ⟨⟨b_.Long.Whole⟩⟩, .bool b_.Important, .int .u8 b_.Origin, .bool b_.Attached, .int .i64 b_.Layer, .int .i64 b_.Weight.e0, .int .i64 b_.Weight.e1, .int .i64 b_.Weight.e2, .int .i64 b_.Order]⟩]⟩ w (fun e w' => ∃ v, e = .returned v ∧ v = .tuple ⟨[.bool r.1, .int .i64 r.2]⟩ ∧ SH M (fpl [Ent.im tyValue a_.Long.Value g_a__0, Ent.im tyValue b_.Long.Value g_b__0, gE0]) w [] w') := by
 rw [sorter_Before] at hm
 have hS0 : SH M (fpl [Ent.im tyValue a_.Long.Value g_a__0, Ent.im tyValue b_.Long.Value g_b__0, gE0]) w [Ent.im tyValue a_.Long.Value g_a__0, Ent.im tyValue b_.Long.Value g_b__0, gE0] w := hS
 generalize hX : fpl [Ent.im tyValue a_.Long.Value g_a__0, Ent.im tyValue b_.Long.Value g_b__0, gE0] = X at hS0 ⊢
 clear hS hX
 have hS := hS0
 clear hS0
 refine calls_entryP Tryd.func23 rfl Tryd.ntmps23 rfl fun _ H => ?_
 refine w_seq ?_
 refine wl_start ?_
 have hd := hS.hand [] [0, 1, 2] rfl rfl
 refine m_stp [2, 1] [(1, [], .agg ⟨[.string ⟨⟨b_.Long.Name⟩⟩, .slice g_b__0.a b_.Long.Value.length g_b__0.c, .string ⟨⟨b_.Long.Whole⟩⟩, .bool b_.Important, .int .u8 b_.Origin, .bool b_.Attached, .int .i64 b_.Layer, .int .i64 b_.Weight.e0, .int .i64 b_.Weight.e1, .int .i64 b_.Weight.e2, .int .i64 b_.Order]⟩)] H rfl rfl rfl rfl (o_box [.string ⟨⟨a_.Long.Name⟩⟩, .slice g_a__0.a a_.Long.Value.length g_a__0.c, .string ⟨⟨a_.Long.Whole⟩⟩, .bool a_.Important, .int .u8 a_.Origin, .bool a_.Attached, .int .i64 a_.Layer, .int .i64 a_.Weight.e0, .int .i64 a_.Weight.e1, .int .i64 a_.Weight.e2, .int .i64 a_.Order] H hd rfl rfl) (fun _ => rfl) fun _ wd2 v H3 hq => ?_
 clear H hd
 obtain ⟨b1, rfl, hq⟩ := hq
 replace hS : SH M X w [Ent.blk b1 [.string ⟨⟨a_.Long.Name⟩⟩, .slice g_a__0.a a_.Long.Value.length g_a__0.c, .string ⟨⟨a_.Long.Whole⟩⟩, .bool a_.Important, .int .u8 a_.Origin, .bool a_.Attached, .int .i64 a_.Layer, .int .i64 a_.Weight.e0, .int .i64 a_.Weight.e1, .int .i64 a_.Weight.e2, .int .i64 a_.Order], Ent.im tyValue a_.Long.Value g_a__0, Ent.im tyValue b_.Long.Value g_b__0, gE0] _ := hS.join [] [0, 1, 2] rfl rfl hq
 clear hq
 have hd := hS.hand [] [0, 1, 2, 3] rfl rfl
 refine m_stp [3, 2] [(2, [], .pointer (some ⟨b1, 0, none⟩))] H3 rfl rfl rfl rfl (o_box [.string ⟨⟨b_.Long.Name⟩⟩, .slice g_b__0.a b_.Long.Value.length g_b__0.c, .string ⟨⟨b_.Long.Whole⟩⟩, .bool b_.Important, .int .u8 b_.Origin, .bool b_.Attached, .int .i64 b_.Layer, .int .i64 b_.Weight.e0, .int .i64 b_.Weight.e1, .int .i64 b_.Weight.e2, .int .i64 b_.Order] H3 hd rfl rfl) (fun _ => rfl) fun _ wd5 v H6 hq => ?_
 clear H3 hd
 obtain ⟨b4, rfl, hq⟩ := hq
 replace hS : SH M X w [Ent.blk b4 [.string ⟨⟨b_.Long.Name⟩⟩, .slice g_b__0.a b_.Long.Value.length g_b__0.c, .string ⟨⟨b_.Long.Whole⟩⟩, .bool b_.Important, .int .u8 b_.Origin, .bool b_.Attached, .int .i64 b_.Layer, .int .i64 b_.Weight.e0, .int .i64 b_.Weight.e1, .int .i64 b_.Weight.e2, .int .i64 b_.Order], Ent.blk b1 [.string ⟨⟨a_.Long.Name⟩⟩, .slice g_a__0.a a_.Long.Value.length g_a__0.c, .string ⟨⟨a_.Long.Whole⟩⟩, .bool a_.Important, .int .u8 a_.Origin, .bool a_.Attached, .int .i64 a_.Layer, .int .i64 a_.Weight.e0, .int .i64 a_.Weight.e1, .int .i64 a_.Weight.e2, .int .i64 a_.Order], Ent.im tyValue a_.Long.Value g_a__0, Ent.im tyValue b_.Long.Value g_b__0, gE0] _ := hS.join [] [0, 1, 2, 3] rfl rfl hq
 clear hq
 refine wl_batch 2 4 [] [2, 3] [(2, [], .pointer (some ⟨b1, 0, none⟩)), (3, [], .pointer (some ⟨b4, 0, none⟩))] [] H6 (by decide) (by kernel_rfl) trivial fun _ wd7 H8 hb => ?_
 clear H6
 replace hS := hS.below hb
 clear hb
 refine wl_end rfl ?_
 refine w_seq ?_
 refine w_seq ?_
 refine wl_start ?_
 refine wl_batch 0 2 [(.agg ⟨[.string ⟨⟨a_.Long.Name⟩⟩, .slice g_a__0.a a_.Long.Value.length g_a__0.c, .string ⟨⟨a_.Long.Whole⟩⟩, .bool a_.Important, .int .u8 a_.Origin, .bool a_.Attached, .int .i64 a_.Layer, .int .i64 a_.Weight.e0, .int .i64 a_.Weight.e1, .int .i64 a_.Weight.e2, .int .i64 a_.Order]⟩), (.agg ⟨[.string ⟨⟨b_.Long.Name⟩⟩, .slice g_b__0.a b_.Long.Value.length g_b__0.c, .string ⟨⟨b_.Long.Whole⟩⟩, .bool b_.Important, .int .u8 b_.Origin, .bool b_.Attached, .int .i64 b_.Layer, .int .i64 b_.Weight.e0, .int .i64 b_.Weight.e1, .int .i64 b_.Weight.e2, .int .i64 b_.Order]⟩)] [2, 3, 7, 8] [(2, [], .pointer (some ⟨b1, 0, none⟩)), (3, [], .pointer (some ⟨b4, 0, none⟩)), (7, [], .agg ⟨[.string ⟨⟨a_.Long.Name⟩⟩, .slice g_a__0.a a_.Long.Value.length g_a__0.c, .string ⟨⟨a_.Long.Whole⟩⟩, .bool a_.Important, .int .u8 a_.Origin, .bool a_.Attached, .int .i64 a_.Layer, .int .i64 a_.Weight.e0, .int .i64 a_.Weight.e1, .int .i64 a_.Weight.e2, .int .i64 a_.Order]⟩), (8, [], .agg ⟨[.string ⟨⟨b_.Long.Name⟩⟩, .slice g_b__0.a b_.Long.Value.length g_b__0.c, .string ⟨⟨b_.Long.Whole⟩⟩, .bool b_.Important, .int .u8 b_.Origin, .bool b_.Attached, .int .i64 b_.Layer, .int .i64 b_.Weight.e0, .int .i64 b_.Weight.e1, .int .i64 b_.Weight.e2, .int .i64 b_.Order]⟩)] [fun wz => V.atN b1 0 [.string ⟨⟨a_.Long.Name⟩⟩, .slice g_a__0.a a_.Long.Value.length g_a__0.c, .string ⟨⟨a_.Long.Whole⟩⟩, .bool a_.Important, .int .u8 a_.Origin, .bool a_.Attached, .int .i64 a_.Layer, .int .i64 a_.Weight.e0, .int .i64 a_.Weight.e1, .int .i64 a_.Weight.e2, .int .i64 a_.Order] 0 wz, fun wz => V.atN b4 0 [.string ⟨⟨b_.Long.Name⟩⟩, .slice g_b__0.a b_.Long.Value.length g_b__0.c, .string ⟨⟨b_.Long.Whole⟩⟩, .bool b_.Important, .int .u8 b_.Origin, .bool b_.Attached, .int .i64 b_.Layer, .int .i64 b_.Weight.e0, .int .i64 b_.Weight.e1, .int .i64 b_.Weight.e2, .int .i64 b_.Order] 0 wz] H8 (by decide) (by kernel_rfl) ⟨((hS.bk 1 rfl).atD rfl), ((hS.bk 0 rfl).atD rfl), trivial⟩ fun _ wd9 H10 hb => ?_
 clear H8
 replace hS := hS.below hb
 clear hb
 have hd := hS.hand [2, 3] [0, 1, 2, 3, 4] rfl rfl
 refine m_stp [9, 2, 3] [(2, [], .pointer (some ⟨b1, 0, none⟩)), (3, [], .pointer (some ⟨b4, 0, none⟩))] H10 rfl rfl rfl rfl (o_lit (T := tyDeclared) (E := 31) (zv := .agg ⟨[.string ⟨⟨[]⟩⟩, .slice none 0 0, .string ⟨⟨[]⟩⟩, .bool false, .int .u8 0, .bool false, .int .i64 0, .int .i64 0, .int .i64 0, .int .i64 0, .int .i64 0]⟩) [.string ⟨⟨a_.Long.Name⟩⟩, .slice g_a__0.a a_.Long.Value.length g_a__0.c, .string ⟨⟨a_.Long.Whole⟩⟩, .bool a_.Important, .int .u8 a_.Origin, .bool a_.Attached, .int .i64 a_.Layer, .int .i64 a_.Weight.e0, .int .i64 a_.Weight.e1, .int .i64 a_.Weight.e2, .int .i64 a_.Order, .string ⟨⟨b_.Long.Name⟩⟩, .slice g_b__0.a b_.Long.Value.length g_b__0.c, .string ⟨⟨b_.Long.Whole⟩⟩, .bool b_.Important, .int .u8 b_.Origin, .bool b_.Attached, .int .i64 b_.Layer, .int .i64 b_.Weight.e0, .int .i64 b_.Weight.e1, .int .i64 b_.Weight.e2, .int .i64 b_.Order] ([a_, b_] : List TDeclared) [gL [g_a__0], gL [g_b__0]] _ H10 hd rfl (by kernel_rfl) (by kernel_rfl) (by kernel_rfl) (by kernel_rfl) (by kernel_rfl) (by kernel_rfl) (by kernel_rfl) rfl (InnL.cons (tyDeclared_mk (hd.im 0 rfl)) (InnL.cons (tyDeclared_mk (hd.im 1 rfl)) InnL.nil))) (fun _ => rfl) fun _ wd13 v H14 hq => ?_
 clear H10 hd
 obtain ⟨g11, rfl, hq⟩ := hq
 replace hS : SH M X w [Ent.own 31 tyDeclared ([a_, b_] : List TDeclared) g11, Ent.blk b4 [.string ⟨⟨b_.Long.Name⟩⟩, .slice g_b__0.a b_.Long.Value.length g_b__0.c, .string ⟨⟨b_.Long.Whole⟩⟩, .bool b_.Important, .int .u8 b_.Origin, .bool b_.Attached, .int .i64 b_.Layer, .int .i64 b_.Weight.e0, .int .i64 b_.Weight.e1, .int .i64 b_.Weight.e2, .int .i64 b_.Order], Ent.blk b1 [.string ⟨⟨a_.Long.Name⟩⟩, .slice g_a__0.a a_.Long.Value.length g_a__0.c, .string ⟨⟨a_.Long.Whole⟩⟩, .bool a_.Important, .int .u8 a_.Origin, .bool a_.Attached, .int .i64 a_.Layer, .int .i64 a_.Weight.e0, .int .i64 a_.Weight.e1, .int .i64 a_.Weight.e2, .int .i64 a_.Order], Ent.im tyValue a_.Long.Value g_a__0, Ent.im tyValue b_.Long.Value g_b__0, gE0] _ := hS.join [2, 3] [0, 1, 2, 3, 4] rfl rfl hq
 clear hq
 obtain ⟨y15, hy15, hm⟩ := bindE hm
 refine wl_batch 3 5 [(.int .i64 y15)] [2, 3, 6] [(2, [], .pointer (some ⟨b1, 0, none⟩)), (3, [], .pointer (some ⟨b4, 0, none⟩)), (6, [], .int .i64 y15)] [fun wz => RetB Tryd.prog 38 ⟨[.slice g11.a 2 g11.c]⟩ (.int .i64 y15) wz] H14 (by decide) (by kernel_rfl) ⟨(sorter_check_ok (g_l_ := g11) m _ _ hy15 _ (s0im (s0im s0nil (hS.im 5 rfl)) (hS.osl 0 rfl))), trivial⟩ fun _ wd16 H17 hb => ?_
 clear H14
 replace hS := hS.below hb
 clear hb
 refine wl_end rfl ?_
 replace hS : SH M X w [Ent.blk b4 [.string ⟨⟨b_.Long.Name⟩⟩, .slice g_b__0.a b_.Long.Value.length g_b__0.c, .string ⟨⟨b_.Long.Whole⟩⟩, .bool b_.Important, .int .u8 b_.Origin, .bool b_.Attached, .int .i64 b_.Layer, .int .i64 b_.Weight.e0, .int .i64 b_.Weight.e1, .int .i64 b_.Weight.e2, .int .i64 b_.Order], Ent.blk b1 [.string ⟨⟨a_.Long.Name⟩⟩, .slice g_a__0.a a_.Long.Value.length g_a__0.c, .string ⟨⟨a_.Long.Whole⟩⟩, .bool a_.Important, .int .u8 a_.Origin, .bool a_.Attached, .int .i64 a_.Layer, .int .i64 a_.Weight.e0, .int .i64 a_.Weight.e1, .int .i64 a_.Weight.e2, .int .i64 a_.Order], Ent.im tyValue a_.Long.Value g_a__0, Ent.im tyValue b_.Long.Value g_b__0, gE0] _ := hS.sel [1, 2, 3, 4, 5] rfl
 refine s_reg [] [2, 3, 6, 12] [(2, [], .pointer (some ⟨b1, 0, none⟩)), (3, [], .pointer (some ⟨b4, 0, none⟩)), (6, [], .int .i64 y15), (12, [], .bool (y15 != 0))] [] H17 (by kernel_rfl) trivial fun _ wd18 H19 hb => ?_
 clear H17
 replace hS := hS.below hb
 clear hb
 refine w_if H19 rfl (fun hc => ?c25) (fun hc => ?_)
 case c25 =>
  replace hm := bT hc hm
  refine s_reg [] [4, 5] [(4, [], .bool false), (5, [], .int .i64 y15)] [] H19 (by kernel_rfl) trivial fun _ wd20 H21 hb => ?_
  clear H19
  replace hS := hS.below hb
  clear hb
  replace hS : SH M X w [gE0] _ := hS.sel [4] rfl
  refine w_ret ?_
  obtain rfl := someE hm
  exact retR2 H21 rfl rfl rfl ⟨_, rfl, rfl, (hS.sel [] rfl)⟩
 replace hm := bF hc hm
 refine w_skip ?_
 obtain ⟨y22, hy22, hm⟩ := bindE hm
 refine s_reg [(.agg ⟨[.string ⟨⟨a_.Long.Name⟩⟩, .slice g_a__0.a a_.Long.Value.length g_a__0.c, .string ⟨⟨a_.Long.Whole⟩⟩, .bool a_.Important, .int .u8 a_.Origin, .bool a_.Attached, .int .i64 a_.Layer, .int .i64 a_.Weight.e0, .int .i64 a_.Weight.e1, .int .i64 a_.Weight.e2, .int .i64 a_.Order]⟩), (.agg ⟨[.string ⟨⟨b_.Long.Name⟩⟩, .slice g_b__0.a b_.Long.Value.length g_b__0.c, .string ⟨⟨b_.Long.Whole⟩⟩, .bool b_.Important, .int .u8 b_.Origin, .bool b_.Attached, .int .i64 b_.Layer, .int .i64 b_.Weight.e0, .int .i64 b_.Weight.e1, .int .i64 b_.Weight.e2, .int .i64 b_.Order]⟩), (.int .i64 y22)] [4, 5] [(4, [], .bool (decide (y22 < 0))), (5, [], .int .i64 0)] [fun wz => V.atN b1 0 [.string ⟨⟨a_.Long.Name⟩⟩, .slice g_a__0.a a_.Long.Value.length g_a__0.c, .string ⟨⟨a_.Long.Whole⟩⟩, .bool a_.Important, .int .u8 a_.Origin, .bool a_.Attached, .int .i64 a_.Layer, .int .i64 a_.Weight.e0, .int .i64 a_.Weight.e1, .int .i64 a_.Weight.e2, .int .i64 a_.Order] 0 wz, fun wz => V.atN b4 0 [.string ⟨⟨b_.Long.Name⟩⟩, .slice g_b__0.a b_.Long.Value.length g_b__0.c, .string ⟨⟨b_.Long.Whole⟩⟩, .bool b_.Important, .int .u8 b_.Origin, .bool b_.Attached, .int .i64 b_.Layer, .int .i64 b_.Weight.e0, .int .i64 b_.Weight.e1, .int .i64 b_.Weight.e2, .int .i64 b_.Order] 0 wz, fun wz => RetB Tryd.prog 39 ⟨[.agg ⟨[.string ⟨⟨a_.Long.Name⟩⟩, .slice g_a__0.a a_.Long.Value.length g_a__0.c, .string ⟨⟨a_.Long.Whole⟩⟩, .bool a_.Important, .int .u8 a_.Origin, .bool a_.Attached, .int .i64 a_.Layer, .int .i64 a_.Weight.e0, .int .i64 a_.Weight.e1, .int .i64 a_.Weight.e2, .int .i64 a_.Order]⟩, .agg ⟨[.string ⟨⟨b_.Long.Name⟩⟩, .slice g_b__0.a b_.Long.Value.length g_b__0.c, .string ⟨⟨b_.Long.Whole⟩⟩, .bool b_.Important, .int .u8 b_.Origin, .bool b_.Attached, .int .i64 b_.Layer, .int .i64 b_.Weight.e0, .int .i64 b_.Weight.e1, .int .i64 b_.Weight.e2, .int .i64 b_.Order]⟩]⟩ (.int .i64 y22) wz] H19 (by kernel_rfl) ⟨((hS.bk 1 rfl).atD rfl), ((hS.bk 0 rfl).atD rfl), (sorter_compare_ok (g_a__0 := g_a__0) (g_b__0 := g_b__0) m _ _ _ hy22 _ (s0im (s0im s0nil (hS.im 3 rfl)) (hS.im 2 rfl))), trivial⟩ fun _ wd23 H24 hb => ?_
 clear H19
 replace hS := hS.below hb
 clear hb
 replace hS : SH M X w [gE0] _ := hS.sel [4] rfl
 refine w_ret ?_
 obtain rfl := someE hm
 exact retR2 H24 rfl rfl rfl ⟨_, rfl, rfl, (hS.sel [] rfl)⟩
theorem sorter_Before_ok {g_a__0 : Gh} {g_b__0 : Gh} (m : Nat) (a_ : TDeclared) (b_ : TDeclared) (r : Bool × Int) (hm : sorter_Before m a_ b_ = some r) (w : World) (hL : S0 F0 [Ent.im tyValue a_.Long.Value g_a__0, Ent.im tyValue b_.Long.Value g_b__0, gE0] w ∧ fpl [Ent.im tyValue a_.Long.Value g_a__0, Ent.im tyValue b_.Long.Value g_b__0, gE0] = []) : RetB Tryd.prog 23 ⟨[.agg ⟨[.string ⟨⟨a_.Long.Name⟩⟩, .slice g_a__0.a a_.Long.Value.length g_a__0.c, .string ⟨⟨a_.Long.Whole⟩⟩, .bool a_.Important, .int .u8 a_.Origin, .bool a_.Attached, .int .i64 a_.Layer, .int .i64 a_.Weight.e0, .int .i64 a_.Weight.e1, .int .i64 a_.Weight.e2, .int .i64 a_.Order]⟩, .agg ⟨[.string ⟨⟨b_.Long.Name⟩⟩, .slice g_b__0.a b_.Long.Value.length g_b__0.c, .string ⟨⟨b_.Long.Whole⟩⟩, .bool b_.Important, .int .u8 b_.Origin, .bool b_.Attached, .int .i64 b_.Layer, .int .i64 b_.Weight.e0, .int .i64 b_.Weight.e1, .int .i64 b_.Weight.e2, .int .i64 b_.Order]⟩]⟩ (.tuple ⟨[.bool r.1, .int .i64 r.2]⟩) w := retB_of hL (Tryd.call23 _) (fun w' h => sorter_Before_w F0 m   a_ b_ r hm w' h)

def wide_asked_L1 (m : Nat) (l_ : List TDeclared) : Nat → Int → Option (Sum (Int) (Unit))
  | 0, _ => none
  | kk + 1, v6 =>
    cond (decide (v6 < (ln l_))) (
    chk (0 ≤ v6 ∧ v6 < ln l_) <|
    Option.bind (sorter_Check m (gi l_ v6)) fun y17 =>
    cond (y17 != 0) (
    some (.inl y17)) (
    wide_asked_L1 m l_ kk (w64 (v6 + 1)))) (
    some (.inr ()))
def wide_asked_L2 (m : Nat) (l_ : List TDeclared) : Nat → Int → Option (Sum (Int) (Unit))
  | 0, _ => none
  | kk + 1, v32 =>
    cond (decide (v32 < (ln l_))) (
    chk (0 ≤ v32 ∧ v32 < ln l_) <|
    chk (0 ≤ (w64 (v32 - 1)) ∧ (w64 (v32 - 1)) < ln l_) <|
    Option.bind (sorter_Before m (gi l_ v32) (gi l_ (w64 (v32 - 1)))) fun y37 =>
    cond y37.1 (
    some (.inl 2)) (
    wide_asked_L2 m l_ kk (w64 (v32 + 1)))) (
    some (.inr ()))
def wide_asked (m : Nat) (l_ : List TDeclared) : Option (Int) :=
  Option.bind (
  wide_asked_L1 m l_ m 0) fun (z3 : Sum (Int) (Unit)) => sumK z3 fun s_z3 =>
  Option.bind (
  wide_asked_L2 m l_ m 1) fun (z29 : Sum (Int) (Unit)) => sumK z29 fun s_z29 =>
  some 0
theorem wide_asked_w {g_l_ : Gh} (M : Av) (m : Nat) (l_ : List TDeclared) (r : Int) (hm : wide_asked m l_ = some r) (w : World) (hS : S0 M [Ent.im tyDeclared l_ g_l_, gE0] w) : Calls Tryd.prog 13 ⟨[.slice g_l_.a l_.length g_l_.c]⟩ w (fun e w' => ∃ v, e = .returned v ∧ v = .int .i64 r ∧ SH M (fpl [Ent.im tyDeclared l_ g_l_, gE0]) w [] w') := by
 rw [wide_asked] at hm
 have hS0 : SH M (fpl [Ent.im tyDeclared l_ g_l_, gE0]) w [Ent.im tyDeclared l_ g_l_, gE0] w := hS
 generalize hX : fpl [Ent.im tyDeclared l_ g_l_, gE0] = X at hS0 ⊢
 clear hS hX
 have hS := hS0
 clear hS0
 refine calls_entryP Tryd.func13 rfl Tryd.ntmps13 rfl fun _ H => ?_
 refine s_reg [] [0] [(0, [], .slice g_l_.a l_.length g_l_.c)] [] H (by kernel_rfl) trivial fun _ wd1 H2 hb => ?_
 clear H
 replace hS := hS.below hb
 clear hb
 obtain ⟨z3, hz, hm_z3⟩ := bindE hm
 refine w_cut (fun a' w' => ∃ s_z3 : Unit, z3 = Sum.inr s_z3 ∧ Fr 41 [(0, [], .slice g_l_.a l_.length g_l_.c)] a' ∧ SH M X w [Ent.im tyDeclared l_ g_l_, gE0] w') ?_ ?_
 ·replace hm := hz
  refine s_reg [] [0, 9, 10, 11] [(0, [], .slice g_l_.a l_.length g_l_.c), (9, [], .slice g_l_.a l_.length g_l_.c), (10, [], .int .i64 (ln l_)), (11, [], .int .i64 0)] [] H2 (by kernel_rfl) trivial fun _ wd4 H5 hb => ?_
  clear H2
  replace hS := hS.below hb
  clear hb
  refine w_block ?_
  refine w_loop (fun kk a' w' => ∃ (v6 : Int), wide_asked_L1 m l_ kk v6 = some _ ∧ Fr 41 [(0, [], .slice g_l_.a l_.length g_l_.c), (9, [], .slice g_l_.a l_.length g_l_.c), (10, [], .int .i64 (ln l_)), (11, [], .int .i64 v6)] a' ∧ SH M X w [Ent.im tyDeclared l_ g_l_, gE0] w') ⟨_, 0, hm, FrG.keep (ks := [0, 9, 10, 11]) H5 (by kernel_rfl), hS⟩ ?_
  clear hm H5 hS
  rintro kk _ wd28 ⟨v6, hm, H, hS⟩
  cases kk with
  | zero => exact noneE hm
  | succ kk =>
   rw [wide_asked_L1] at hm
   refine s_reg [] [0, 9, 10, 11, 12] [(0, [], .slice g_l_.a l_.length g_l_.c), (9, [], .slice g_l_.a l_.length g_l_.c), (10, [], .int .i64 (ln l_)), (11, [], .int .i64 v6), (12, [], .bool (decide (v6 < (ln l_))))] [] H (by kernel_rfl) trivial fun _ wd7 H8 hb => ?_
   clear H
   replace hS := hS.below hb
   clear hb
   refine w_seq ?_
   refine w_if H8 rfl (fun hc => ?_) (fun hc => ?c27)
   case c27 =>
    replace hm := bF hc hm
    refine w_exit rfl ?_
    obtain rfl := someE hm
    exact ⟨_, rfl, FrG.keep (ks := [0]) H8 (by kernel_rfl), hS⟩
   replace hm := bT hc hm
   refine w_skip ?_
   refine w_seq ?_
   refine w_block ?_
   refine w_seq ?_
   refine wl_start ?_
   obtain ⟨ho9, hm⟩ := chkE hm
   refine wl_batch 0 2 [(.agg ⟨[.string ⟨⟨(gi l_ v6).Long.Name⟩⟩, .slice (g_l_.s (v6).toNat 0).a (((gi l_ v6).Long.Value).length) (g_l_.s (v6).toNat 0).c, .string ⟨⟨(gi l_ v6).Long.Whole⟩⟩, .bool ((gi l_ v6).Important), .int .u8 ((gi l_ v6).Origin), .bool ((gi l_ v6).Attached), .int .i64 ((gi l_ v6).Layer), .int .i64 ((gi l_ v6).Weight.e0), .int .i64 ((gi l_ v6).Weight.e1), .int .i64 ((gi l_ v6).Weight.e2), .int .i64 ((gi l_ v6).Order)]⟩)] [0, 9, 10, 11, 14] [(0, [], .slice g_l_.a l_.length g_l_.c), (9, [], .slice g_l_.a l_.length g_l_.c), (10, [], .int .i64 (ln l_)), (11, [], .int .i64 v6), (14, [], .agg ⟨[.string ⟨⟨(gi l_ v6).Long.Name⟩⟩, .slice (g_l_.s (v6).toNat 0).a (((gi l_ v6).Long.Value).length) (g_l_.s (v6).toNat 0).c, .string ⟨⟨(gi l_ v6).Long.Whole⟩⟩, .bool ((gi l_ v6).Important), .int .u8 ((gi l_ v6).Origin), .bool ((gi l_ v6).Attached), .int .i64 ((gi l_ v6).Layer), .int .i64 ((gi l_ v6).Weight.e0), .int .i64 ((gi l_ v6).Weight.e1), .int .i64 ((gi l_ v6).Weight.e2), .int .i64 ((gi l_ v6).Order)]⟩)] [fun _ => oka g_l_.a ∧ 0 ≤ v6 ∧ v6 < ln l_, fun wz => V.atN (ab g_l_.a) (ao g_l_.a + (v6).toNat * 11) [.string ⟨⟨(gi l_ v6).Long.Name⟩⟩, .slice (g_l_.s (v6).toNat 0).a (((gi l_ v6).Long.Value).length) (g_l_.s (v6).toNat 0).c, .string ⟨⟨(gi l_ v6).Long.Whole⟩⟩, .bool ((gi l_ v6).Important), .int .u8 ((gi l_ v6).Origin), .bool ((gi l_ v6).Attached), .int .i64 ((gi l_ v6).Layer), .int .i64 ((gi l_ v6).Weight.e0), .int .i64 ((gi l_ v6).Weight.e1), .int .i64 ((gi l_ v6).Weight.e2), .int .i64 ((gi l_ v6).Order)] 0 wz] H8 (by decide) (by kernel_rfl) ⟨((hS.im 0 rfl).oki ho9), ((hS.im 0 rfl).atA ho9 0 rfl), trivial⟩ fun _ wd10 H11 hb => ?_
   clear H8
   replace hS := hS.below hb
   clear hb
   have hd := hS.hand [] [0, 1] rfl rfl
   refine m_stp [4, 0, 9, 10, 11, 14] [(0, [], .slice g_l_.a l_.length g_l_.c), (9, [], .slice g_l_.a l_.length g_l_.c), (10, [], .int .i64 (ln l_)), (11, [], .int .i64 v6), (14, [], .agg ⟨[.string ⟨⟨(gi l_ v6).Long.Name⟩⟩, .slice (g_l_.s (v6).toNat 0).a (((gi l_ v6).Long.Value).length) (g_l_.s (v6).toNat 0).c, .string ⟨⟨(gi l_ v6).Long.Whole⟩⟩, .bool ((gi l_ v6).Important), .int .u8 ((gi l_ v6).Origin), .bool ((gi l_ v6).Attached), .int .i64 ((gi l_ v6).Layer), .int .i64 ((gi l_ v6).Weight.e0), .int .i64 ((gi l_ v6).Weight.e1), .int .i64 ((gi l_ v6).Weight.e2), .int .i64 ((gi l_ v6).Order)]⟩)] H11 rfl rfl rfl rfl (o_alloc [.string ⟨⟨[]⟩⟩, .slice none 0 0, .string ⟨⟨[]⟩⟩, .bool false, .int .u8 0, .bool false, .int .i64 0, .int .i64 0, .int .i64 0, .int .i64 0, .int .i64 0] (z := .agg ⟨[.string ⟨⟨[]⟩⟩, .slice none 0 0, .string ⟨⟨[]⟩⟩, .bool false, .int .u8 0, .bool false, .int .i64 0, .int .i64 0, .int .i64 0, .int .i64 0, .int .i64 0]⟩) hd (by kernel_rfl) rfl) (fun _ => rfl) fun _ wd13 v H14 hq => ?_
   clear H11 hd
   obtain ⟨b12, rfl, hq⟩ := hq
   replace hS : SH M X w [Ent.blk b12 [.string ⟨⟨[]⟩⟩, .slice none 0 0, .string ⟨⟨[]⟩⟩, .bool false, .int .u8 0, .bool false, .int .i64 0, .int .i64 0, .int .i64 0, .int .i64 0, .int .i64 0], Ent.im tyDeclared l_ g_l_, gE0] _ := hS.join [] [0, 1] rfl rfl hq
   clear hq
   have hd := hS.hand [0] [1, 2] rfl rfl
   refine m_stp0 [0, 4, 9, 10, 11] [(0, [], .slice g_l_.a l_.length g_l_.c), (4, [], .pointer (some ⟨b12, 0, none⟩)), (9, [], .slice g_l_.a l_.length g_l_.c), (10, [], .int .i64 (ln l_)), (11, [], .int .i64 v6)] H14 rfl rfl rfl (o_store [.string ⟨⟨(gi l_ v6).Long.Name⟩⟩, .slice (g_l_.s (v6).toNat 0).a (((gi l_ v6).Long.Value).length) (g_l_.s (v6).toNat 0).c, .string ⟨⟨(gi l_ v6).Long.Whole⟩⟩, .bool ((gi l_ v6).Important), .int .u8 ((gi l_ v6).Origin), .bool ((gi l_ v6).Attached), .int .i64 ((gi l_ v6).Layer), .int .i64 ((gi l_ v6).Weight.e0), .int .i64 ((gi l_ v6).Weight.e1), .int .i64 ((gi l_ v6).Weight.e2), .int .i64 ((gi l_ v6).Order)] H14 hd rfl rfl (by kernel_rfl) rfl rfl rfl) rfl fun _ wd15 H16 hq => ?_
   clear H14 hd
   obtain ⟨_, hq⟩ := hq
   replace hS : SH M X w [Ent.blk b12 [.string ⟨⟨(gi l_ v6).Long.Name⟩⟩, .slice (g_l_.s (v6).toNat 0).a (((gi l_ v6).Long.Value).length) (g_l_.s (v6).toNat 0).c, .string ⟨⟨(gi l_ v6).Long.Whole⟩⟩, .bool ((gi l_ v6).Important), .int .u8 ((gi l_ v6).Origin), .bool ((gi l_ v6).Attached), .int .i64 ((gi l_ v6).Layer), .int .i64 ((gi l_ v6).Weight.e0), .int .i64 ((gi l_ v6).Weight.e1), .int .i64 ((gi l_ v6).Weight.e2), .int .i64 ((gi l_ v6).Order)], Ent.im tyDeclared l_ g_l_, gE0] _ := hS.join [0] [1, 2] rfl rfl hq
   clear hq
   refine wl_end rfl ?_
   obtain ⟨y17, hy17, hm⟩ := bindE hm
   refine s_reg [(.agg ⟨[.string ⟨⟨(gi l_ v6).Long.Name⟩⟩, .slice (g_l_.s (v6).toNat 0).a (((gi l_ v6).Long.Value).length) (g_l_.s (v6).toNat 0).c, .string ⟨⟨(gi l_ v6).Long.Whole⟩⟩, .bool ((gi l_ v6).Important), .int .u8 ((gi l_ v6).Origin), .bool ((gi l_ v6).Attached), .int .i64 ((gi l_ v6).Layer), .int .i64 ((gi l_ v6).Weight.e0), .int .i64 ((gi l_ v6).Weight.e1), .int .i64 ((gi l_ v6).Weight.e2), .int .i64 ((gi l_ v6).Order)]⟩), (.int .i64 y17)] [0, 5, 9, 10, 11] [(0, [], .slice g_l_.a l_.length g_l_.c), (5, [], .int .i64 y17), (9, [], .slice g_l_.a l_.length g_l_.c), (10, [], .int .i64 (ln l_)), (11, [], .int .i64 v6)] [fun wz => V.atN b12 0 [.string ⟨⟨(gi l_ v6).Long.Name⟩⟩, .slice (g_l_.s (v6).toNat 0).a (((gi l_ v6).Long.Value).length) (g_l_.s (v6).toNat 0).c, .string ⟨⟨(gi l_ v6).Long.Whole⟩⟩, .bool ((gi l_ v6).Important), .int .u8 ((gi l_ v6).Origin), .bool ((gi l_ v6).Attached), .int .i64 ((gi l_ v6).Layer), .int .i64 ((gi l_ v6).Weight.e0), .int .i64 ((gi l_ v6).Weight.e1), .int .i64 ((gi l_ v6).Weight.e2), .int .i64 ((gi l_ v6).Order)] 0 wz, fun wz => RetB Tryd.prog 22 ⟨[.agg ⟨[.string ⟨⟨(gi l_ v6).Long.Name⟩⟩, .slice (g_l_.s (v6).toNat 0).a (((gi l_ v6).Long.Value).length) (g_l_.s (v6).toNat 0).c, .string ⟨⟨(gi l_ v6).Long.Whole⟩⟩, .bool ((gi l_ v6).Important), .int .u8 ((gi l_ v6).Origin), .bool ((gi l_ v6).Attached), .int .i64 ((gi l_ v6).Layer), .int .i64 ((gi l_ v6).Weight.e0), .int .i64 ((gi l_ v6).Weight.e1), .int .i64 ((gi l_ v6).Weight.e2), .int .i64 ((gi l_ v6).Order)]⟩]⟩ (.int .i64 y17) wz] H16 (by kernel_rfl) ⟨((hS.bk 0 rfl).atD rfl), (sorter_Check_ok (g_d__0 := (g_l_.s (v6).toNat 0)) m _ _ hy17 _ (s0im (s0im s0nil (hS.im 2 rfl)) (tyDeclared_i0 ((hS.im 1 rfl).el ho9)))), trivial⟩ fun _ wd18 H19 hb => ?_
   clear H16
   replace hS := hS.below hb
   clear hb
   replace hS : SH M X w [Ent.im tyDeclared l_ g_l_, gE0] _ := hS.sel [1, 2] rfl
   refine s_reg [] [0, 5, 9, 10, 11, 18] [(0, [], .slice g_l_.a l_.length g_l_.c), (5, [], .int .i64 y17), (9, [], .slice g_l_.a l_.length g_l_.c), (10, [], .int .i64 (ln l_)), (11, [], .int .i64 v6), (18, [], .bool (y17 != 0))] [] H19 (by kernel_rfl) trivial fun _ wd20 H21 hb => ?_
   clear H19
   replace hS := hS.below hb
   clear hb
   refine w_if H21 rfl (fun hc => ?_) (fun hc => ?c26)
   case c26 =>
    replace hm := bF hc hm
    refine w_skip ?_
    refine w_reg [] [0, 9, 10, 11] [(0, [], .slice g_l_.a l_.length g_l_.c), (9, [], .slice g_l_.a l_.length g_l_.c), (10, [], .int .i64 (ln l_)), (11, [], .int .i64 (w64 (v6 + 1)))] [] H21 (by kernel_rfl) trivial fun _ wd24 H25 hb => ?_
    clear H21
    replace hS := hS.below hb
    clear hb
    exact ⟨_, Nat.lt_succ_self _, w64 (v6 + 1), hm, FrG.keep (ks := [0, 9, 10, 11]) H25 (by kernel_rfl), hS⟩
   replace hm := bT hc hm
   refine s_reg [] [2] [(2, [], .int .i64 y17)] [] H21 (by kernel_rfl) trivial fun _ wd22 H23 hb => ?_
   clear H21
   replace hS := hS.below hb
   clear hb
   refine w_ret ?_
   obtain rfl := someE hm
   have hm := hm_z3
   obtain rfl := someE hm
   exact retR1 H23 rfl rfl ⟨_, rfl, rfl, (hS.sel [] rfl)⟩
 ·rintro _ wd52 ⟨s_z3, hz, H, hS⟩
  subst hz
  replace hm := sumR hm_z3
  obtain ⟨z29, hz, hm_z29⟩ := bindE hm
  refine w_cut (fun a' w' => ∃ s_z29 : Unit, z29 = Sum.inr s_z29 ∧ Fr 41 [] a' ∧ SH M X w [Ent.im tyDeclared l_ g_l_, gE0] w') ?_ ?_
  ·replace hm := hz
   refine s_reg [] [0, 6] [(0, [], .slice g_l_.a l_.length g_l_.c), (6, [], .int .i64 1)] [] H (by kernel_rfl) trivial fun _ wd30 H31 hb => ?_
   clear H
   replace hS := hS.below hb
   clear hb
   refine w_block ?_
   refine w_loop (fun kk a' w' => ∃ (v32 : Int), wide_asked_L2 m l_ kk v32 = some _ ∧ Fr 41 [(0, [], .slice g_l_.a l_.length g_l_.c), (6, [], .int .i64 v32)] a' ∧ SH M X w [Ent.im tyDeclared l_ g_l_, gE0] w') ⟨_, 1, hm, FrG.keep (ks := [0, 6]) H31 (by kernel_rfl), hS⟩ ?_
   clear hm H31 hS
   rintro kk _ wd48 ⟨v32, hm, H, hS⟩
   cases kk with
   | zero => exact noneE hm
   | succ kk =>
    rw [wide_asked_L2] at hm
    refine w_seq ?_
    refine s_reg [] [0, 6, 24] [(0, [], .slice g_l_.a l_.length g_l_.c), (6, [], .int .i64 v32), (24, [], .bool (decide (v32 < (ln l_))))] [] H (by kernel_rfl) trivial fun _ wd33 H34 hb => ?_
    clear H
    replace hS := hS.below hb
    clear hb
    refine w_if H34 rfl (fun hc => ?_) (fun hc => ?c47)
    case c47 =>
     replace hm := bF hc hm
     refine w_exit rfl ?_
     obtain rfl := someE hm
     exact ⟨_, rfl, FrG.keep (ks := []) H34 (by kernel_rfl), hS⟩
    replace hm := bT hc hm
    refine w_skip ?_
    refine w_seq ?_
    refine w_block ?_
    obtain ⟨ho35, hm⟩ := chkE hm
    obtain ⟨ho36, hm⟩ := chkE hm
    obtain ⟨y37, hy37, hm⟩ := bindE hm
    refine s_draw [(.agg ⟨[.string ⟨⟨(gi l_ v32).Long.Name⟩⟩, .slice (g_l_.s (v32).toNat 0).a (((gi l_ v32).Long.Value).length) (g_l_.s (v32).toNat 0).c, .string ⟨⟨(gi l_ v32).Long.Whole⟩⟩, .bool ((gi l_ v32).Important), .int .u8 ((gi l_ v32).Origin), .bool ((gi l_ v32).Attached), .int .i64 ((gi l_ v32).Layer), .int .i64 ((gi l_ v32).Weight.e0), .int .i64 ((gi l_ v32).Weight.e1), .int .i64 ((gi l_ v32).Weight.e2), .int .i64 ((gi l_ v32).Order)]⟩), (.agg ⟨[.string ⟨⟨(gi l_ (w64 (v32 - 1))).Long.Name⟩⟩, .slice (g_l_.s ((w64 (v32 - 1))).toNat 0).a (((gi l_ (w64 (v32 - 1))).Long.Value).length) (g_l_.s ((w64 (v32 - 1))).toNat 0).c, .string ⟨⟨(gi l_ (w64 (v32 - 1))).Long.Whole⟩⟩, .bool ((gi l_ (w64 (v32 - 1))).Important), .int .u8 ((gi l_ (w64 (v32 - 1))).Origin), .bool ((gi l_ (w64 (v32 - 1))).Attached), .int .i64 ((gi l_ (w64 (v32 - 1))).Layer), .int .i64 ((gi l_ (w64 (v32 - 1))).Weight.e0), .int .i64 ((gi l_ (w64 (v32 - 1))).Weight.e1), .int .i64 ((gi l_ (w64 (v32 - 1))).Weight.e2), .int .i64 ((gi l_ (w64 (v32 - 1))).Order)]⟩), (.tuple ⟨[.bool y37.1, .int .i64 y37.2]⟩)] [0, 6, 7] [(0, [], .slice g_l_.a l_.length g_l_.c), (6, [], .int .i64 v32), (7, [], .bool y37.1)] [fun _ => oka g_l_.a ∧ 0 ≤ v32 ∧ v32 < ln l_, fun wz => V.atN (ab g_l_.a) (ao g_l_.a + (v32).toNat * 11) [.string ⟨⟨(gi l_ v32).Long.Name⟩⟩, .slice (g_l_.s (v32).toNat 0).a (((gi l_ v32).Long.Value).length) (g_l_.s (v32).toNat 0).c, .string ⟨⟨(gi l_ v32).Long.Whole⟩⟩, .bool ((gi l_ v32).Important), .int .u8 ((gi l_ v32).Origin), .bool ((gi l_ v32).Attached), .int .i64 ((gi l_ v32).Layer), .int .i64 ((gi l_ v32).Weight.e0), .int .i64 ((gi l_ v32).Weight.e1), .int .i64 ((gi l_ v32).Weight.e2), .int .i64 ((gi l_ v32).Order)] 0 wz, fun _ => oka g_l_.a ∧ 0 ≤ (w64 (v32 - 1)) ∧ (w64 (v32 - 1)) < ln l_, fun wz => V.atN (ab g_l_.a) (ao g_l_.a + ((w64 (v32 - 1))).toNat * 11) [.string ⟨⟨(gi l_ (w64 (v32 - 1))).Long.Name⟩⟩, .slice (g_l_.s ((w64 (v32 - 1))).toNat 0).a (((gi l_ (w64 (v32 - 1))).Long.Value).length) (g_l_.s ((w64 (v32 - 1))).toNat 0).c, .string ⟨⟨(gi l_ (w64 (v32 - 1))).Long.Whole⟩⟩, .bool ((gi l_ (w64 (v32 - 1))).Important), .int .u8 ((gi l_ (w64 (v32 - 1))).Origin), .bool ((gi l_ (w64 (v32 - 1))).Attached), .int .i64 ((gi l_ (w64 (v32 - 1))).Layer), .int .i64 ((gi l_ (w64 (v32 - 1))).Weight.e0), .int .i64 ((gi l_ (w64 (v32 - 1))).Weight.e1), .int .i64 ((gi l_ (w64 (v32 - 1))).Weight.e2), .int .i64 ((gi l_ (w64 (v32 - 1))).Order)] 0 wz, fun wz => RetB Tryd.prog 23 ⟨[.agg ⟨[.string ⟨⟨(gi l_ v32).Long.Name⟩⟩, .slice (g_l_.s (v32).toNat 0).a (((gi l_ v32).Long.Value).length) (g_l_.s (v32).toNat 0).c, .string ⟨⟨(gi l_ v32).Long.Whole⟩⟩, .bool ((gi l_ v32).Important), .int .u8 ((gi l_ v32).Origin), .bool ((gi l_ v32).Attached), .int .i64 ((gi l_ v32).Layer), .int .i64 ((gi l_ v32).Weight.e0), .int .i64 ((gi l_ v32).Weight.e1), .int .i64 ((gi l_ v32).Weight.e2), .int .i64 ((gi l_ v32).Order)]⟩, .agg ⟨[.string ⟨⟨(gi l_ (w64 (v32 - 1))).Long.Name⟩⟩, .slice (g_l_.s ((w64 (v32 - 1))).toNat 0).a (((gi l_ (w64 (v32 - 1))).Long.Value).length) (g_l_.s ((w64 (v32 - 1))).toNat 0).c, .string ⟨⟨(gi l_ (w64 (v32 - 1))).Long.Whole⟩⟩, .bool ((gi l_ (w64 (v32 - 1))).Important), .int .u8 ((gi l_ (w64 (v32 - 1))).Origin), .bool ((gi l_ (w64 (v32 - 1))).Attached), .int .i64 ((gi l_ (w64 (v32 - 1))).Layer), .int .i64 ((gi l_ (w64 (v32 - 1))).Weight.e0), .int .i64 ((gi l_ (w64 (v32 - 1))).Weight.e1), .int .i64 ((gi l_ (w64 (v32 - 1))).Weight.e2), .int .i64 ((gi l_ (w64 (v32 - 1))).Order)]⟩]⟩ (.tuple ⟨[.bool y37.1, .int .i64 y37.2]⟩) wz] H34 (by kernel_rfl) (by kernel_rfl) (by kernel_rfl) ⟨((hS.im 0 rfl).oki ho35), ((hS.im 0 rfl).atA ho35 0 rfl), ((hS.im 0 rfl).oki ho36), ((hS.im 0 rfl).atA ho36 0 rfl), (sorter_Before_ok (g_a__0 := (g_l_.s (v32).toNat 0)) (g_b__0 := (g_l_.s ((w64 (v32 - 1))).toNat 0)) m _ _ _ hy37 _ (s0im (s0im (s0im s0nil (hS.im 1 rfl)) (tyDeclared_i0 ((hS.im 0 rfl).el ho36))) (tyDeclared_i0 ((hS.im 0 rfl).el ho35)))), trivial⟩ fun _ wd38 H39 hb => ?_
    clear H34
    replace hS := hS.below hb
    clear hb
    refine s_reg [] [0, 6, 40] [(0, [], .slice g_l_.a l_.length g_l_.c), (6, [], .int .i64 v32), (40, [], .bool y37.1)] [] H39 (by kernel_rfl) trivial fun _ wd40 H41 hb => ?_
    clear H39
    replace hS := hS.below hb
    clear hb
    refine w_if H41 rfl (fun hc => ?_) (fun hc => ?c46)
    case c46 =>
     replace hm := bF hc hm
     refine w_skip ?_
     refine w_reg [] [0, 6] [(0, [], .slice g_l_.a l_.length g_l_.c), (6, [], .int .i64 (w64 (v32 + 1)))] [] H41 (by kernel_rfl) trivial fun _ wd44 H45 hb => ?_
     clear H41
     replace hS := hS.below hb
     clear hb
     exact ⟨_, Nat.lt_succ_self _, w64 (v32 + 1), hm, FrG.keep (ks := [0, 6]) H45 (by kernel_rfl), hS⟩
    replace hm := bT hc hm
    refine s_reg [] [2] [(2, [], .int .i64 2)] [] H41 (by kernel_rfl) trivial fun _ wd42 H43 hb => ?_
    clear H41
    replace hS := hS.below hb
    clear hb
    refine w_ret ?_
    obtain rfl := someE hm
    have hm := hm_z29
    obtain rfl := someE hm
    exact retR1 H43 rfl rfl ⟨_, rfl, rfl, (hS.sel [] rfl)⟩
  ·rintro _ wd51 ⟨s_z29, hz, H, hS⟩
   subst hz
   replace hm := sumR hm_z29
   replace hS : SH M X w [gE0] _ := hS.sel [1] rfl
   refine s_reg [] [2] [(2, [], .int .i64 0)] [] H (by kernel_rfl) trivial fun _ wd49 H50 hb => ?_
   clear H
   replace hS := hS.below hb
   clear hb
   refine w_ret ?_
   obtain rfl := someE hm
   exact retR1 H50 rfl rfl ⟨_, rfl, rfl, (hS.sel [] rfl)⟩
theorem wide_asked_ok {g_l_ : Gh} (m : Nat) (l_ : List TDeclared) (r : Int) (hm : wide_asked m l_ = some r) (w : World) (hL : S0 F0 [Ent.im tyDeclared l_ g_l_, gE0] w ∧ fpl [Ent.im tyDeclared l_ g_l_, gE0] = []) : RetB Tryd.prog 13 ⟨[.slice g_l_.a l_.length g_l_.c]⟩ (.int .i64 r) w := retB_of hL (Tryd.call13 _) (fun w' h => wide_asked_w F0 m   l_ r hm w' h)

def slices_Backward_api_Declared_api_Declared (s : List TDeclared) : List TDeclared :=
  s
theorem slices_Backward_api_Declared_api_Declared_w {g_s : Gh} (M : Av) (s : List TDeclared) (r : List TDeclared) (hm : slices_Backward_api_Declared_api_Declared s = r) (w : World) (hS : S0 M [Ent.im tyDeclared s g_s] w) : Calls Tryd.prog 27 ⟨[.slice g_s.a s.length g_s.c]⟩ w (fun e w' => ∃ v, e = .returned v ∧ ∃ (b901 : Nat) (g902 : Gh), v = .func (.func 47) ⟨[]⟩ ⟨[.pointer (some ⟨b901, 0, none⟩)]⟩ ∧ SH M (fpl [Ent.im tyDeclared s g_s]) w [Ent.blk b901 [.slice g902.a r.length g902.c], Ent.im tyDeclared r g902] w') := by
 rw [slices_Backward_api_Declared_api_Declared] at hm
 have hS0 : SH M (fpl [Ent.im tyDeclared s g_s]) w [Ent.im tyDeclared s g_s] w := hS
 generalize hX : fpl [Ent.im tyDeclared s g_s] = X at hS0 ⊢
 clear hS hX
 have hS := hS0
 clear hS0
 refine calls_entryP Tryd.func27 rfl Tryd.ntmps27 rfl fun _ H => ?_
 refine w_seq ?_
 refine wl_start ?_
 have hd := hS.hand [] [0] rfl rfl
 refine m_stp [1] [] H rfl rfl rfl rfl (o_box [.slice g_s.a s.length g_s.c] H hd rfl rfl) (fun _ => rfl) fun _ wd2 v H3 hq => ?_
 clear H hd
 obtain ⟨b1, rfl, hq⟩ := hq
 replace hS : SH M X w [Ent.blk b1 [.slice g_s.a s.length g_s.c], Ent.im tyDeclared s g_s] _ := hS.join [] [0] rfl rfl hq
 clear hq
 refine wl_batch 1 2 [] [1] [(1, [], .pointer (some ⟨b1, 0, none⟩))] [] H3 (by decide) (by kernel_rfl) trivial fun _ wd4 H5 hb => ?_
 clear H3
 replace hS := hS.below hb
 clear hb
 refine wl_end rfl ?_
 refine s_reg [] [2] [(2, [], .func (.func 47) ⟨[]⟩ ⟨[.pointer (some ⟨b1, 0, none⟩)]⟩)] [] H5 (by kernel_rfl) trivial fun _ wd6 H7 hb => ?_
 clear H5
 replace hS := hS.below hb
 clear hb
 refine w_ret ?_
 subst hm
 exact retR1 H7 rfl rfl ⟨_, rfl, b1, g_s, rfl, (hS.sel [0, 1] rfl)⟩
theorem slices_Backward_api_Declared_api_Declared_ok {g_s : Gh} (s : List TDeclared) (r : List TDeclared) (hm : slices_Backward_api_Declared_api_Declared s = r) (M : Av) (w : World) (hS : S0 M [Ent.im tyDeclared s g_s] w) : DoesX Tryd.prog 27 ⟨[.slice g_s.a s.length g_s.c]⟩ w (fun v w' => ∃ (b901 : Nat) (g902 : Gh), v = .func (.func 47) ⟨[]⟩ ⟨[.pointer (some ⟨b901, 0, none⟩)]⟩ ∧ SH M (fpl [Ent.im tyDeclared s g_s]) w [Ent.blk b901 [.slice g902.a r.length g902.c], Ent.im tyDeclared r g902] w') := ⟨Tryd.call27 _, slices_Backward_api_Declared_api_Declared_w M   s r hm w hS⟩

theorem seq47 (l : List TDeclared) (g : Gh) (bs : Nat) (w : World) (hlen : ln l ≤ 1099511627776) : SeqI Tryd.prog 47 [.pointer (some ⟨bs, 0, none⟩)] (fun kR => [.int .i64 ((l.length : Int) - 1 - (kR : Int)), .agg ⟨[.string ⟨⟨(gi l ((l.length : Int) - 1 - (kR : Int))).Long.Name⟩⟩, .slice (g.s (((l.length : Int) - 1 - (kR : Int))).toNat 0).a (gi l ((l.length : Int) - 1 - (kR : Int))).Long.Value.length (g.s (((l.length : Int) - 1 - (kR : Int))).toNat 0).c, .string ⟨⟨(gi l ((l.length : Int) - 1 - (kR : Int))).Long.Whole⟩⟩, .bool (gi l ((l.length : Int) - 1 - (kR : Int))).Important, .int .u8 (gi l ((l.length : Int) - 1 - (kR : Int))).Origin, .bool (gi l ((l.length : Int) - 1 - (kR : Int))).Attached, .int .i64 (gi l ((l.length : Int) - 1 - (kR : Int))).Layer, .int .i64 (gi l ((l.length : Int) - 1 - (kR : Int))).Weight.e0, .int .i64 (gi l ((l.length : Int) - 1 - (kR : Int))).Weight.e1, .int .i64 (gi l ((l.length : Int) - 1 - (kR : Int))).Weight.e2, .int .i64 (gi l ((l.length : Int) - 1 - (kR : Int))).Order]⟩]) l.length (fun W => Blk W bs [.slice g.a l.length g.c] ∧ SlG tyDeclared F0 W l g) w := by
 unfold ln at hlen
 intro lr J Jx W hRD hJb hJx hY h0
 refine calls_entryW Tryd.func47 rfl Tryd.ntmps47 rfl fun _ H => ?_
 have hr := hRD 0 W h0
 refine sr_reg [.slice g.a l.length g.c] [0, 1, 3] [(0, [], .func (.yield lr) ⟨[]⟩ ⟨[]⟩), (1, [], .pointer (some ⟨bs, 0, none⟩)), (3, [], .int .i64 (w64 ((l.length : Int) - 1)))] [fun wz => V.at1 ⟨bs, 0, none⟩ (.slice g.a l.length g.c) wz] H (by kernel_rfl) (by kernel_rfl) ⟨hr.1.at1 rfl, trivial⟩ fun _ W1 H hb => ?_
 replace h0 := hJb 0 _ _ h0 hb
 clear hb hr
 have hw : w64 ((l.length : Int) - 1) = (l.length : Int) - 1 - ((0 : Nat) : Int) := by rw [w64_r (by omega) (by omega)]; omega
 rw [hw] at H
 refine r_block ?_
 refine r_loop (fun q a W => ∃ k : Nat, k + q = l.length ∧ J k W ∧ Fr 19 [(0, [], .func (.yield lr) ⟨[]⟩ ⟨[]⟩), (1, [], .pointer (some ⟨bs, 0, none⟩)), (3, [], .int .i64 ((l.length : Int) - 1 - (k : Int)))] a) ⟨l.length, 0, Nat.zero_add _, h0, H⟩ ?_
 clear H h0 hw
 rintro q _ W2 ⟨kR, hq, hJ, H⟩
 obtain ⟨v, hv⟩ : ∃ v, v = (l.length : Int) - 1 - (kR : Int) := ⟨_, rfl⟩
 rw [← hv] at H
 refine r_seq ?_
 refine sr_reg [] [0, 1, 3, 8] [(0, [], .func (.yield lr) ⟨[]⟩ ⟨[]⟩), (1, [], .pointer (some ⟨bs, 0, none⟩)), (3, [], .int .i64 v), (8, [], .bool (decide ((0 : Int) ≤ v)))] [] H (by kernel_rfl) (by kernel_rfl) trivial fun _ W3 H hb => ?_
 replace hJ := hJb kR _ _ hJ hb
 clear hb
 refine r_if H rfl (fun hc => ?_) (fun hc => ?_)
 · have hc := of_decide_eq_true hc
   refine r_skip ?_
   refine r_seq ?_
   refine r_block ?_
   have hr := hRD kR W3 hJ
   have hix : 0 ≤ v ∧ v < ln l := by unfold ln; omega
   refine r_seq ?_
   refine rl_reg ?_
   refine rl_batch 0 6 [.slice g.a l.length g.c, .agg ⟨[.string ⟨⟨(gi l v).Long.Name⟩⟩, .slice (g.s (v).toNat 0).a (gi l v).Long.Value.length (g.s (v).toNat 0).c, .string ⟨⟨(gi l v).Long.Whole⟩⟩, .bool (gi l v).Important, .int .u8 (gi l v).Origin, .bool (gi l v).Attached, .int .i64 (gi l v).Layer, .int .i64 (gi l v).Weight.e0, .int .i64 (gi l v).Weight.e1, .int .i64 (gi l v).Weight.e2, .int .i64 (gi l v).Order]⟩] [0, 1, 3, 11, 12, 16] [(0, [], .func (.yield lr) ⟨[]⟩ ⟨[]⟩), (1, [], .pointer (some ⟨bs, 0, none⟩)), (3, [], .int .i64 v), (11, [], .func (.yield lr) ⟨[]⟩ ⟨[]⟩), (12, [], .int .i64 v), (16, [], .agg ⟨[.string ⟨⟨(gi l v).Long.Name⟩⟩, .slice (g.s (v).toNat 0).a (gi l v).Long.Value.length (g.s (v).toNat 0).c, .string ⟨⟨(gi l v).Long.Whole⟩⟩, .bool (gi l v).Important, .int .u8 (gi l v).Origin, .bool (gi l v).Attached, .int .i64 (gi l v).Layer, .int .i64 (gi l v).Weight.e0, .int .i64 (gi l v).Weight.e1, .int .i64 (gi l v).Weight.e2, .int .i64 (gi l v).Order]⟩)] [fun wz => V.at1 ⟨bs, 0, none⟩ (.slice g.a l.length g.c) wz, fun _ => oka g.a ∧ 0 ≤ v ∧ v < ln l, fun wz => V.atN (ab g.a) (ao g.a + (v).toNat * 11) [.string ⟨⟨(gi l v).Long.Name⟩⟩, .slice (g.s (v).toNat 0).a (gi l v).Long.Value.length (g.s (v).toNat 0).c, .string ⟨⟨(gi l v).Long.Whole⟩⟩, .bool (gi l v).Important, .int .u8 (gi l v).Origin, .bool (gi l v).Attached, .int .i64 (gi l v).Layer, .int .i64 (gi l v).Weight.e0, .int .i64 (gi l v).Weight.e1, .int .i64 (gi l v).Weight.e2, .int .i64 (gi l v).Order] 0 wz] H (by kernel_rfl) (by decide) (by kernel_rfl) ⟨hr.1.at1 rfl, hr.2.oki hix, hr.2.atA hix 0 rfl, trivial⟩ fun _ W4 H hb => ?_
   replace hJ := hJb kR _ _ hJ hb
   clear hb hr
   have hy : YieldAt (FW none) 0 Tryd.prog lr ⟨[.int .i64 v, .agg ⟨[.string ⟨⟨(gi l v).Long.Name⟩⟩, .slice (g.s (v).toNat 0).a (gi l v).Long.Value.length (g.s (v).toNat 0).c, .string ⟨⟨(gi l v).Long.Whole⟩⟩, .bool (gi l v).Important, .int .u8 (gi l v).Origin, .bool (gi l v).Attached, .int .i64 (gi l v).Layer, .int .i64 (gi l v).Weight.e0, .int .i64 (gi l v).Weight.e1, .int .i64 (gi l v).Weight.e2, .int .i64 (gi l v).Order]⟩]⟩ W4 (fun e B => (e = .returned (.bool true) ∧ J (kR + 1) B) ∨ (e = .returned (.bool false) ∧ Jx B)) := by subst hv; exact hY kR W4 (by omega) hJ
   refine y_call [17, 0, 1, 3] [(0, [], .func (.yield lr) ⟨[]⟩ ⟨[]⟩), (1, [], .pointer (some ⟨bs, 0, none⟩)), (3, [], .int .i64 v)] _ H rfl rfl rfl rfl (fun _ => rfl) hy ?_
   clear H
   rintro e W5 (⟨rfl, hJ5⟩ | ⟨rfl, hJ5⟩)
   · refine ⟨_, rfl, fun _ H => ?_⟩
     refine rl_batch 7 8 [] [0, 1, 3, 18] [(0, [], .func (.yield lr) ⟨[]⟩ ⟨[]⟩), (1, [], .pointer (some ⟨bs, 0, none⟩)), (3, [], .int .i64 v), (18, [], .bool false)] [] H (by kernel_rfl) (by decide) (by kernel_rfl) trivial fun _ W6 H hb => ?_
     replace hJ5 := hJb _ _ _ hJ5 hb
     clear hb
     refine rl_end rfl ?_
     refine r_if H rfl (fun hc => by cases hc) (fun _ => ?_)
     refine r_skip ?_
     refine r_reg [] [0, 1, 3] [(0, [], .func (.yield lr) ⟨[]⟩ ⟨[]⟩), (1, [], .pointer (some ⟨bs, 0, none⟩)), (3, [], .int .i64 (w64 (v - 1)))] [] H (by kernel_rfl) (by kernel_rfl) trivial fun _ W7 H hb => ?_
     have hw : w64 (v - 1) = (l.length : Int) - 1 - ((kR + 1 : Nat) : Int) := by rw [w64_r (by omega) (by omega)]; omega
     rw [hw] at H
     exact ⟨q - 1, by omega, kR + 1, by omega, hJb _ _ _ hJ5 hb, H⟩
   · refine ⟨_, rfl, fun _ H => ?_⟩
     refine rl_batch 7 8 [] [0, 1, 3, 18] [(0, [], .func (.yield lr) ⟨[]⟩ ⟨[]⟩), (1, [], .pointer (some ⟨bs, 0, none⟩)), (3, [], .int .i64 v), (18, [], .bool true)] [] H (by kernel_rfl) (by decide) (by kernel_rfl) trivial fun _ W6 H hb => ?_
     replace hJ5 := hJx _ _ hJ5 hb
     clear hb
     refine rl_end rfl ?_
     refine r_if H rfl (fun _ => ?_) (fun hc => by cases hc)
     refine r_ret ?_
     exact retR0 H rfl ⟨⟨_, rfl⟩, .inr hJ5⟩
 · have hc := of_decide_eq_false hc
   have hk : kR = l.length := by omega
   subst hk
   refine r_exit rfl ?_
   dsimp only
   exact retR0 H rfl ⟨⟨_, rfl⟩, .inl hJ⟩
def short_small_L1 (m : Nat) (s : Str) : Nat → Int → (List Int) → Option (List Int)
  | 0, _, _ => none
  | kk + 1, v14, v15 =>
    cond (decide (v14 < (ln (ofB s)))) (
    Option.bind (
    chk (0 ≤ v14 ∧ v14 < ln (ofB s)) <|
    lt (cond (decide (65 ≤ (gi v15 v14))) (decide ((gi v15 v14) ≤ 90)) false) fun x22 =>
    cond x22 (
    lt (seti v15 v14 (wu8 ((wu8 ((gi v15 v14) + 97)) - 65))) fun q29 =>
    some q29) (
    some v15)) fun (z18 : List Int) =>
    short_small_L1 m s kk (w64 (v14 + 1)) z18) (
    some v15)
def short_small (m : Nat) (s : Str) : Option (Str) :=
  Option.bind (
  short_small_L1 m s m 0 (ofB s)) fun (z11 : List Int) =>
  some (toB z11)
theorem short_small_w  (M : Av) (m : Nat) (s : Str) (r : Str) (hm : short_small m s = some r) (w : World) (hS : S0 M [] w) : Calls Tryd.prog 48 ⟨[.string ⟨⟨s⟩⟩]⟩ w (fun e w' => ∃ v, e = .returned v ∧ v = .string ⟨⟨r⟩⟩ ∧ SH M (fpl []) w [] w') := by
 rw [short_small] at hm
 have hS0 : SH M (fpl []) w [] w := hS
 generalize hX : fpl [] = X at hS0 ⊢
 clear hS hX
 have hS := hS0
 clear hS0
 refine calls_entryP Tryd.func48 rfl Tryd.ntmps48 rfl fun _ H => ?_
 refine s_reg [] [0] [(0, [], .string ⟨⟨s⟩⟩)] [] H (by kernel_rfl) trivial fun _ wd1 H2 hb => ?_
 clear H
 replace hS := hS.below hb
 clear hb
 refine w_seq ?_
 refine wl_start ?_
 refine wl_batch 0 1 [] [6] [(6, [], .string ⟨⟨s⟩⟩)] [] H2 (by decide) (by kernel_rfl) trivial fun _ wd3 H4 hb => ?_
 clear H2
 replace hS := hS.below hb
 clear hb
 have hd := hS.hand [] [] rfl rfl
 refine m_stp [7] [] H4 rfl rfl rfl rfl (o_bytes (E := 5) H4 hd rfl (by kernel_rfl) (by kernel_rfl) (by kernel_rfl)) (fun _ => rfl) fun _ wd7 v H8 hq => ?_
 clear H4 hd
 obtain ⟨b5, c6, rfl, hc_b5, hq⟩ := hq
 replace hS : SH M X w [Ent.row .u8 b5 (ofB s) (ln (ofB s))] _ := hS.join [] [] rfl rfl hq
 clear hq
 refine wl_batch 2 3 [] [3] [(3, [], .slice (some ⟨b5, 0, none⟩) ((ofB s).length) c6)] [] H8 (by decide) (by kernel_rfl) trivial fun _ wd9 H10 hb => ?_
 clear H8
 replace hS := hS.below hb
 clear hb
 refine wl_end rfl ?_
 obtain ⟨z11, hz, hm⟩ := bindE hm
 refine w_cut (fun a' w' => Fr 30 [(3, [], .slice (some ⟨b5, 0, none⟩) ((ofB s).length) c6)] a' ∧ SH M X w [Ent.row .u8 b5 z11 (ln (ofB s))] w') ?_ ?_
 ·replace hm := hz
  refine s_reg [] [3, 8, 9, 10] [(3, [], .slice (some ⟨b5, 0, none⟩) ((ofB s).length) c6), (8, [], .slice (some ⟨b5, 0, none⟩) ((ofB s).length) c6), (9, [], .int .i64 (ln (ofB s))), (10, [], .int .i64 0)] [] H10 (by kernel_rfl) trivial fun _ wd12 H13 hb => ?_
  clear H10
  replace hS := hS.below hb
  clear hb
  refine w_block ?_
  refine w_loop (fun kk a' w' => ∃ (v14 : Int) (v15 : List Int), short_small_L1 m s kk v14 v15 = some _ ∧ Fr 30 [(3, [], .slice (some ⟨b5, 0, none⟩) ((ofB s).length) c6), (8, [], .slice (some ⟨b5, 0, none⟩) ((ofB s).length) c6), (9, [], .int .i64 (ln (ofB s))), (10, [], .int .i64 v14)] a' ∧ SH M X w [Ent.row .u8 b5 v15 (ln (ofB s))] w') ⟨_, 0, ofB s, hm, FrG.keep (ks := [3, 8, 9, 10]) H13 (by kernel_rfl), hS⟩ ?_
  clear hm H13 hS
  rintro kk _ wd35 ⟨v14, v15, hm, H, hS⟩
  cases kk with
  | zero => exact noneE hm
  | succ kk =>
   rw [short_small_L1] at hm
   refine s_reg [] [3, 8, 9, 10, 11] [(3, [], .slice (some ⟨b5, 0, none⟩) ((ofB s).length) c6), (8, [], .slice (some ⟨b5, 0, none⟩) ((ofB s).length) c6), (9, [], .int .i64 (ln (ofB s))), (10, [], .int .i64 v14), (11, [], .bool (decide (v14 < (ln (ofB s)))))] [] H (by kernel_rfl) trivial fun _ wd16 H17 hb => ?_
   clear H
   replace hS := hS.below hb
   clear hb
   refine w_seq ?_
   refine w_if H17 rfl (fun hc => ?_) (fun hc => ?c34)
   case c34 =>
    replace hm := bF hc hm
    refine w_exit rfl ?_
    obtain rfl := someE hm
    exact ⟨FrG.keep (ks := [3]) H17 (by kernel_rfl), hS⟩
   replace hm := bT hc hm
   refine w_skip ?_
   obtain ⟨z18, hz, hm⟩ := bindE hm
   refine w_cut (fun a' w' => Fr 30 [(3, [], .slice (some ⟨b5, 0, none⟩) ((ofB s).length) c6), (8, [], .slice (some ⟨b5, 0, none⟩) ((ofB s).length) c6), (9, [], .int .i64 (ln (ofB s))), (10, [], .int .i64 v14)] a' ∧ SH M X w [Ent.row .u8 b5 z18 (ln (ofB s))] w') ?_ ?_
   ·replace hm := hz
    refine w_block ?_
    obtain ⟨ho19, hm⟩ := chkE hm
    refine s_reg [(.int .u8 (gi v15 v14))] [3, 4, 5, 8, 9, 10] [(3, [], .slice (some ⟨b5, 0, none⟩) ((ofB s).length) c6), (4, [], .int .i64 v14), (5, [], .int .u8 (gi v15 v14)), (8, [], .slice (some ⟨b5, 0, none⟩) ((ofB s).length) c6), (9, [], .int .i64 (ln (ofB s))), (10, [], .int .i64 v14)] [fun _ => oka (some ⟨b5, 0, none⟩) ∧ 0 ≤ v14 ∧ v14 < ln (ofB s), fun wz => V.at1 ⟨b5, 0 + (v14).toNat * 1, none⟩ (.int .u8 (gi v15 v14)) wz] H17 (by kernel_rfl) ⟨(⟨rfl, ho19⟩), (Rw.ixn (hS.rw 0 rfl) ho19), trivial⟩ fun _ wd20 H21 hb => ?_
    clear H17
    replace hS := hS.below hb
    clear hb
    obtain ⟨x22, hx22, hm⟩ := letE hm
    refine s_reg [] [3, 4, 5, 8, 9, 10, 20] [(3, [], .slice (some ⟨b5, 0, none⟩) ((ofB s).length) c6), (4, [], .int .i64 v14), (5, [], .int .u8 (gi v15 v14)), (8, [], .slice (some ⟨b5, 0, none⟩) ((ofB s).length) c6), (9, [], .int .i64 (ln (ofB s))), (10, [], .int .i64 v14), (20, [], .bool x22)] [] H21 (by subst hx22; kernel_rfl) trivial fun _ wd23 H24 hb => ?_
    clear H21
    replace hS := hS.below hb
    clear hb
    refine w_if H24 rfl (fun hc => ?_) (fun hc => ?c30)
    case c30 =>
     replace hm := bF hc hm
     refine w_skip ?_
     obtain rfl := someE hm
     exact ⟨FrG.keep (ks := [3, 8, 9, 10]) H24 (by kernel_rfl), hS⟩
    replace hm := bT hc hm
    refine wl_start ?_
    refine wl_batch 0 6 [] [3, 8, 9, 10, 25, 26] [(3, [], .slice (some ⟨b5, 0, none⟩) ((ofB s).length) c6), (8, [], .slice (some ⟨b5, 0, none⟩) ((ofB s).length) c6), (9, [], .int .i64 (ln (ofB s))), (10, [], .int .i64 v14), (25, [], .int .u8 (wu8 ((wu8 ((gi v15 v14) + 97)) - 65))), (26, [], .pointer (some ⟨b5, 0 + (v14).toNat * 1, none⟩))] [fun _ => oka (some ⟨b5, 0, none⟩) ∧ 0 ≤ v14 ∧ v14 < ln (ofB s)] H24 (by decide) (by kernel_rfl) ⟨(⟨rfl, ho19⟩), trivial⟩ fun _ wd25 H26 hb => ?_
    clear H24
    replace hS := hS.below hb
    clear hb
    have hd := hS.hand [0] [] rfl rfl
    refine m_stp0 [3, 8, 9, 10] [(3, [], .slice (some ⟨b5, 0, none⟩) ((ofB s).length) c6), (8, [], .slice (some ⟨b5, 0, none⟩) ((ofB s).length) c6), (9, [], .int .i64 (ln (ofB s))), (10, [], .int .i64 v14)] H26 rfl rfl rfl (o_rstore H26 hd rfl rfl (by kernel_rfl) ho19) rfl fun _ wd27 H28 hq => ?_
    clear H26 hd
    obtain ⟨_, hq⟩ := hq
    obtain ⟨q29, hq29, hm⟩ := letE hm
    rw [← hq29] at hq
    replace hS : SH M X w [Ent.row .u8 b5 q29 (ln (ofB s))] _ := hS.join [0] [] rfl rfl hq
    clear hq
    refine wl_end rfl ?_
    obtain rfl := someE hm
    exact ⟨FrG.keep (ks := [3, 8, 9, 10]) H28 (by kernel_rfl), hS⟩
   ·rintro _ wd33 ⟨H, hS⟩
    refine w_reg [] [3, 8, 9, 10] [(3, [], .slice (some ⟨b5, 0, none⟩) ((ofB s).length) c6), (8, [], .slice (some ⟨b5, 0, none⟩) ((ofB s).length) c6), (9, [], .int .i64 (ln (ofB s))), (10, [], .int .i64 (w64 (v14 + 1)))] [] H (by kernel_rfl) trivial fun _ wd31 H32 hb => ?_
    clear H
    replace hS := hS.below hb
    clear hb
    exact ⟨_, Nat.lt_succ_self _, w64 (v14 + 1), z18, hm, FrG.keep (ks := [3, 8, 9, 10]) H32 (by kernel_rfl), hS⟩
 ·rintro _ wd38 ⟨H, hS⟩
  refine s_reg [(.string ⟨⟨toB z11⟩⟩)] [2] [(2, [], .string ⟨⟨toB z11⟩⟩)] [fun wz => ∀ w', Below wz.heap.size wz w' → (convert 66 9 (.slice (some ⟨b5, 0, none⟩) ((ofB s).length) c6)).run Tryd.prog w' = .ok (.string ⟨⟨toB z11⟩⟩) w'] H (by kernel_rfl) ⟨(conv_row (E := 5) (by kernel_rfl) (by kernel_rfl) (by kernel_rfl) (hS.rw 0 rfl).1 (hS.rw 0 rfl).2), trivial⟩ fun _ wd36 H37 hb => ?_
  clear H
  replace hS := hS.below hb
  clear hb
  replace hS : SH M X w [] _ := hS.sel [] rfl
  refine w_ret ?_
  obtain rfl := someE hm
  exact retR1 H37 rfl rfl ⟨_, rfl, rfl, (hS.sel [] rfl)⟩
theorem short_small_ok  (m : Nat) (s : Str) (r : Str) (hm : short_small m s = some r) : Ret Tryd.prog 48 ⟨[.string ⟨⟨s⟩⟩]⟩ (.string ⟨⟨r⟩⟩) := retP_of (Tryd.call48 _) (fun w h => short_small_w F0 m   s r hm w h)

def short_Wide (m : Nat) (l_ : List TValue) : Option (Str) :=
  Option.bind (
  chk (((ln l_) == 1) = true → 0 ≤ (0 : Int) ∧ (0 : Int) < ln l_) <|
  lt (cond ((ln l_) == 1) (((gi l_ (0 : Int)).Token.Kind) == 1) false) fun x5 =>
  cond x5 (
  chk (0 ≤ (0 : Int) ∧ (0 : Int) < ln l_) <|
  Option.bind (short_small m ((gi l_ (0 : Int)).Token.Text)) fun y9 =>
  Option.bind (slices_Contains_string_string m ([[105, 110, 105, 116, 105, 97, 108], [105, 110, 104, 101, 114, 105, 116], [117, 110, 115, 101, 116], [114, 101, 118, 101, 114, 116]] : List Str) y9) fun y16 =>
  cond y16 (
  some (.inl y9)) (
  some (.inr ()))) (
  some (.inr ()))) fun (z3 : Sum (Str) (Unit)) => sumK z3 fun s_z3 =>
  some []
theorem short_Wide_w {g_l_ : Gh} (M : Av) (m : Nat) (l_ : List TValue) (r : Str) (hm : short_Wide m l_ = some r) (w : World) (hS : S0 M [Ent.im tyValue l_ g_l_] w) : Calls Tryd.prog 28 ⟨[.slice g_l_.a l_.length g_l_.c]⟩ w (fun e w' => ∃ v, e = .returned v ∧ v = .string ⟨⟨r⟩⟩ ∧ SH M (fpl [Ent.im tyValue l_ g_l_]) w [] w') := by
 rw [short_Wide] at hm
 have hS0 : SH M (fpl [Ent.im tyValue l_ g_l_]) w [Ent.im tyValue l_ g_l_] w := hS
 generalize hX : fpl [Ent.im tyValue l_ g_l_] = X at hS0 ⊢
 clear hS hX
 have hS := hS0
 clear hS0
 refine calls_entryP Tryd.func28 rfl Tryd.ntmps28 rfl fun _ H => ?_
 refine s_reg [] [0] [(0, [], .slice g_l_.a l_.length g_l_.c)] [] H (by kernel_rfl) trivial fun _ wd1 H2 hb => ?_
 clear H
 replace hS := hS.below hb
 clear hb
 obtain ⟨z3, hz, hm_z3⟩ := bindE hm
 refine w_cut (fun a' w' => ∃ s_z3 : Unit, z3 = Sum.inr s_z3 ∧ Fr 25 [] a' ∧ SH M X w [Ent.im tyValue l_ g_l_] w') ?_ ?_
 ·replace hm := hz
  obtain ⟨ho4, hm⟩ := chkE hm
  obtain ⟨x5, hx5, hm⟩ := letE hm
  refine s_reg [(.int .u8 ((gi l_ (0 : Int)).Token.Kind))] [0, 14] [(0, [], .slice g_l_.a l_.length g_l_.c), (14, [], .bool x5)] [fun _ => (((ln l_) == 1) = true ∧ True → oka g_l_.a ∧ 0 ≤ (0 : Int) ∧ (0 : Int) < ln l_), fun wz => (((ln l_) == 1) = true ∧ True → V.at1 ⟨ab g_l_.a, ao g_l_.a + ((0 : Int)).toNat * 6, none⟩ (.int .u8 ((gi l_ (0 : Int)).Token.Kind)) wz)] H2 (by subst hx5; kernel_rfl) ⟨fun hg => (hS.im 0 rfl).oki (ho4 hg.1), fun hg => (hS.im 0 rfl).at1 (ho4 hg.1) 0 rfl, trivial⟩ fun _ wd6 H7 hb => ?_
  clear H2
  replace hS := hS.below hb
  clear hb
  refine w_if H7 rfl (fun hc => ?_) (fun hc => ?c22)
  case c22 =>
   replace hm := bF hc hm
   refine w_skip ?_
   obtain rfl := someE hm
   exact ⟨_, rfl, FrG.keep (ks := []) H7 (by kernel_rfl), hS⟩
  replace hm := bT hc hm
  obtain ⟨ho8, hm⟩ := chkE hm
  obtain ⟨y9, hy9, hm⟩ := bindE hm
  refine s_reg [(.string ⟨⟨(gi l_ (0 : Int)).Token.Text⟩⟩), (.string ⟨⟨y9⟩⟩)] [3] [(3, [], .string ⟨⟨y9⟩⟩)] [fun _ => oka g_l_.a ∧ 0 ≤ (0 : Int) ∧ (0 : Int) < ln l_, fun wz => V.at1 ⟨ab g_l_.a, ao g_l_.a + ((0 : Int)).toNat * 6 + 1, none⟩ (.string ⟨⟨(gi l_ (0 : Int)).Token.Text⟩⟩) wz, fun wz => RetB Tryd.prog 48 ⟨[.string ⟨⟨(gi l_ (0 : Int)).Token.Text⟩⟩]⟩ (.string ⟨⟨y9⟩⟩) wz] H7 (by kernel_rfl) ⟨((hS.im 0 rfl).oki ho8), ((hS.im 0 rfl).at1 ho8 1 rfl), ((short_small_ok m _ _ hy9).b), trivial⟩ fun _ wd10 H11 hb => ?_
  clear H7
  replace hS := hS.below hb
  clear hb
  refine w_seq ?_
  refine wl_start ?_
  have hd := hS.hand [] [0] rfl rfl
  refine m_stp [21, 3] [(3, [], .string ⟨⟨y9⟩⟩)] H11 rfl rfl rfl rfl (o_lit (T := tS) (E := 9) (zv := .string ⟨⟨[]⟩⟩) [.string ⟨⟨[105, 110, 105, 116, 105, 97, 108]⟩⟩, .string ⟨⟨[105, 110, 104, 101, 114, 105, 116]⟩⟩, .string ⟨⟨[117, 110, 115, 101, 116]⟩⟩, .string ⟨⟨[114, 101, 118, 101, 114, 116]⟩⟩] ([[105, 110, 105, 116, 105, 97, 108], [105, 110, 104, 101, 114, 105, 116], [117, 110, 115, 101, 116], [114, 101, 118, 101, 114, 116]] : List Str) [gL [], gL [], gL [], gL []] _ H11 hd rfl (by kernel_rfl) (by kernel_rfl) (by kernel_rfl) (by kernel_rfl) (by kernel_rfl) (by kernel_rfl) (by kernel_rfl) rfl (InnL.cons trivial (InnL.cons trivial (InnL.cons trivial (InnL.cons trivial InnL.nil))))) (fun _ => rfl) fun _ wd14 v H15 hq => ?_
  clear H11 hd
  obtain ⟨g12, rfl, hq⟩ := hq
  replace hS : SH M X w [Ent.own 9 tS ([[105, 110, 105, 116, 105, 97, 108], [105, 110, 104, 101, 114, 105, 116], [117, 110, 115, 101, 116], [114, 101, 118, 101, 114, 116]] : List Str) g12, Ent.im tyValue l_ g_l_] _ := hS.join [] [0] rfl rfl hq
  clear hq
  obtain ⟨y16, hy16, hm⟩ := bindE hm
  refine wl_batch 1 3 [(.bool y16)] [3, 23] [(3, [], .string ⟨⟨y9⟩⟩), (23, [], .bool y16)] [fun wz => RetB Tryd.prog 16 ⟨[.slice g12.a 4 g12.c, .string ⟨⟨y9⟩⟩]⟩ (.bool y16) wz] H15 (by decide) (by kernel_rfl) ⟨(slices_Contains_string_string_ok (g_s := g12) m _ _ _ hy16 _ (s0im s0nil (hS.osl 0 rfl))), trivial⟩ fun _ wd17 H18 hb => ?_
  clear H15
  replace hS := hS.below hb
  clear hb
  refine wl_end rfl ?_
  replace hS : SH M X w [Ent.im tyValue l_ g_l_] _ := hS.sel [1] rfl
  refine w_if H18 rfl (fun hc => ?_) (fun hc => ?c21)
  case c21 =>
   replace hm := bF hc hm
   refine w_skip ?_
   obtain rfl := someE hm
   exact ⟨_, rfl, FrG.keep (ks := []) H18 (by kernel_rfl), hS⟩
  replace hm := bT hc hm
  refine s_reg [] [2] [(2, [], .string ⟨⟨y9⟩⟩)] [] H18 (by kernel_rfl) trivial fun _ wd19 H20 hb => ?_
  clear H18
  replace hS := hS.below hb
  clear hb
  refine w_ret ?_
  obtain rfl := someE hm
  have hm := hm_z3
  obtain rfl := someE hm
  exact retR1 H20 rfl rfl ⟨_, rfl, rfl, (hS.sel [] rfl)⟩
 ·rintro _ wd25 ⟨s_z3, hz, H, hS⟩
  subst hz
  replace hm := sumR hm_z3
  replace hS : SH M X w [] _ := hS.sel [] rfl
  refine s_reg [] [2] [(2, [], .string ⟨⟨[]⟩⟩)] [] H (by kernel_rfl) trivial fun _ wd23 H24 hb => ?_
  clear H
  replace hS := hS.below hb
  clear hb
  refine w_ret ?_
  obtain rfl := someE hm
  exact retR1 H24 rfl rfl ⟨_, rfl, rfl, (hS.sel [] rfl)⟩
theorem short_Wide_ok {g_l_ : Gh} (m : Nat) (l_ : List TValue) (r : Str) (hm : short_Wide m l_ = some r) (w : World) (hL : S0 F0 [Ent.im tyValue l_ g_l_] w ∧ fpl [Ent.im tyValue l_ g_l_] = []) : RetB Tryd.prog 28 ⟨[.slice g_l_.a l_.length g_l_.c]⟩ (.string ⟨⟨r⟩⟩) w := retB_of hL (Tryd.call28 _) (fun w' h => short_Wide_w F0 m   l_ r hm w' h)

def wide_unset (m : Nat) (name_ : Str) : Option (Str) :=
  Option.bind (props_Inherited m name_) fun y3 =>
  cond y3.1 (
  some [105, 110, 104, 101, 114, 105, 116]) (
  some [105, 110, 105, 116, 105, 97, 108])
theorem wide_unset_w  (M : Av) (m : Nat) (name_ : Str) (r : Str) (hm : wide_unset m name_ = some r) (w : World) (hS : S0 M [gE0] w) : Calls Tryd.prog 29 ⟨[.string ⟨⟨name_⟩⟩]⟩ w (fun e w' => ∃ v, e = .returned v ∧ v = .string ⟨⟨r⟩⟩ ∧ SH M (fpl [gE0]) w [] w') := by
 rw [wide_unset] at hm
 have hS0 : SH M (fpl [gE0]) w [gE0] w := hS
 generalize hX : fpl [gE0] = X at hS0 ⊢
 clear hS hX
 have hS := hS0
 clear hS0
 refine calls_entryP Tryd.func29 rfl Tryd.ntmps29 rfl fun _ H => ?_
 refine s_reg [] [0] [(0, [], .string ⟨⟨name_⟩⟩)] [] H (by kernel_rfl) trivial fun _ wd1 H2 hb => ?_
 clear H
 replace hS := hS.below hb
 clear hb
 refine w_seq ?_
 obtain ⟨y3, hy3, hm⟩ := bindE hm
 refine s_reg [(.tuple ⟨[.bool y3.1, .int .i64 y3.2]⟩)] [3] [(3, [], .bool y3.1)] [fun wz => RetB Tryd.prog 14 ⟨[.string ⟨⟨name_⟩⟩]⟩ (.tuple ⟨[.bool y3.1, .int .i64 y3.2]⟩) wz] H2 (by kernel_rfl) ⟨(props_Inherited_ok m _ _ hy3 _ (s0im s0nil (hS.im 0 rfl))), trivial⟩ fun _ wd4 H5 hb => ?_
 clear H2
 replace hS := hS.below hb
 clear hb
 refine s_reg [] [10] [(10, [], .bool y3.1)] [] H5 (by kernel_rfl) trivial fun _ wd6 H7 hb => ?_
 clear H5
 replace hS := hS.below hb
 clear hb
 refine w_if H7 rfl (fun hc => ?c12) (fun hc => ?_)
 case c12 =>
  replace hm := bT hc hm
  refine s_reg [] [2] [(2, [], .string ⟨⟨[105, 110, 104, 101, 114, 105, 116]⟩⟩)] [] H7 (by kernel_rfl) trivial fun _ wd8 H9 hb => ?_
  clear H7
  replace hS := hS.below hb
  clear hb
  refine w_ret ?_
  obtain rfl := someE hm
  exact retR1 H9 rfl rfl ⟨_, rfl, rfl, (hS.sel [] rfl)⟩
 replace hm := bF hc hm
 refine w_skip ?_
 refine s_reg [] [2] [(2, [], .string ⟨⟨[105, 110, 105, 116, 105, 97, 108]⟩⟩)] [] H7 (by kernel_rfl) trivial fun _ wd10 H11 hb => ?_
 clear H7
 replace hS := hS.below hb
 clear hb
 refine w_ret ?_
 obtain rfl := someE hm
 exact retR1 H11 rfl rfl ⟨_, rfl, rfl, (hS.sel [] rfl)⟩
theorem wide_unset_ok  (m : Nat) (name_ : Str) (r : Str) (hm : wide_unset m name_ = some r) (w : World) (hL : S0 F0 [gE0] w ∧ fpl [gE0] = []) : RetB Tryd.prog 29 ⟨[.string ⟨⟨name_⟩⟩]⟩ (.string ⟨⟨r⟩⟩) w := retB_of hL (Tryd.call29 _) (fun w' h => wide_unset_w F0 m   name_ r hm w' h)

theorem Inn_TValue_nc {M : Av} {w : World} {x : TValue} {g : Nat → Gh} (h : Inn_TValue M w x g) : Inn_TValue (fun b => M b ∨ Ncell w b) w x g := by
  induction h with
  | mk x g h0 _h1 ih1 => exact .mk x g (SlC.nc (z := 6) (enc := enc_TValue) (by decide) (fun _ _ => rfl) h0) ih1
theorem nc_tyValue : TyNc tyValue := ⟨by decide, fun _ _ _ _ h => Inn_TValue_nc h⟩
theorem nc_tyDeclared : TyNc tyDeclared := ⟨by decide, fun _ _ _ _ h => tyDeclared_mk (SlG.nc nc_tyValue (tyDeclared_i0 h))⟩
def wide_decide_S (rec_ : (List TDeclared) → Int → Str → Option (Int × Str)) : Prop := ∀ (g_l_ : Gh) (M : Av) (l_ : List TDeclared) (below : Int) (name_ : Str) (r : Int × Str), rec_ l_ below name_ = some r → ∀ w, S0 M [Ent.im tyDeclared l_ g_l_, gE0] w → Calls Tryd.prog 15 ⟨[.slice g_l_.a l_.length g_l_.c, .int .u8 below, .string ⟨⟨name_⟩⟩]⟩ w (fun e w' => ∃ v, e = .returned v ∧ v = .tuple ⟨[.int .i64 r.1, .string ⟨⟨r.2⟩⟩]⟩ ∧ SH M (fpl [Ent.im tyDeclared l_ g_l_, gE0]) w [] w')
def wide_mean_2 (m : Nat) (rec_wide_decide : (List TDeclared) → Int → Str → Option (Int × Str)) (l_ : List TDeclared) (at_ : Int) (word : Str) : Option (Int × Str) :=
  chk (0 ≤ at_ ∧ at_ < ln l_) <|
  cond (word == [114, 101, 118, 101, 114, 116]) (
  Option.bind (rec_wide_decide l_ ((gi l_ at_).Origin) ((gi l_ at_).Long.Name)) fun y10 =>
  some (y10.1, y10.2)) (
  cond (word == [117, 110, 115, 101, 116]) (
  Option.bind (wide_unset m ((gi l_ at_).Long.Name)) fun y15 =>
  some ((-1), y15)) (
  some ((-1), word)))
theorem wide_mean_2_w {g_l_ : Gh} (M : Av) (m : Nat) (rec_wide_decide : (List TDeclared) → Int → Str → Option (Int × Str)) (hrec_wide_decide : wide_decide_S rec_wide_decide) (l_ : List TDeclared) (at_ : Int) (word : Str) (r : Int × Str) (hm : wide_mean_2 m rec_wide_decide l_ at_ word = some r) (w : World) (hS : S0 M [Ent.im tyDeclared l_ g_l_, gE0] w) : Calls Tryd.prog 17 ⟨[.slice g_l_.a l_.length g_l_.c, .int .i64 at_, .string ⟨⟨word⟩⟩]⟩ w (fun e w' => ∃ v, e = .returned v ∧ v = .tuple ⟨[.int .i64 r.1, .string ⟨⟨r.2⟩⟩]⟩ ∧ SH M (fpl [Ent.im tyDeclared l_ g_l_, gE0]) w [] w') := by
 rw [wide_mean_2] at hm
 have hS0 : SH M (fpl [Ent.im tyDeclared l_ g_l_, gE0]) w [Ent.im tyDeclared l_ g_l_, gE0] w := hS
 generalize hX : fpl [Ent.im tyDeclared l_ g_l_, gE0] = X at hS0 ⊢
 clear hS hX
 have hS := hS0
 clear hS0
 refine calls_entryP Tryd.func17 rfl Tryd.ntmps17 rfl fun _ H => ?_
 refine s_reg [] [0, 1, 2] [(0, [], .slice g_l_.a l_.length g_l_.c), (1, [], .int .i64 at_), (2, [], .string ⟨⟨word⟩⟩)] [] H (by kernel_rfl) trivial fun _ wd1 H2 hb => ?_
 clear H
 replace hS := hS.below hb
 clear hb
 obtain ⟨ho3, hm⟩ := chkE hm
 refine s_reg [(.string ⟨⟨(gi l_ at_).Long.Name⟩⟩)] [0, 1, 2, 8] [(0, [], .slice g_l_.a l_.length g_l_.c), (1, [], .int .i64 at_), (2, [], .string ⟨⟨word⟩⟩), (8, [], .string ⟨⟨(gi l_ at_).Long.Name⟩⟩)] [fun _ => oka g_l_.a ∧ 0 ≤ at_ ∧ at_ < ln l_, fun wz => V.at1 ⟨ab g_l_.a, ao g_l_.a + (at_).toNat * 11, none⟩ (.string ⟨⟨(gi l_ at_).Long.Name⟩⟩) wz] H2 (by kernel_rfl) ⟨((hS.im 0 rfl).oki ho3), ((hS.im 0 rfl).at1 ho3 0 rfl), trivial⟩ fun _ wd4 H5 hb => ?_
 clear H2
 replace hS := hS.below hb
 clear hb
 refine w_seq ?_
 refine s_reg [] [0, 1, 2, 8, 15] [(0, [], .slice g_l_.a l_.length g_l_.c), (1, [], .int .i64 at_), (2, [], .string ⟨⟨word⟩⟩), (8, [], .string ⟨⟨(gi l_ at_).Long.Name⟩⟩), (15, [], .string ⟨⟨word⟩⟩)] [] H5 (by kernel_rfl) trivial fun _ wd6 H7 hb => ?_
 clear H5
 replace hS := hS.below hb
 clear hb
 refine w_block ?_
 refine s_reg [] [0, 1, 2, 8, 15, 16] [(0, [], .slice g_l_.a l_.length g_l_.c), (1, [], .int .i64 at_), (2, [], .string ⟨⟨word⟩⟩), (8, [], .string ⟨⟨(gi l_ at_).Long.Name⟩⟩), (15, [], .string ⟨⟨word⟩⟩), (16, [], .bool (word == [114, 101, 118, 101, 114, 116]))] [] H7 (by kernel_rfl) trivial fun _ wd8 H9 hb => ?_
 clear H7
 replace hS := hS.below hb
 clear hb
 refine w_if H9 rfl (fun hc => ?c21) (fun hc => ?_)
 case c21 =>
  replace hm := bT hc hm
  obtain ⟨y10, hy10, hm⟩ := bindE hm
  refine s_reg [(.int .u8 ((gi l_ at_).Origin)), (.tuple ⟨[.int .i64 y10.1, .string ⟨⟨y10.2⟩⟩]⟩)] [6, 7] [(6, [], .int .i64 y10.1), (7, [], .string ⟨⟨y10.2⟩⟩)] [fun _ => oka g_l_.a ∧ 0 ≤ at_ ∧ at_ < ln l_, fun wz => V.at1 ⟨ab g_l_.a, ao g_l_.a + (at_).toNat * 11 + 4, none⟩ (.int .u8 ((gi l_ at_).Origin)) wz, fun wz => RetB Tryd.prog 15 ⟨[.slice g_l_.a l_.length g_l_.c, .int .u8 ((gi l_ at_).Origin), .string ⟨⟨(gi l_ at_).Long.Name⟩⟩]⟩ (.tuple ⟨[.int .i64 y10.1, .string ⟨⟨y10.2⟩⟩]⟩) wz] H9 (by kernel_rfl) ⟨((hS.im 0 rfl).oki ho3), ((hS.im 0 rfl).at1 ho3 4 rfl), (retB_of (s0im (s0im s0nil (hS.im 1 rfl)) (hS.im 0 rfl)) (Tryd.call15 _) (fun w' h' => hrec_wide_decide (g_l_) F0 _ _ _ _ hy10 w' h')), trivial⟩ fun _ wd11 H12 hb => ?_
  clear H9
  replace hS := hS.below hb
  clear hb
  replace hS : SH M X w [gE0] _ := hS.sel [1] rfl
  refine w_ret ?_
  obtain rfl := someE hm
  exact retR2 H12 rfl rfl rfl ⟨_, rfl, rfl, (hS.sel [] rfl)⟩
 replace hm := bF hc hm
 refine s_reg [] [2, 8, 28] [(2, [], .string ⟨⟨word⟩⟩), (8, [], .string ⟨⟨(gi l_ at_).Long.Name⟩⟩), (28, [], .bool (word == [117, 110, 115, 101, 116]))] [] H9 (by kernel_rfl) trivial fun _ wd13 H14 hb => ?_
 clear H9
 replace hS := hS.below hb
 clear hb
 replace hS : SH M X w [gE0] _ := hS.sel [1] rfl
 refine w_if H14 rfl (fun hc => ?_) (fun hc => ?c20)
 case c20 =>
  replace hm := bF hc hm
  refine w_skip ?_
  refine s_reg [] [6, 7] [(6, [], .int .i64 (-1)), (7, [], .string ⟨⟨word⟩⟩)] [] H14 (by kernel_rfl) trivial fun _ wd18 H19 hb => ?_
  clear H14
  replace hS := hS.below hb
  clear hb
  refine w_ret ?_
  obtain rfl := someE hm
  exact retR2 H19 rfl rfl rfl ⟨_, rfl, rfl, (hS.sel [] rfl)⟩
 replace hm := bT hc hm
 obtain ⟨y15, hy15, hm⟩ := bindE hm
 refine s_reg [(.string ⟨⟨y15⟩⟩)] [6, 7] [(6, [], .int .i64 (-1)), (7, [], .string ⟨⟨y15⟩⟩)] [fun wz => RetB Tryd.prog 29 ⟨[.string ⟨⟨(gi l_ at_).Long.Name⟩⟩]⟩ (.string ⟨⟨y15⟩⟩) wz] H14 (by kernel_rfl) ⟨(wide_unset_ok m _ _ hy15 _ (s0im s0nil (hS.im 0 rfl))), trivial⟩ fun _ wd16 H17 hb => ?_
 clear H14
 replace hS := hS.below hb
 clear hb
 refine w_ret ?_
 obtain rfl := someE hm
 exact retR2 H17 rfl rfl rfl ⟨_, rfl, rfl, (hS.sel [] rfl)⟩
theorem wide_mean_2_ok {g_l_ : Gh} (m : Nat) (rec_wide_decide : (List TDeclared) → Int → Str → Option (Int × Str)) (hrec_wide_decide : wide_decide_S rec_wide_decide) (l_ : List TDeclared) (at_ : Int) (word : Str) (r : Int × Str) (hm : wide_mean_2 m rec_wide_decide l_ at_ word = some r) (w : World) (hL : S0 F0 [Ent.im tyDeclared l_ g_l_, gE0] w ∧ fpl [Ent.im tyDeclared l_ g_l_, gE0] = []) : RetB Tryd.prog 17 ⟨[.slice g_l_.a l_.length g_l_.c, .int .i64 at_, .string ⟨⟨word⟩⟩]⟩ (.tuple ⟨[.int .i64 r.1, .string ⟨⟨r.2⟩⟩]⟩) w := retB_of hL (Tryd.call17 _) (fun w' h => wide_mean_2_w F0 m rec_wide_decide hrec_wide_decide l_ at_ word r hm w' h)
def wide_decide_L1 (m : Nat) (l_ : List TDeclared) (below : Int) (name_ : Str) (y18 : List TDeclared) (rec_wide_decide : (List TDeclared) → Int → Str → Option (Int × Str)) : Nat → Int → Option (Int × Str)
  | 0, _ => none
  | kk + 1, v24 =>
    cond (decide (v24 < 0)) (
    Option.bind (wide_unset m name_) fun y62 =>
    some ((-1), y62)) (
    lt (cond (!(((gi y18 v24).Long.Name) == name_)) true (decide (below ≤ ((gi y18 v24).Origin)))) fun x33 =>
    cond x33 (
    wide_decide_L1 m l_ below name_ y18 rec_wide_decide kk (v24 - 1)) (
    Option.bind (
    cond (((gi y18 v24).Long.Whole) == []) (
    Option.bind (short_Wide m ((gi y18 v24).Long.Value)) fun y39 =>
    cond (!(y39 == [])) (
    Option.bind (wide_mean_2 m rec_wide_decide l_ v24 y39) fun y44 =>
    some (.inl (y44.1, y44.2))) (
    some (.inr ()))) (
    some (.inr ()))) fun (z36 : Sum (Int × Str) (Unit)) => sumK z36 fun s_z36 =>
    some (v24, [])))
def wide_decide_r (m : Nat) : Nat → (List TDeclared) → Int → Str → Option (Int × Str)
  | 0, _, _, _ => none
  | k + 1, l_, below, name_ =>
    lt (slices_Backward_api_Declared_api_Declared l_) fun y18 =>
    chk (ln y18 ≤ 1099511627776) <|
    wide_decide_L1 m l_ below name_ y18 (wide_decide_r m k) m (((y18).length : Int) - 1)
theorem wide_decide_w (m : Nat) : ∀ (k : Nat), wide_decide_S (wide_decide_r m  k) := by
 intro k
 induction k with
 | zero => intro g_l_ M l_ below name_ r hm; exact noneE hm
 | succ k ih =>
  intro g_l_ M l_ below name_ r hm w hS
  rw [wide_decide_r] at hm
  have hS0 : SH M (fpl [Ent.im tyDeclared l_ g_l_, gE0]) w [Ent.im tyDeclared l_ g_l_, gE0] w := hS
  generalize hX : fpl [Ent.im tyDeclared l_ g_l_, gE0] = X at hS0 ⊢
  clear hS hX
  have hS := hS0
  clear hS0
  refine calls_entryM Tryd.func15 rfl Tryd.ntmps15 rfl fun _ H => ?_
  refine w_seq ?_
  refine wl_start ?_
  have hd := hS.hand [] [0, 1] rfl rfl
  refine m_stp [3, 1, 2] [(1, [], .int .u8 below), (2, [], .string ⟨⟨name_⟩⟩)] H rfl rfl rfl rfl (o_box [.slice g_l_.a l_.length g_l_.c] H hd rfl rfl) (fun _ => rfl) fun _ wd2 v H3 hq => ?_
  clear H hd
  obtain ⟨b1, rfl, hq⟩ := hq
  replace hS : SH M X w [Ent.blk b1 [.slice g_l_.a l_.length g_l_.c], Ent.im tyDeclared l_ g_l_, gE0] _ := hS.join [] [0, 1] rfl rfl hq
  clear hq
  have hd := hS.hand [] [0, 1, 2] rfl rfl
  refine m_stp [4, 2, 3] [(2, [], .string ⟨⟨name_⟩⟩), (3, [], .pointer (some ⟨b1, 0, none⟩))] H3 rfl rfl rfl rfl (o_box [.int .u8 below] H3 hd rfl rfl) (fun _ => rfl) fun _ wd5 v H6 hq => ?_
  clear H3 hd
  obtain ⟨b4, rfl, hq⟩ := hq
  replace hS : SH M X w [Ent.blk b4 [.int .u8 below], Ent.blk b1 [.slice g_l_.a l_.length g_l_.c], Ent.im tyDeclared l_ g_l_, gE0] _ := hS.join [] [0, 1, 2] rfl rfl hq
  clear hq
  have hd := hS.hand [] [0, 1, 2, 3] rfl rfl
  refine m_stp [5, 3, 4] [(3, [], .pointer (some ⟨b1, 0, none⟩)), (4, [], .pointer (some ⟨b4, 0, none⟩))] H6 rfl rfl rfl rfl (o_box [.string ⟨⟨name_⟩⟩] H6 hd rfl rfl) (fun _ => rfl) fun _ wd8 v H9 hq => ?_
  clear H6 hd
  obtain ⟨b7, rfl, hq⟩ := hq
  replace hS : SH M X w [Ent.blk b7 [.string ⟨⟨name_⟩⟩], Ent.blk b4 [.int .u8 below], Ent.blk b1 [.slice g_l_.a l_.length g_l_.c], Ent.im tyDeclared l_ g_l_, gE0] _ := hS.join [] [0, 1, 2, 3] rfl rfl hq
  clear hq
  have hd := hS.hand [] [0, 1, 2, 3, 4] rfl rfl
  refine m_stp [6, 3, 4, 5] [(3, [], .pointer (some ⟨b1, 0, none⟩)), (4, [], .pointer (some ⟨b4, 0, none⟩)), (5, [], .pointer (some ⟨b7, 0, none⟩))] H9 rfl rfl rfl rfl (o_alloc [.int .i64 0] (z := .int .i64 0) hd (by kernel_rfl) rfl) (fun _ => rfl) fun _ wd11 v H12 hq => ?_
  clear H9 hd
  obtain ⟨b10, rfl, hq⟩ := hq
  replace hS : SH M X w [Ent.blk b10 [.int .i64 0], Ent.blk b7 [.string ⟨⟨name_⟩⟩], Ent.blk b4 [.int .u8 below], Ent.blk b1 [.slice g_l_.a l_.length g_l_.c], Ent.im tyDeclared l_ g_l_, gE0] _ := hS.join [] [0, 1, 2, 3, 4] rfl rfl hq
  clear hq
  have hd := hS.hand [] [0, 1, 2, 3, 4, 5] rfl rfl
  refine m_stp [7, 3, 4, 5, 6] [(3, [], .pointer (some ⟨b1, 0, none⟩)), (4, [], .pointer (some ⟨b4, 0, none⟩)), (5, [], .pointer (some ⟨b7, 0, none⟩)), (6, [], .pointer (some ⟨b10, 0, none⟩))] H12 rfl rfl rfl rfl (o_alloc [.string ⟨⟨[]⟩⟩] (z := .string ⟨⟨[]⟩⟩) hd (by kernel_rfl) rfl) (fun _ => rfl) fun _ wd14 v H15 hq => ?_
  clear H12 hd
  obtain ⟨b13, rfl, hq⟩ := hq
  replace hS : SH M X w [Ent.blk b13 [.string ⟨⟨[]⟩⟩], Ent.blk b10 [.int .i64 0], Ent.blk b7 [.string ⟨⟨name_⟩⟩], Ent.blk b4 [.int .u8 below], Ent.blk b1 [.slice g_l_.a l_.length g_l_.c], Ent.im tyDeclared l_ g_l_, gE0] _ := hS.join [] [0, 1, 2, 3, 4, 5] rfl rfl hq
  clear hq
  refine wl_end rfl ?_
  refine w_seq ?_
  refine w_seq ?_
  refine wl_start ?_
  refine wl_batch 0 1 [(.slice g_l_.a l_.length g_l_.c)] [3, 4, 5, 6, 7, 11] [(3, [], .pointer (some ⟨b1, 0, none⟩)), (4, [], .pointer (some ⟨b4, 0, none⟩)), (5, [], .pointer (some ⟨b7, 0, none⟩)), (6, [], .pointer (some ⟨b10, 0, none⟩)), (7, [], .pointer (some ⟨b13, 0, none⟩)), (11, [], .slice g_l_.a l_.length g_l_.c)] [fun wz => V.at1 ⟨b1, 0, none⟩ (.slice g_l_.a l_.length g_l_.c) wz] H15 (by decide) (by kernel_rfl) ⟨((hS.bk 4 rfl).at1 rfl), trivial⟩ fun _ wd16 H17 hb => ?_
  clear H15
  replace hS := hS.below hb
  clear hb
  obtain ⟨y18, hy18, hm⟩ := letE hm
  have hd := hS.hand [5] [0, 1, 2, 3, 4, 5, 6] rfl rfl
  refine m_stp [12, 3, 4, 5, 6, 7] [(3, [], .pointer (some ⟨b1, 0, none⟩)), (4, [], .pointer (some ⟨b4, 0, none⟩)), (5, [], .pointer (some ⟨b7, 0, none⟩)), (6, [], .pointer (some ⟨b10, 0, none⟩)), (7, [], .pointer (some ⟨b13, 0, none⟩))] H17 rfl rfl rfl rfl (o_callx H17 rfl rfl (slices_Backward_api_Declared_api_Declared_ok (g_s := g_l_) _ _ hy18.symm _ _ hd)) (fun _ => rfl) fun _ wd22 v H23 hq => ?_
  clear H17 hd
  obtain ⟨b19, g20, rfl, hq⟩ := hq
  replace hS : SH M X w [Ent.blk b19 [.slice g20.a y18.length g20.c], Ent.im tyDeclared y18 g20, Ent.blk b13 [.string ⟨⟨[]⟩⟩], Ent.blk b10 [.int .i64 0], Ent.blk b7 [.string ⟨⟨name_⟩⟩], Ent.blk b4 [.int .u8 below], Ent.blk b1 [.slice g_l_.a l_.length g_l_.c], Ent.im tyDeclared l_ g_l_, gE0] _ := hS.join [5] [0, 1, 2, 3, 4, 5, 6] rfl rfl hq
  clear hq
  refine wl_end rfl ?_
  refine w_block ?_
  replace hS : SH M X w [Ent.ro b19 [.slice g20.a y18.length g20.c], Ent.im tyDeclared y18 g20, Ent.blk b13 [.string ⟨⟨[]⟩⟩], Ent.blk b10 [.int .i64 0], Ent.blk b7 [.string ⟨⟨name_⟩⟩], Ent.blk b4 [.int .u8 below], Ent.blk b1 [.slice g_l_.a l_.length g_l_.c], Ent.im tyDeclared l_ g_l_, gE0] _ := SH.ro1 (hS.sel [0, 1, 2, 3, 4, 5, 6, 7, 8] rfl)
  obtain ⟨ho25, hm⟩ := chkE hm
  refine w_range (fr := [(3, [], .pointer (some ⟨b1, 0, none⟩)), (4, [], .pointer (some ⟨b4, 0, none⟩)), (5, [], .pointer (some ⟨b7, 0, none⟩)), (6, [], .pointer (some ⟨b10, 0, none⟩)), (7, [], .pointer (some ⟨b13, 0, none⟩)), (12, [], .func (.func 47) ⟨[]⟩ ⟨[.pointer (some ⟨b19, 0, none⟩)]⟩)]) (fun kR _ => ∃ kk, wide_decide_L1 m l_ below name_ y18 (wide_decide_r m k) kk (((y18).length : Int) - 1 - (kR : Int)) = some r) (fun (_ : Unit) => [Ent.ro b19 [.slice g20.a y18.length g20.c], Ent.im tyDeclared y18 g20, Ent.blk b13 [.string ⟨⟨[]⟩⟩], Ent.blk b10 [.int .i64 0], Ent.blk b7 [.string ⟨⟨name_⟩⟩], Ent.blk b4 [.int .u8 below], Ent.blk b1 [.slice g_l_.a l_.length g_l_.c], Ent.im tyDeclared l_ g_l_, gE0]) (fun (yR : Int × Str) => yR = r) (fun yR => [Ent.blk b10 [.int .i64 yR.1], Ent.blk b13 [.string ⟨⟨yR.2⟩⟩]]) (fun kR => [(13, [], .int .i64 (((y18).length : Int) - 1 - (kR : Int))), (14, [], .agg ⟨[.string ⟨⟨(gi y18 (((y18).length : Int) - 1 - (kR : Int))).Long.Name⟩⟩, .slice (g20.s ((((y18).length : Int) - 1 - (kR : Int))).toNat 0).a (((gi y18 (((y18).length : Int) - 1 - (kR : Int))).Long.Value).length) (g20.s ((((y18).length : Int) - 1 - (kR : Int))).toNat 0).c, .string ⟨⟨(gi y18 (((y18).length : Int) - 1 - (kR : Int))).Long.Whole⟩⟩, .bool ((gi y18 (((y18).length : Int) - 1 - (kR : Int))).Important), .int .u8 ((gi y18 (((y18).length : Int) - 1 - (kR : Int))).Origin), .bool ((gi y18 (((y18).length : Int) - 1 - (kR : Int))).Attached), .int .i64 ((gi y18 (((y18).length : Int) - 1 - (kR : Int))).Layer), .int .i64 ((gi y18 (((y18).length : Int) - 1 - (kR : Int))).Weight.e0), .int .i64 ((gi y18 (((y18).length : Int) - 1 - (kR : Int))).Weight.e1), .int .i64 ((gi y18 (((y18).length : Int) - 1 - (kR : Int))).Weight.e2), .int .i64 ((gi y18 (((y18).length : Int) - 1 - (kR : Int))).Order)]⟩), (3, [], .pointer (some ⟨b1, 0, none⟩)), (4, [], .pointer (some ⟨b4, 0, none⟩)), (5, [], .pointer (some ⟨b7, 0, none⟩)), (6, [], .pointer (some ⟨b10, 0, none⟩)), (7, [], .pointer (some ⟨b13, 0, none⟩)), (12, [], .func (.func 47) ⟨[]⟩ ⟨[.pointer (some ⟨b19, 0, none⟩)]⟩)]) (fun kR _ (dR : Nat) => [(3, [], .pointer (some ⟨b1, 0, none⟩)), (4, [], .pointer (some ⟨b4, 0, none⟩)), (5, [], .pointer (some ⟨b7, 0, none⟩)), (6, [], .pointer (some ⟨b10, 0, none⟩)), (7, [], .pointer (some ⟨b13, 0, none⟩)), (8, [], .int .i64 (((y18).length : Int) - 1 - (kR : Int))), (9, [], .pointer (some ⟨dR, 0, none⟩))]) (fun kR _ dR => [Ent.blk dR [.string ⟨⟨(gi y18 (((y18).length : Int) - 1 - (kR : Int))).Long.Name⟩⟩, .slice (g20.s ((((y18).length : Int) - 1 - (kR : Int))).toNat 0).a (((gi y18 (((y18).length : Int) - 1 - (kR : Int))).Long.Value).length) (g20.s ((((y18).length : Int) - 1 - (kR : Int))).toNat 0).c, .string ⟨⟨(gi y18 (((y18).length : Int) - 1 - (kR : Int))).Long.Whole⟩⟩, .bool ((gi y18 (((y18).length : Int) - 1 - (kR : Int))).Important), .int .u8 ((gi y18 (((y18).length : Int) - 1 - (kR : Int))).Origin), .bool ((gi y18 (((y18).length : Int) - 1 - (kR : Int))).Attached), .int .i64 ((gi y18 (((y18).length : Int) - 1 - (kR : Int))).Layer), .int .i64 ((gi y18 (((y18).length : Int) - 1 - (kR : Int))).Weight.e0), .int .i64 ((gi y18 (((y18).length : Int) - 1 - (kR : Int))).Weight.e1), .int .i64 ((gi y18 (((y18).length : Int) - 1 - (kR : Int))).Weight.e2), .int .i64 ((gi y18 (((y18).length : Int) - 1 - (kR : Int))).Order)], Ent.ro b19 [.slice g20.a y18.length g20.c], Ent.im tyDeclared y18 g20, Ent.blk b13 [.string ⟨⟨[]⟩⟩], Ent.blk b10 [.int .i64 0], Ent.blk b7 [.string ⟨⟨name_⟩⟩], Ent.blk b4 [.int .u8 below], Ent.blk b1 [.slice g_l_.a l_.length g_l_.c], Ent.im tyDeclared l_ g_l_, gE0]) 47 [.pointer (some ⟨b19, 0, none⟩)] (fun kR => [.int .i64 (((y18).length : Int) - 1 - (kR : Int)), .agg ⟨[.string ⟨⟨(gi y18 (((y18).length : Int) - 1 - (kR : Int))).Long.Name⟩⟩, .slice (g20.s ((((y18).length : Int) - 1 - (kR : Int))).toNat 0).a (((gi y18 (((y18).length : Int) - 1 - (kR : Int))).Long.Value).length) (g20.s ((((y18).length : Int) - 1 - (kR : Int))).toNat 0).c, .string ⟨⟨(gi y18 (((y18).length : Int) - 1 - (kR : Int))).Long.Whole⟩⟩, .bool ((gi y18 (((y18).length : Int) - 1 - (kR : Int))).Important), .int .u8 ((gi y18 (((y18).length : Int) - 1 - (kR : Int))).Origin), .bool ((gi y18 (((y18).length : Int) - 1 - (kR : Int))).Attached), .int .i64 ((gi y18 (((y18).length : Int) - 1 - (kR : Int))).Layer), .int .i64 ((gi y18 (((y18).length : Int) - 1 - (kR : Int))).Weight.e0), .int .i64 ((gi y18 (((y18).length : Int) - 1 - (kR : Int))).Weight.e1), .int .i64 ((gi y18 (((y18).length : Int) - 1 - (kR : Int))).Weight.e2), .int .i64 ((gi y18 (((y18).length : Int) - 1 - (kR : Int))).Order)]⟩]) (y18).length (fun W => Blk W b19 [.slice g20.a (y18).length g20.c] ∧ SlG tyDeclared F0 W y18 g20) (FrG.keep (ks := [3, 4, 5, 6, 7, 12]) H23 (by kernel_rfl)) (by kernel_rfl) (fun args => Tryd.call47 args) () ⟨m, ?h0_1⟩ hS (fun _ => ⟨nc_ro _ _, ⟨nc_im nc_tyDeclared _ _, ⟨nc_blk _ _, ⟨nc_blk _ _, ⟨nc_blk _ _, ⟨nc_blk _ _, ⟨nc_blk _ _, ⟨nc_im nc_tyDeclared _ _, ⟨nc_im (nc_I _) _ _, trivial⟩⟩⟩⟩⟩⟩⟩⟩⟩) (fun _ _ _ => ⟨nc_blk _ _, ⟨nc_ro _ _, ⟨nc_im nc_tyDeclared _ _, ⟨nc_blk _ _, ⟨nc_blk _ _, ⟨nc_blk _ _, ⟨nc_blk _ _, ⟨nc_blk _ _, ⟨nc_im nc_tyDeclared _ _, ⟨nc_im (nc_I _) _ _, trivial⟩⟩⟩⟩⟩⟩⟩⟩⟩⟩) (fun _ => ⟨nc_blk _ _, ⟨nc_blk _ _, trivial⟩⟩) (seq47 y18 g20 b19 _ ho25) (fun _ => rfl) (fun _ _ hS => ⟨hS.ro 0 rfl, (hS.im 1 rfl).f0⟩) (fun _ _ _ hd ht => fr_two (l := [(3, [], .pointer (some ⟨b1, 0, none⟩)), (4, [], .pointer (some ⟨b4, 0, none⟩)), (5, [], .pointer (some ⟨b7, 0, none⟩)), (6, [], .pointer (some ⟨b10, 0, none⟩)), (7, [], .pointer (some ⟨b13, 0, none⟩)), (12, [], .func (.func 47) ⟨[]⟩ ⟨[.pointer (some ⟨b19, 0, none⟩)]⟩)]) (FrG.keep (ks := [3, 4, 5, 6, 7, 12]) H23 (by kernel_rfl)) (by kernel_rfl) (by kernel_rfl) (by kernel_rfl) (by kernel_rfl) hd (ht.trans (zip_two _))) ?ha_1 ?hb_1 ?hn_1 ?hr_1
  case h0_1 => rw [show ((y18).length : Int) - 1 - ((0 : Nat) : Int) = ((y18).length : Int) - 1 from by omega]; exact hm
  case ha_1 =>
   intro lR kR _ wR aR hk _ H hS
   obtain ⟨v24, hvi⟩ : ∃ v, v = ((y18).length : Int) - 1 - (kR : Int) := ⟨_, rfl⟩
   have hix : 0 ≤ v24 ∧ v24 < ln y18 := by unfold ln; omega
   replace H : Fr 45 [(13, [], .int .i64 v24), (14, [], .agg ⟨[.string ⟨⟨(gi y18 v24).Long.Name⟩⟩, .slice (g20.s (v24).toNat 0).a (((gi y18 v24).Long.Value).length) (g20.s (v24).toNat 0).c, .string ⟨⟨(gi y18 v24).Long.Whole⟩⟩, .bool ((gi y18 v24).Important), .int .u8 ((gi y18 v24).Origin), .bool ((gi y18 v24).Attached), .int .i64 ((gi y18 v24).Layer), .int .i64 ((gi y18 v24).Weight.e0), .int .i64 ((gi y18 v24).Weight.e1), .int .i64 ((gi y18 v24).Weight.e2), .int .i64 ((gi y18 v24).Order)]⟩), (3, [], .pointer (some ⟨b1, 0, none⟩)), (4, [], .pointer (some ⟨b4, 0, none⟩)), (5, [], .pointer (some ⟨b7, 0, none⟩)), (6, [], .pointer (some ⟨b10, 0, none⟩)), (7, [], .pointer (some ⟨b13, 0, none⟩)), (12, [], .func (.func 47) ⟨[]⟩ ⟨[.pointer (some ⟨b19, 0, none⟩)]⟩)] aR := by subst hvi; exact H
   replace hS : SH M (fpl [Ent.ro b19 [.slice g20.a y18.length g20.c], Ent.im tyDeclared y18 g20, Ent.blk b13 [.string ⟨⟨[]⟩⟩], Ent.blk b10 [.int .i64 0], Ent.blk b7 [.string ⟨⟨name_⟩⟩], Ent.blk b4 [.int .u8 below], Ent.blk b1 [.slice g_l_.a l_.length g_l_.c], Ent.im tyDeclared l_ g_l_, gE0]) wR [Ent.ro b19 [.slice g20.a y18.length g20.c], Ent.im tyDeclared y18 g20, Ent.blk b13 [.string ⟨⟨[]⟩⟩], Ent.blk b10 [.int .i64 0], Ent.blk b7 [.string ⟨⟨name_⟩⟩], Ent.blk b4 [.int .u8 below], Ent.blk b1 [.slice g_l_.a l_.length g_l_.c], Ent.im tyDeclared l_ g_l_, gE0] wR := hS
   show Code.wpIn _ _ _ _ (Qs (fun a1 W1 => ∃ dR : Nat, Fr 45 [(3, [], .pointer (some ⟨b1, 0, none⟩)), (4, [], .pointer (some ⟨b4, 0, none⟩)), (5, [], .pointer (some ⟨b7, 0, none⟩)), (6, [], .pointer (some ⟨b10, 0, none⟩)), (7, [], .pointer (some ⟨b13, 0, none⟩)), (8, [], .int .i64 (((y18).length : Int) - 1 - (kR : Int))), (9, [], .pointer (some ⟨dR, 0, none⟩))] a1 ∧ SH M (fpl [Ent.ro b19 [.slice g20.a y18.length g20.c], Ent.im tyDeclared y18 g20, Ent.blk b13 [.string ⟨⟨[]⟩⟩], Ent.blk b10 [.int .i64 0], Ent.blk b7 [.string ⟨⟨name_⟩⟩], Ent.blk b4 [.int .u8 below], Ent.blk b1 [.slice g_l_.a l_.length g_l_.c], Ent.im tyDeclared l_ g_l_, gE0]) wR [Ent.blk dR [.string ⟨⟨(gi y18 (((y18).length : Int) - 1 - (kR : Int))).Long.Name⟩⟩, .slice (g20.s ((((y18).length : Int) - 1 - (kR : Int))).toNat 0).a (((gi y18 (((y18).length : Int) - 1 - (kR : Int))).Long.Value).length) (g20.s ((((y18).length : Int) - 1 - (kR : Int))).toNat 0).c, .string ⟨⟨(gi y18 (((y18).length : Int) - 1 - (kR : Int))).Long.Whole⟩⟩, .bool ((gi y18 (((y18).length : Int) - 1 - (kR : Int))).Important), .int .u8 ((gi y18 (((y18).length : Int) - 1 - (kR : Int))).Origin), .bool ((gi y18 (((y18).length : Int) - 1 - (kR : Int))).Attached), .int .i64 ((gi y18 (((y18).length : Int) - 1 - (kR : Int))).Layer), .int .i64 ((gi y18 (((y18).length : Int) - 1 - (kR : Int))).Weight.e0), .int .i64 ((gi y18 (((y18).length : Int) - 1 - (kR : Int))).Weight.e1), .int .i64 ((gi y18 (((y18).length : Int) - 1 - (kR : Int))).Weight.e2), .int .i64 ((gi y18 (((y18).length : Int) - 1 - (kR : Int))).Order)], Ent.ro b19 [.slice g20.a y18.length g20.c], Ent.im tyDeclared y18 g20, Ent.blk b13 [.string ⟨⟨[]⟩⟩], Ent.blk b10 [.int .i64 0], Ent.blk b7 [.string ⟨⟨name_⟩⟩], Ent.blk b4 [.int .u8 below], Ent.blk b1 [.slice g_l_.a l_.length g_l_.c], Ent.im tyDeclared l_ g_l_, gE0] W1) [] _) _ _
   rw [← hvi]
   refine sr_reg [] [3, 4, 5, 6, 7, 8, 14] [(3, [], .pointer (some ⟨b1, 0, none⟩)), (4, [], .pointer (some ⟨b4, 0, none⟩)), (5, [], .pointer (some ⟨b7, 0, none⟩)), (6, [], .pointer (some ⟨b10, 0, none⟩)), (7, [], .pointer (some ⟨b13, 0, none⟩)), (8, [], .int .i64 v24), (14, [], .agg ⟨[.string ⟨⟨(gi y18 v24).Long.Name⟩⟩, .slice (g20.s (v24).toNat 0).a (((gi y18 v24).Long.Value).length) (g20.s (v24).toNat 0).c, .string ⟨⟨(gi y18 v24).Long.Whole⟩⟩, .bool ((gi y18 v24).Important), .int .u8 ((gi y18 v24).Origin), .bool ((gi y18 v24).Attached), .int .i64 ((gi y18 v24).Layer), .int .i64 ((gi y18 v24).Weight.e0), .int .i64 ((gi y18 v24).Weight.e1), .int .i64 ((gi y18 v24).Weight.e2), .int .i64 ((gi y18 v24).Order)]⟩)] [] H (by kernel_rfl) (by kernel_rfl) trivial fun _ wd26 H27 hb => ?_
   clear H
   replace hS := hS.below hb
   clear hb
   refine rl_start (by kernel_rfl) ?_
   have hd := hS.hand [] [0, 1, 2, 3, 4, 5, 6, 7, 8] rfl rfl
   refine m_stp [9, 3, 4, 5, 6, 7, 8, 14] [(3, [], .pointer (some ⟨b1, 0, none⟩)), (4, [], .pointer (some ⟨b4, 0, none⟩)), (5, [], .pointer (some ⟨b7, 0, none⟩)), (6, [], .pointer (some ⟨b10, 0, none⟩)), (7, [], .pointer (some ⟨b13, 0, none⟩)), (8, [], .int .i64 v24), (14, [], .agg ⟨[.string ⟨⟨(gi y18 v24).Long.Name⟩⟩, .slice (g20.s (v24).toNat 0).a (((gi y18 v24).Long.Value).length) (g20.s (v24).toNat 0).c, .string ⟨⟨(gi y18 v24).Long.Whole⟩⟩, .bool ((gi y18 v24).Important), .int .u8 ((gi y18 v24).Origin), .bool ((gi y18 v24).Attached), .int .i64 ((gi y18 v24).Layer), .int .i64 ((gi y18 v24).Weight.e0), .int .i64 ((gi y18 v24).Weight.e1), .int .i64 ((gi y18 v24).Weight.e2), .int .i64 ((gi y18 v24).Order)]⟩)] H27 rfl rfl rfl rfl (o_alloc [.string ⟨⟨[]⟩⟩, .slice none 0 0, .string ⟨⟨[]⟩⟩, .bool false, .int .u8 0, .bool false, .int .i64 0, .int .i64 0, .int .i64 0, .int .i64 0, .int .i64 0] (z := .agg ⟨[.string ⟨⟨[]⟩⟩, .slice none 0 0, .string ⟨⟨[]⟩⟩, .bool false, .int .u8 0, .bool false, .int .i64 0, .int .i64 0, .int .i64 0, .int .i64 0, .int .i64 0]⟩) hd (by kernel_rfl) rfl) (fun _ => rfl) fun _ wd29 v H30 hq => ?_
   clear H27 hd
   obtain ⟨b28, rfl, hq⟩ := hq
   replace hS : SH M (fpl [Ent.ro b19 [.slice g20.a y18.length g20.c], Ent.im tyDeclared y18 g20, Ent.blk b13 [.string ⟨⟨[]⟩⟩], Ent.blk b10 [.int .i64 0], Ent.blk b7 [.string ⟨⟨name_⟩⟩], Ent.blk b4 [.int .u8 below], Ent.blk b1 [.slice g_l_.a l_.length g_l_.c], Ent.im tyDeclared l_ g_l_, gE0]) wR [Ent.blk b28 [.string ⟨⟨[]⟩⟩, .slice none 0 0, .string ⟨⟨[]⟩⟩, .bool false, .int .u8 0, .bool false, .int .i64 0, .int .i64 0, .int .i64 0, .int .i64 0, .int .i64 0], Ent.ro b19 [.slice g20.a y18.length g20.c], Ent.im tyDeclared y18 g20, Ent.blk b13 [.string ⟨⟨[]⟩⟩], Ent.blk b10 [.int .i64 0], Ent.blk b7 [.string ⟨⟨name_⟩⟩], Ent.blk b4 [.int .u8 below], Ent.blk b1 [.slice g_l_.a l_.length g_l_.c], Ent.im tyDeclared l_ g_l_, gE0] _ := hS.join [] [0, 1, 2, 3, 4, 5, 6, 7, 8] rfl rfl hq
   clear hq
   have hd := hS.hand [0] [1, 2, 3, 4, 5, 6, 7, 8, 9] rfl rfl
   refine m_stp0 [3, 4, 5, 6, 7, 8, 9] [(3, [], .pointer (some ⟨b1, 0, none⟩)), (4, [], .pointer (some ⟨b4, 0, none⟩)), (5, [], .pointer (some ⟨b7, 0, none⟩)), (6, [], .pointer (some ⟨b10, 0, none⟩)), (7, [], .pointer (some ⟨b13, 0, none⟩)), (8, [], .int .i64 v24), (9, [], .pointer (some ⟨b28, 0, none⟩))] H30 rfl rfl rfl (o_store [.string ⟨⟨(gi y18 v24).Long.Name⟩⟩, .slice (g20.s (v24).toNat 0).a (((gi y18 v24).Long.Value).length) (g20.s (v24).toNat 0).c, .string ⟨⟨(gi y18 v24).Long.Whole⟩⟩, .bool ((gi y18 v24).Important), .int .u8 ((gi y18 v24).Origin), .bool ((gi y18 v24).Attached), .int .i64 ((gi y18 v24).Layer), .int .i64 ((gi y18 v24).Weight.e0), .int .i64 ((gi y18 v24).Weight.e1), .int .i64 ((gi y18 v24).Weight.e2), .int .i64 ((gi y18 v24).Order)] H30 hd rfl rfl (by kernel_rfl) rfl rfl rfl) rfl fun _ wd31 H32 hq => ?_
   clear H30 hd
   obtain ⟨_, hq⟩ := hq
   replace hS : SH M (fpl [Ent.ro b19 [.slice g20.a y18.length g20.c], Ent.im tyDeclared y18 g20, Ent.blk b13 [.string ⟨⟨[]⟩⟩], Ent.blk b10 [.int .i64 0], Ent.blk b7 [.string ⟨⟨name_⟩⟩], Ent.blk b4 [.int .u8 below], Ent.blk b1 [.slice g_l_.a l_.length g_l_.c], Ent.im tyDeclared l_ g_l_, gE0]) wR [Ent.blk b28 [.string ⟨⟨(gi y18 v24).Long.Name⟩⟩, .slice (g20.s (v24).toNat 0).a (((gi y18 v24).Long.Value).length) (g20.s (v24).toNat 0).c, .string ⟨⟨(gi y18 v24).Long.Whole⟩⟩, .bool ((gi y18 v24).Important), .int .u8 ((gi y18 v24).Origin), .bool ((gi y18 v24).Attached), .int .i64 ((gi y18 v24).Layer), .int .i64 ((gi y18 v24).Weight.e0), .int .i64 ((gi y18 v24).Weight.e1), .int .i64 ((gi y18 v24).Weight.e2), .int .i64 ((gi y18 v24).Order)], Ent.ro b19 [.slice g20.a y18.length g20.c], Ent.im tyDeclared y18 g20, Ent.blk b13 [.string ⟨⟨[]⟩⟩], Ent.blk b10 [.int .i64 0], Ent.blk b7 [.string ⟨⟨name_⟩⟩], Ent.blk b4 [.int .u8 below], Ent.blk b1 [.slice g_l_.a l_.length g_l_.c], Ent.im tyDeclared l_ g_l_, gE0] _ := hS.join [0] [1, 2, 3, 4, 5, 6, 7, 8, 9] rfl rfl hq
   clear hq
   refine wl_end rfl ?_
   exact ⟨b28, FrG.keep (ks := [3, 4, 5, 6, 7, 8, 9]) H32 (by kernel_rfl), hS⟩
  case hb_1 =>
   intro lR kR _ dR wR aR hk hC H hS
   obtain ⟨kk, hm⟩ := hC
   obtain ⟨b28, hdR⟩ : ∃ x, x = dR := ⟨_, rfl⟩
   rw [← hdR] at H hS ⊢
   obtain ⟨v24, hvi⟩ : ∃ v, v = ((y18).length : Int) - 1 - (kR : Int) := ⟨_, rfl⟩
   have hix : 0 ≤ v24 ∧ v24 < ln y18 := by unfold ln; omega
   replace H : Fr 45 [(3, [], .pointer (some ⟨b1, 0, none⟩)), (4, [], .pointer (some ⟨b4, 0, none⟩)), (5, [], .pointer (some ⟨b7, 0, none⟩)), (6, [], .pointer (some ⟨b10, 0, none⟩)), (7, [], .pointer (some ⟨b13, 0, none⟩)), (8, [], .int .i64 v24), (9, [], .pointer (some ⟨b28, 0, none⟩))] aR := by subst hvi; exact H
   replace hS : SH M (fpl [Ent.blk b28 [.string ⟨⟨(gi y18 v24).Long.Name⟩⟩, .slice (g20.s (v24).toNat 0).a (((gi y18 v24).Long.Value).length) (g20.s (v24).toNat 0).c, .string ⟨⟨(gi y18 v24).Long.Whole⟩⟩, .bool ((gi y18 v24).Important), .int .u8 ((gi y18 v24).Origin), .bool ((gi y18 v24).Attached), .int .i64 ((gi y18 v24).Layer), .int .i64 ((gi y18 v24).Weight.e0), .int .i64 ((gi y18 v24).Weight.e1), .int .i64 ((gi y18 v24).Weight.e2), .int .i64 ((gi y18 v24).Order)], Ent.ro b19 [.slice g20.a y18.length g20.c], Ent.im tyDeclared y18 g20, Ent.blk b13 [.string ⟨⟨[]⟩⟩], Ent.blk b10 [.int .i64 0], Ent.blk b7 [.string ⟨⟨name_⟩⟩], Ent.blk b4 [.int .u8 below], Ent.blk b1 [.slice g_l_.a l_.length g_l_.c], Ent.im tyDeclared l_ g_l_, gE0]) wR [Ent.blk b28 [.string ⟨⟨(gi y18 v24).Long.Name⟩⟩, .slice (g20.s (v24).toNat 0).a (((gi y18 v24).Long.Value).length) (g20.s (v24).toNat 0).c, .string ⟨⟨(gi y18 v24).Long.Whole⟩⟩, .bool ((gi y18 v24).Important), .int .u8 ((gi y18 v24).Origin), .bool ((gi y18 v24).Attached), .int .i64 ((gi y18 v24).Layer), .int .i64 ((gi y18 v24).Weight.e0), .int .i64 ((gi y18 v24).Weight.e1), .int .i64 ((gi y18 v24).Weight.e2), .int .i64 ((gi y18 v24).Order)], Ent.ro b19 [.slice g20.a y18.length g20.c], Ent.im tyDeclared y18 g20, Ent.blk b13 [.string ⟨⟨[]⟩⟩], Ent.blk b10 [.int .i64 0], Ent.blk b7 [.string ⟨⟨name_⟩⟩], Ent.blk b4 [.int .u8 below], Ent.blk b1 [.slice g_l_.a l_.length g_l_.c], Ent.im tyDeclared l_ g_l_, gE0] wR := by subst hvi; exact hS
   rw [← hvi] at hm
   show Code.wpIn _ _ _ _ (Qs (fun _ W1 => ∃ _ : Unit, (∃ kk, wide_decide_L1 m l_ below name_ y18 (wide_decide_r m k) kk (((y18).length : Int) - 1 - ((kR + 1 : Nat) : Int)) = some r) ∧ SH M (fpl [Ent.blk b28 [.string ⟨⟨(gi y18 (((y18).length : Int) - 1 - (kR : Int))).Long.Name⟩⟩, .slice (g20.s ((((y18).length : Int) - 1 - (kR : Int))).toNat 0).a (((gi y18 (((y18).length : Int) - 1 - (kR : Int))).Long.Value).length) (g20.s ((((y18).length : Int) - 1 - (kR : Int))).toNat 0).c, .string ⟨⟨(gi y18 (((y18).length : Int) - 1 - (kR : Int))).Long.Whole⟩⟩, .bool ((gi y18 (((y18).length : Int) - 1 - (kR : Int))).Important), .int .u8 ((gi y18 (((y18).length : Int) - 1 - (kR : Int))).Origin), .bool ((gi y18 (((y18).length : Int) - 1 - (kR : Int))).Attached), .int .i64 ((gi y18 (((y18).length : Int) - 1 - (kR : Int))).Layer), .int .i64 ((gi y18 (((y18).length : Int) - 1 - (kR : Int))).Weight.e0), .int .i64 ((gi y18 (((y18).length : Int) - 1 - (kR : Int))).Weight.e1), .int .i64 ((gi y18 (((y18).length : Int) - 1 - (kR : Int))).Weight.e2), .int .i64 ((gi y18 (((y18).length : Int) - 1 - (kR : Int))).Order)], Ent.ro b19 [.slice g20.a y18.length g20.c], Ent.im tyDeclared y18 g20, Ent.blk b13 [.string ⟨⟨[]⟩⟩], Ent.blk b10 [.int .i64 0], Ent.blk b7 [.string ⟨⟨name_⟩⟩], Ent.blk b4 [.int .u8 below], Ent.blk b1 [.slice g_l_.a l_.length g_l_.c], Ent.im tyDeclared l_ g_l_, gE0]) wR [Ent.ro b19 [.slice g20.a y18.length g20.c], Ent.im tyDeclared y18 g20, Ent.blk b13 [.string ⟨⟨[]⟩⟩], Ent.blk b10 [.int .i64 0], Ent.blk b7 [.string ⟨⟨name_⟩⟩], Ent.blk b4 [.int .u8 below], Ent.blk b1 [.slice g_l_.a l_.length g_l_.c], Ent.im tyDeclared l_ g_l_, gE0] W1) [] (fun _ W1 => ∃ yR : Int × Str, yR = r ∧ SH M (fpl [Ent.blk b28 [.string ⟨⟨(gi y18 (((y18).length : Int) - 1 - (kR : Int))).Long.Name⟩⟩, .slice (g20.s ((((y18).length : Int) - 1 - (kR : Int))).toNat 0).a (((gi y18 (((y18).length : Int) - 1 - (kR : Int))).Long.Value).length) (g20.s ((((y18).length : Int) - 1 - (kR : Int))).toNat 0).c, .string ⟨⟨(gi y18 (((y18).length : Int) - 1 - (kR : Int))).Long.Whole⟩⟩, .bool ((gi y18 (((y18).length : Int) - 1 - (kR : Int))).Important), .int .u8 ((gi y18 (((y18).length : Int) - 1 - (kR : Int))).Origin), .bool ((gi y18 (((y18).length : Int) - 1 - (kR : Int))).Attached), .int .i64 ((gi y18 (((y18).length : Int) - 1 - (kR : Int))).Layer), .int .i64 ((gi y18 (((y18).length : Int) - 1 - (kR : Int))).Weight.e0), .int .i64 ((gi y18 (((y18).length : Int) - 1 - (kR : Int))).Weight.e1), .int .i64 ((gi y18 (((y18).length : Int) - 1 - (kR : Int))).Weight.e2), .int .i64 ((gi y18 (((y18).length : Int) - 1 - (kR : Int))).Order)], Ent.ro b19 [.slice g20.a y18.length g20.c], Ent.im tyDeclared y18 g20, Ent.blk b13 [.string ⟨⟨[]⟩⟩], Ent.blk b10 [.int .i64 0], Ent.blk b7 [.string ⟨⟨name_⟩⟩], Ent.blk b4 [.int .u8 below], Ent.blk b1 [.slice g_l_.a l_.length g_l_.c], Ent.im tyDeclared l_ g_l_, gE0]) wR [Ent.blk b10 [.int .i64 yR.1], Ent.blk b13 [.string ⟨⟨yR.2⟩⟩]] W1)) _ _
   rw [← hvi]
   cases kk with
   | zero => exact noneE hm
   | succ kk =>
    rw [wide_decide_L1] at hm
    replace hm := bF (decide_eq_false (show ¬ v24 < 0 from by omega)) hm
    refine r_block ?_
    refine r_seq ?_
    obtain ⟨x33, hx33, hm⟩ := letE hm
    refine sr_reg [(.string ⟨⟨(gi y18 v24).Long.Name⟩⟩), (.string ⟨⟨name_⟩⟩), (.int .u8 ((gi y18 v24).Origin)), (.int .u8 below)] [3, 6, 7, 8, 9, 25] [(3, [], .pointer (some ⟨b1, 0, none⟩)), (6, [], .pointer (some ⟨b10, 0, none⟩)), (7, [], .pointer (some ⟨b13, 0, none⟩)), (8, [], .int .i64 v24), (9, [], .pointer (some ⟨b28, 0, none⟩)), (25, [], .bool x33)] [fun wz => V.at1 ⟨b28, 0, none⟩ (.string ⟨⟨(gi y18 v24).Long.Name⟩⟩) wz, fun wz => V.at1 ⟨b7, 0, none⟩ (.string ⟨⟨name_⟩⟩) wz, fun wz => ((!(((gi y18 v24).Long.Name) == name_)) = false ∧ True → V.at1 ⟨b28, 4, none⟩ (.int .u8 ((gi y18 v24).Origin)) wz), fun wz => ((!(((gi y18 v24).Long.Name) == name_)) = false ∧ True → V.at1 ⟨b4, 0, none⟩ (.int .u8 below) wz)] H (by kernel_rfl) (by subst hx33; kernel_rfl) ⟨((hS.bk 0 rfl).at1 rfl), ((hS.bk 5 rfl).at1 rfl), fun hg => (hS.bk 0 rfl).at1 rfl, fun hg => (hS.bk 6 rfl).at1 rfl, trivial⟩ fun _ wd34 H35 hb => ?_
    clear H
    replace hS := hS.below hb
    clear hb
    refine r_if H35 rfl (fun hc => ?c60) (fun hc => ?_)
    case c60 =>
     replace hm := bT hc hm
     refine r_exit rfl ?_
     exact ⟨(), ⟨kk, by rw [show ((y18).length : Int) - 1 - ((kR + 1 : Nat) : Int) = v24 - 1 from by omega]; exact hm⟩, hS.sel [1, 2, 3, 4, 5, 6, 7, 8, 9] rfl⟩
    replace hm := bF hc hm
    refine r_skip ?_
    obtain ⟨z36, hz, hm_z36⟩ := bindE hm
    refine r_cut (fun a' w' => ∃ s_z36 : Unit, z36 = Sum.inr s_z36 ∧ Fr 45 [(6, [], .pointer (some ⟨b10, 0, none⟩)), (7, [], .pointer (some ⟨b13, 0, none⟩)), (8, [], .int .i64 v24)] a' ∧ SH M (fpl [Ent.blk b28 [.string ⟨⟨(gi y18 v24).Long.Name⟩⟩, .slice (g20.s (v24).toNat 0).a (((gi y18 v24).Long.Value).length) (g20.s (v24).toNat 0).c, .string ⟨⟨(gi y18 v24).Long.Whole⟩⟩, .bool ((gi y18 v24).Important), .int .u8 ((gi y18 v24).Origin), .bool ((gi y18 v24).Attached), .int .i64 ((gi y18 v24).Layer), .int .i64 ((gi y18 v24).Weight.e0), .int .i64 ((gi y18 v24).Weight.e1), .int .i64 ((gi y18 v24).Weight.e2), .int .i64 ((gi y18 v24).Order)], Ent.ro b19 [.slice g20.a y18.length g20.c], Ent.im tyDeclared y18 g20, Ent.blk b13 [.string ⟨⟨[]⟩⟩], Ent.blk b10 [.int .i64 0], Ent.blk b7 [.string ⟨⟨name_⟩⟩], Ent.blk b4 [.int .u8 below], Ent.blk b1 [.slice g_l_.a l_.length g_l_.c], Ent.im tyDeclared l_ g_l_, gE0]) wR [Ent.blk b28 [.string ⟨⟨(gi y18 v24).Long.Name⟩⟩, .slice (g20.s (v24).toNat 0).a (((gi y18 v24).Long.Value).length) (g20.s (v24).toNat 0).c, .string ⟨⟨(gi y18 v24).Long.Whole⟩⟩, .bool ((gi y18 v24).Important), .int .u8 ((gi y18 v24).Origin), .bool ((gi y18 v24).Attached), .int .i64 ((gi y18 v24).Layer), .int .i64 ((gi y18 v24).Weight.e0), .int .i64 ((gi y18 v24).Weight.e1), .int .i64 ((gi y18 v24).Weight.e2), .int .i64 ((gi y18 v24).Order)], Ent.ro b19 [.slice g20.a y18.length g20.c], Ent.im tyDeclared y18 g20, Ent.blk b13 [.string ⟨⟨[]⟩⟩], Ent.blk b10 [.int .i64 0], Ent.blk b7 [.string ⟨⟨name_⟩⟩], Ent.blk b4 [.int .u8 below], Ent.blk b1 [.slice g_l_.a l_.length g_l_.c], Ent.im tyDeclared l_ g_l_, gE0] w') ?_ ?_
    ·replace hm := hz
     refine sr_reg [(.string ⟨⟨(gi y18 v24).Long.Whole⟩⟩)] [3, 6, 7, 8, 9, 29] [(3, [], .pointer (some ⟨b1, 0, none⟩)), (6, [], .pointer (some ⟨b10, 0, none⟩)), (7, [], .pointer (some ⟨b13, 0, none⟩)), (8, [], .int .i64 v24), (9, [], .pointer (some ⟨b28, 0, none⟩)), (29, [], .bool (((gi y18 v24).Long.Whole) == []))] [fun wz => V.at1 ⟨b28, 2, none⟩ (.string ⟨⟨(gi y18 v24).Long.Whole⟩⟩) wz] H35 (by kernel_rfl) (by kernel_rfl) ⟨((hS.bk 0 rfl).at1 rfl), trivial⟩ fun _ wd37 H38 hb => ?_
     clear H35
     replace hS := hS.below hb
     clear hb
     refine r_if H38 rfl (fun hc => ?_) (fun hc => ?c52)
     case c52 =>
      replace hm := bF hc hm
      refine r_skip ?_
      obtain rfl := someE hm
      exact ⟨_, rfl, FrG.keep (ks := [6, 7, 8]) H38 (by kernel_rfl), hS⟩
     replace hm := bT hc hm
     obtain ⟨y39, hy39, hm⟩ := bindE hm
     refine sr_reg [(.slice (g20.s (v24).toNat 0).a (((gi y18 v24).Long.Value).length) (g20.s (v24).toNat 0).c), (.string ⟨⟨y39⟩⟩)] [3, 6, 7, 8, 10] [(3, [], .pointer (some ⟨b1, 0, none⟩)), (6, [], .pointer (some ⟨b10, 0, none⟩)), (7, [], .pointer (some ⟨b13, 0, none⟩)), (8, [], .int .i64 v24), (10, [], .string ⟨⟨y39⟩⟩)] [fun wz => V.at1 ⟨b28, 1, none⟩ (.slice (g20.s (v24).toNat 0).a (((gi y18 v24).Long.Value).length) (g20.s (v24).toNat 0).c) wz, fun wz => RetB Tryd.prog 28 ⟨[.slice (g20.s (v24).toNat 0).a (((gi y18 v24).Long.Value).length) (g20.s (v24).toNat 0).c]⟩ (.string ⟨⟨y39⟩⟩) wz] H38 (by kernel_rfl) (by kernel_rfl) ⟨((hS.bk 0 rfl).at1 rfl), (short_Wide_ok (g_l_ := (g20.s (v24).toNat 0)) m _ _ hy39 _ (s0im s0nil (tyDeclared_i0 ((hS.im 2 rfl).el hix)))), trivial⟩ fun _ wd40 H41 hb => ?_
     clear H38
     replace hS := hS.below hb
     clear hb
     refine sr_reg [] [3, 6, 7, 8, 10, 35] [(3, [], .pointer (some ⟨b1, 0, none⟩)), (6, [], .pointer (some ⟨b10, 0, none⟩)), (7, [], .pointer (some ⟨b13, 0, none⟩)), (8, [], .int .i64 v24), (10, [], .string ⟨⟨y39⟩⟩), (35, [], .bool (!(y39 == [])))] [] H41 (by kernel_rfl) (by kernel_rfl) trivial fun _ wd42 H43 hb => ?_
     clear H41
     replace hS := hS.below hb
     clear hb
     refine r_if H43 rfl (fun hc => ?_) (fun hc => ?c51)
     case c51 =>
      replace hm := bF hc hm
      refine r_skip ?_
      obtain rfl := someE hm
      exact ⟨_, rfl, FrG.keep (ks := [6, 7, 8]) H43 (by kernel_rfl), hS⟩
     replace hm := bT hc hm
     refine r_seq ?_
     refine rl_start (by kernel_rfl) ?_
     obtain ⟨y44, hy44, hm⟩ := bindE hm
     refine wl_batch 0 6 [(.slice g_l_.a l_.length g_l_.c), (.tuple ⟨[.int .i64 y44.1, .string ⟨⟨y44.2⟩⟩]⟩)] [6, 7, 40, 41] [(6, [], .pointer (some ⟨b10, 0, none⟩)), (7, [], .pointer (some ⟨b13, 0, none⟩)), (40, [], .int .i64 y44.1), (41, [], .string ⟨⟨y44.2⟩⟩)] [fun wz => V.at1 ⟨b1, 0, none⟩ (.slice g_l_.a l_.length g_l_.c) wz, fun wz => RetB Tryd.prog 17 ⟨[.slice g_l_.a l_.length g_l_.c, .int .i64 v24, .string ⟨⟨y39⟩⟩]⟩ (.tuple ⟨[.int .i64 y44.1, .string ⟨⟨y44.2⟩⟩]⟩) wz] H43 (by decide) (by kernel_rfl) ⟨((hS.bk 7 rfl).at1 rfl), (wide_mean_2_ok (g_l_ := g_l_) m _ ih _ _ _ _ hy44 _ (s0im (s0im s0nil (hS.im 9 rfl)) (hS.im 8 rfl))), trivial⟩ fun _ wd45 H46 hb => ?_
     clear H43
     replace hS := hS.below hb
     clear hb
     have hd := hS.hand [4] [0, 1, 2, 3, 5, 6, 7, 8, 9] rfl rfl
     refine m_stp0 [6, 7, 41] [(6, [], .pointer (some ⟨b10, 0, none⟩)), (7, [], .pointer (some ⟨b13, 0, none⟩)), (41, [], .string ⟨⟨y44.2⟩⟩)] H46 rfl rfl rfl (o_store [.int .i64 y44.1] H46 hd rfl rfl (by kernel_rfl) rfl rfl rfl) rfl fun _ wd47 H48 hq => ?_
     clear H46 hd
     obtain ⟨_, hq⟩ := hq
     replace hS : SH M (fpl [Ent.blk b28 [.string ⟨⟨(gi y18 v24).Long.Name⟩⟩, .slice (g20.s (v24).toNat 0).a (((gi y18 v24).Long.Value).length) (g20.s (v24).toNat 0).c, .string ⟨⟨(gi y18 v24).Long.Whole⟩⟩, .bool ((gi y18 v24).Important), .int .u8 ((gi y18 v24).Origin), .bool ((gi y18 v24).Attached), .int .i64 ((gi y18 v24).Layer), .int .i64 ((gi y18 v24).Weight.e0), .int .i64 ((gi y18 v24).Weight.e1), .int .i64 ((gi y18 v24).Weight.e2), .int .i64 ((gi y18 v24).Order)], Ent.ro b19 [.slice g20.a y18.length g20.c], Ent.im tyDeclared y18 g20, Ent.blk b13 [.string ⟨⟨[]⟩⟩], Ent.blk b10 [.int .i64 0], Ent.blk b7 [.string ⟨⟨name_⟩⟩], Ent.blk b4 [.int .u8 below], Ent.blk b1 [.slice g_l_.a l_.length g_l_.c], Ent.im tyDeclared l_ g_l_, gE0]) wR [Ent.blk b10 [.int .i64 y44.1], Ent.blk b28 [.string ⟨⟨(gi y18 v24).Long.Name⟩⟩, .slice (g20.s (v24).toNat 0).a (((gi y18 v24).Long.Value).length) (g20.s (v24).toNat 0).c, .string ⟨⟨(gi y18 v24).Long.Whole⟩⟩, .bool ((gi y18 v24).Important), .int .u8 ((gi y18 v24).Origin), .bool ((gi y18 v24).Attached), .int .i64 ((gi y18 v24).Layer), .int .i64 ((gi y18 v24).Weight.e0), .int .i64 ((gi y18 v24).Weight.e1), .int .i64 ((gi y18 v24).Weight.e2), .int .i64 ((gi y18 v24).Order)], Ent.ro b19 [.slice g20.a y18.length g20.c], Ent.im tyDeclared y18 g20, Ent.blk b13 [.string ⟨⟨[]⟩⟩], Ent.blk b7 [.string ⟨⟨name_⟩⟩], Ent.blk b4 [.int .u8 below], Ent.blk b1 [.slice g_l_.a l_.length g_l_.c], Ent.im tyDeclared l_ g_l_, gE0] _ := hS.join [4] [0, 1, 2, 3, 5, 6, 7, 8, 9] rfl rfl hq
     clear hq
     have hd := hS.hand [4] [0, 1, 2, 3, 5, 6, 7, 8, 9] rfl rfl
     refine m_stp0 [6, 7] [(6, [], .pointer (some ⟨b10, 0, none⟩)), (7, [], .pointer (some ⟨b13, 0, none⟩))] H48 rfl rfl rfl (o_store [.string ⟨⟨y44.2⟩⟩] H48 hd rfl rfl (by kernel_rfl) rfl rfl rfl) rfl fun _ wd49 H50 hq => ?_
     clear H48 hd
     obtain ⟨_, hq⟩ := hq
     replace hS : SH M (fpl [Ent.blk b28 [.string ⟨⟨(gi y18 v24).Long.Name⟩⟩, .slice (g20.s (v24).toNat 0).a (((gi y18 v24).Long.Value).length) (g20.s (v24).toNat 0).c, .string ⟨⟨(gi y18 v24).Long.Whole⟩⟩, .bool ((gi y18 v24).Important), .int .u8 ((gi y18 v24).Origin), .bool ((gi y18 v24).Attached), .int .i64 ((gi y18 v24).Layer), .int .i64 ((gi y18 v24).Weight.e0), .int .i64 ((gi y18 v24).Weight.e1), .int .i64 ((gi y18 v24).Weight.e2), .int .i64 ((gi y18 v24).Order)], Ent.ro b19 [.slice g20.a y18.length g20.c], Ent.im tyDeclared y18 g20, Ent.blk b13 [.string ⟨⟨[]⟩⟩], Ent.blk b10 [.int .i64 0], Ent.blk b7 [.string ⟨⟨name_⟩⟩], Ent.blk b4 [.int .u8 below], Ent.blk b1 [.slice g_l_.a l_.length g_l_.c], Ent.im tyDeclared l_ g_l_, gE0]) wR [Ent.blk b13 [.string ⟨⟨y44.2⟩⟩], Ent.blk b10 [.int .i64 y44.1], Ent.blk b28 [.string ⟨⟨(gi y18 v24).Long.Name⟩⟩, .slice (g20.s (v24).toNat 0).a (((gi y18 v24).Long.Value).length) (g20.s (v24).toNat 0).c, .string ⟨⟨(gi y18 v24).Long.Whole⟩⟩, .bool ((gi y18 v24).Important), .int .u8 ((gi y18 v24).Origin), .bool ((gi y18 v24).Attached), .int .i64 ((gi y18 v24).Layer), .int .i64 ((gi y18 v24).Weight.e0), .int .i64 ((gi y18 v24).Weight.e1), .int .i64 ((gi y18 v24).Weight.e2), .int .i64 ((gi y18 v24).Order)], Ent.ro b19 [.slice g20.a y18.length g20.c], Ent.im tyDeclared y18 g20, Ent.blk b7 [.string ⟨⟨name_⟩⟩], Ent.blk b4 [.int .u8 below], Ent.blk b1 [.slice g_l_.a l_.length g_l_.c], Ent.im tyDeclared l_ g_l_, gE0] _ := hS.join [4] [0, 1, 2, 3, 5, 6, 7, 8, 9] rfl rfl hq
     clear hq
     refine wl_end rfl ?_
     refine r_ret ?_
     obtain rfl := someE hm
     have hm := hm_z36
     exact ⟨(y44.1, y44.2), someE hm, hS.sel [1, 0] rfl⟩
    ·rintro _ wd59 ⟨s_z36, hz, H, hS⟩
     subst hz
     replace hm := sumR hm_z36
     replace hS : SH M (fpl [Ent.blk b28 [.string ⟨⟨(gi y18 v24).Long.Name⟩⟩, .slice (g20.s (v24).toNat 0).a (((gi y18 v24).Long.Value).length) (g20.s (v24).toNat 0).c, .string ⟨⟨(gi y18 v24).Long.Whole⟩⟩, .bool ((gi y18 v24).Important), .int .u8 ((gi y18 v24).Origin), .bool ((gi y18 v24).Attached), .int .i64 ((gi y18 v24).Layer), .int .i64 ((gi y18 v24).Weight.e0), .int .i64 ((gi y18 v24).Weight.e1), .int .i64 ((gi y18 v24).Weight.e2), .int .i64 ((gi y18 v24).Order)], Ent.ro b19 [.slice g20.a y18.length g20.c], Ent.im tyDeclared y18 g20, Ent.blk b13 [.string ⟨⟨[]⟩⟩], Ent.blk b10 [.int .i64 0], Ent.blk b7 [.string ⟨⟨name_⟩⟩], Ent.blk b4 [.int .u8 below], Ent.blk b1 [.slice g_l_.a l_.length g_l_.c], Ent.im tyDeclared l_ g_l_, gE0]) wR [Ent.ro b19 [.slice g20.a y18.length g20.c], Ent.im tyDeclared y18 g20, Ent.blk b13 [.string ⟨⟨[]⟩⟩], Ent.blk b10 [.int .i64 0], Ent.blk b7 [.string ⟨⟨name_⟩⟩], Ent.blk b4 [.int .u8 below], Ent.blk b1 [.slice g_l_.a l_.length g_l_.c], Ent.im tyDeclared l_ g_l_, gE0] _ := hS.sel [1, 2, 3, 4, 5, 6, 7, 8, 9] rfl
     refine r_seq ?_
     refine rl_start (by kernel_rfl) ?_
     refine wl_batch 0 1 [] [6, 7, 42] [(6, [], .pointer (some ⟨b10, 0, none⟩)), (7, [], .pointer (some ⟨b13, 0, none⟩)), (42, [], .int .i64 v24)] [] H (by decide) (by kernel_rfl) trivial fun _ wd53 H54 hb => ?_
     clear H
     replace hS := hS.below hb
     clear hb
     have hd := hS.hand [3] [0, 1, 2, 4, 5, 6, 7, 8] rfl rfl
     refine m_stp0 [6, 7] [(6, [], .pointer (some ⟨b10, 0, none⟩)), (7, [], .pointer (some ⟨b13, 0, none⟩))] H54 rfl rfl rfl (o_store [.int .i64 v24] H54 hd rfl rfl (by kernel_rfl) rfl rfl rfl) rfl fun _ wd55 H56 hq => ?_
     clear H54 hd
     obtain ⟨_, hq⟩ := hq
     replace hS : SH M (fpl [Ent.blk b28 [.string ⟨⟨(gi y18 v24).Long.Name⟩⟩, .slice (g20.s (v24).toNat 0).a (((gi y18 v24).Long.Value).length) (g20.s (v24).toNat 0).c, .string ⟨⟨(gi y18 v24).Long.Whole⟩⟩, .bool ((gi y18 v24).Important), .int .u8 ((gi y18 v24).Origin), .bool ((gi y18 v24).Attached), .int .i64 ((gi y18 v24).Layer), .int .i64 ((gi y18 v24).Weight.e0), .int .i64 ((gi y18 v24).Weight.e1), .int .i64 ((gi y18 v24).Weight.e2), .int .i64 ((gi y18 v24).Order)], Ent.ro b19 [.slice g20.a y18.length g20.c], Ent.im tyDeclared y18 g20, Ent.blk b13 [.string ⟨⟨[]⟩⟩], Ent.blk b10 [.int .i64 0], Ent.blk b7 [.string ⟨⟨name_⟩⟩], Ent.blk b4 [.int .u8 below], Ent.blk b1 [.slice g_l_.a l_.length g_l_.c], Ent.im tyDeclared l_ g_l_, gE0]) wR [Ent.blk b10 [.int .i64 v24], Ent.ro b19 [.slice g20.a y18.length g20.c], Ent.im tyDeclared y18 g20, Ent.blk b13 [.string ⟨⟨[]⟩⟩], Ent.blk b7 [.string ⟨⟨name_⟩⟩], Ent.blk b4 [.int .u8 below], Ent.blk b1 [.slice g_l_.a l_.length g_l_.c], Ent.im tyDeclared l_ g_l_, gE0] _ := hS.join [3] [0, 1, 2, 4, 5, 6, 7, 8] rfl rfl hq
     clear hq
     have hd := hS.hand [3] [0, 1, 2, 4, 5, 6, 7, 8] rfl rfl
     refine m_stp0 [6, 7] [(6, [], .pointer (some ⟨b10, 0, none⟩)), (7, [], .pointer (some ⟨b13, 0, none⟩))] H56 rfl rfl rfl (o_store [.string ⟨⟨[]⟩⟩] H56 hd rfl rfl (by kernel_rfl) rfl rfl rfl) rfl fun _ wd57 H58 hq => ?_
     clear H56 hd
     obtain ⟨_, hq⟩ := hq
     replace hS : SH M (fpl [Ent.blk b28 [.string ⟨⟨(gi y18 v24).Long.Name⟩⟩, .slice (g20.s (v24).toNat 0).a (((gi y18 v24).Long.Value).length) (g20.s (v24).toNat 0).c, .string ⟨⟨(gi y18 v24).Long.Whole⟩⟩, .bool ((gi y18 v24).Important), .int .u8 ((gi y18 v24).Origin), .bool ((gi y18 v24).Attached), .int .i64 ((gi y18 v24).Layer), .int .i64 ((gi y18 v24).Weight.e0), .int .i64 ((gi y18 v24).Weight.e1), .int .i64 ((gi y18 v24).Weight.e2), .int .i64 ((gi y18 v24).Order)], Ent.ro b19 [.slice g20.a y18.length g20.c], Ent.im tyDeclared y18 g20, Ent.blk b13 [.string ⟨⟨[]⟩⟩], Ent.blk b10 [.int .i64 0], Ent.blk b7 [.string ⟨⟨name_⟩⟩], Ent.blk b4 [.int .u8 below], Ent.blk b1 [.slice g_l_.a l_.length g_l_.c], Ent.im tyDeclared l_ g_l_, gE0]) wR [Ent.blk b13 [.string ⟨⟨[]⟩⟩], Ent.blk b10 [.int .i64 v24], Ent.ro b19 [.slice g20.a y18.length g20.c], Ent.im tyDeclared y18 g20, Ent.blk b7 [.string ⟨⟨name_⟩⟩], Ent.blk b4 [.int .u8 below], Ent.blk b1 [.slice g_l_.a l_.length g_l_.c], Ent.im tyDeclared l_ g_l_, gE0] _ := hS.join [3] [0, 1, 2, 4, 5, 6, 7, 8] rfl rfl hq
     clear hq
     refine wl_end rfl ?_
     refine r_ret ?_
     exact ⟨(v24, []), someE hm, hS.sel [1, 0] rfl⟩
  case hn_1 =>
   intro _ bD61 aR wR hb_bD61 hC H hS
   obtain ⟨kk, hm⟩ := hC
   replace H : FrG [mk bD61] 45 [(3, [], .pointer (some ⟨b1, 0, none⟩)), (4, [], .pointer (some ⟨b4, 0, none⟩)), (5, [], .pointer (some ⟨b7, 0, none⟩)), (6, [], .pointer (some ⟨b10, 0, none⟩)), (7, [], .pointer (some ⟨b13, 0, none⟩)), (12, [], .func (.func 47) ⟨[]⟩ ⟨[.pointer (some ⟨b19, 0, none⟩)]⟩)] aR := H
   replace hS : SH M X w [Ent.obj bD61 dEnd, Ent.ro b19 [.slice g20.a y18.length g20.c], Ent.im tyDeclared y18 g20, Ent.blk b13 [.string ⟨⟨[]⟩⟩], Ent.blk b10 [.int .i64 0], Ent.blk b7 [.string ⟨⟨name_⟩⟩], Ent.blk b4 [.int .u8 below], Ent.blk b1 [.slice g_l_.a l_.length g_l_.c], Ent.im tyDeclared l_ g_l_, gE0] wR := hS
   cases kk with
   | zero => exact noneE hm
   | succ kk =>
    rw [wide_decide_L1] at hm
    replace hm := bT (decide_eq_true (show ((y18).length : Int) - 1 - ((y18).length : Int) < 0 from by omega)) hm
    refine w_seq ?_
    refine wl_start ?_
    obtain ⟨y62, hy62, hm⟩ := bindE hm
    refine wl_batch 0 2 [(.string ⟨⟨name_⟩⟩), (.string ⟨⟨y62⟩⟩)] [6, 7, 44] [(6, [], .pointer (some ⟨b10, 0, none⟩)), (7, [], .pointer (some ⟨b13, 0, none⟩)), (44, [], .string ⟨⟨y62⟩⟩)] [fun wz => V.at1 ⟨b7, 0, none⟩ (.string ⟨⟨name_⟩⟩) wz, fun wz => RetB Tryd.prog 29 ⟨[.string ⟨⟨name_⟩⟩]⟩ (.string ⟨⟨y62⟩⟩) wz] H (by decide) (by kernel_rfl) ⟨((hS.bk 5 rfl).at1 rfl), (wide_unset_ok m _ _ hy62 _ (s0im s0nil (hS.im 9 rfl))), trivial⟩ fun _ wd63 H64 hb => ?_
    clear H
    replace hS := hS.below hb
    clear hb
    have hd := hS.hand [4] [0, 1, 2, 3, 5, 6, 7, 8, 9] rfl rfl
    refine m_stp0 [6, 7, 44] [(6, [], .pointer (some ⟨b10, 0, none⟩)), (7, [], .pointer (some ⟨b13, 0, none⟩)), (44, [], .string ⟨⟨y62⟩⟩)] H64 rfl rfl rfl (o_store [.int .i64 (-1)] H64 hd rfl rfl (by kernel_rfl) rfl rfl rfl) rfl fun _ wd65 H66 hq => ?_
    clear H64 hd
    obtain ⟨_, hq⟩ := hq
    replace hS : SH M X w [Ent.blk b10 [.int .i64 (-1)], Ent.obj bD61 dEnd, Ent.ro b19 [.slice g20.a y18.length g20.c], Ent.im tyDeclared y18 g20, Ent.blk b13 [.string ⟨⟨[]⟩⟩], Ent.blk b7 [.string ⟨⟨name_⟩⟩], Ent.blk b4 [.int .u8 below], Ent.blk b1 [.slice g_l_.a l_.length g_l_.c], Ent.im tyDeclared l_ g_l_, gE0] _ := hS.join [4] [0, 1, 2, 3, 5, 6, 7, 8, 9] rfl rfl hq
    clear hq
    have hd := hS.hand [4] [0, 1, 2, 3, 5, 6, 7, 8, 9] rfl rfl
    refine m_stp0 [6, 7] [(6, [], .pointer (some ⟨b10, 0, none⟩)), (7, [], .pointer (some ⟨b13, 0, none⟩))] H66 rfl rfl rfl (o_store [.string ⟨⟨y62⟩⟩] H66 hd rfl rfl (by kernel_rfl) rfl rfl rfl) rfl fun _ wd67 H68 hq => ?_
    clear H66 hd
    obtain ⟨_, hq⟩ := hq
    replace hS : SH M X w [Ent.blk b13 [.string ⟨⟨y62⟩⟩], Ent.blk b10 [.int .i64 (-1)], Ent.obj bD61 dEnd, Ent.ro b19 [.slice g20.a y18.length g20.c], Ent.im tyDeclared y18 g20, Ent.blk b7 [.string ⟨⟨name_⟩⟩], Ent.blk b4 [.int .u8 below], Ent.blk b1 [.slice g_l_.a l_.length g_l_.c], Ent.im tyDeclared l_ g_l_, gE0] _ := hS.join [4] [0, 1, 2, 3, 5, 6, 7, 8, 9] rfl rfl hq
    clear hq
    refine wl_end rfl ?_
    replace hS : SH M X w [Ent.blk b13 [.string ⟨⟨y62⟩⟩], Ent.blk b10 [.int .i64 (-1)], Ent.obj bD61 dEnd, Ent.ro b19 [.slice g20.a y18.length g20.c], Ent.im tyDeclared y18 g20, gE0] _ := hS.sel [0, 1, 2, 3, 4, 9] rfl
    refine w_ret ?_
    obtain rfl := someE hm
    refine retM H68 hb_bD61 (hS.sel [2, 0, 1, 3, 4, 5] rfl) ⟨nc_blk _ _, ⟨nc_blk _ _, ⟨nc_ro _ _, ⟨nc_im nc_tyDeclared _ _, ⟨nc_im (nc_I _) _ _, trivial⟩⟩⟩⟩⟩ fun _ _ H hS => ?_
    replace hS : SH M X w [Ent.blk b13 [.string ⟨⟨y62⟩⟩], Ent.blk b10 [.int .i64 (-1)], Ent.ro b19 [.slice g20.a y18.length g20.c], Ent.im tyDeclared y18 g20, gE0] _ := hS
    exact retR2 H rfl (oneRes_one rfl (hS.bk 1 rfl) Tryd.underlying3 rfl) (oneRes_one rfl (hS.bk 0 rfl) Tryd.underlying9 rfl) ⟨_, rfl, rfl, (hS.sel [] rfl)⟩
  case hr_1 =>
   intro yR bD61 aR wR hb_bD61 hC H hS
   have hm : some yR = some r := congrArg some hC
   replace H : FrG [mk bD61] 45 [(3, [], .pointer (some ⟨b1, 0, none⟩)), (4, [], .pointer (some ⟨b4, 0, none⟩)), (5, [], .pointer (some ⟨b7, 0, none⟩)), (6, [], .pointer (some ⟨b10, 0, none⟩)), (7, [], .pointer (some ⟨b13, 0, none⟩)), (12, [], .func (.func 47) ⟨[]⟩ ⟨[.pointer (some ⟨b19, 0, none⟩)]⟩)] aR := H
   replace hS : SH M X w [Ent.obj bD61 dEnd, Ent.blk b10 [.int .i64 yR.1], Ent.blk b13 [.string ⟨⟨yR.2⟩⟩]] wR := hS
   obtain rfl := someE hm
   refine retM H hb_bD61 (hS.sel [0, 1, 2] rfl) ⟨nc_blk _ _, ⟨nc_blk _ _, trivial⟩⟩ fun _ _ H hS => ?_
   replace hS : SH M X w [Ent.blk b10 [.int .i64 yR.1], Ent.blk b13 [.string ⟨⟨yR.2⟩⟩]] _ := hS
   exact retR2 H rfl (oneRes_one rfl (hS.bk 0 rfl) Tryd.underlying3 rfl) (oneRes_one rfl (hS.bk 1 rfl) Tryd.underlying9 rfl) ⟨_, rfl, rfl, (hS.sel [] rfl)⟩
def wide_decide (m : Nat) (l_ : List TDeclared) (below : Int) (name_ : Str) : Option (Int × Str) := wide_decide_r m  m l_ below name_
theorem wide_decide_ok {g_l_ : Gh} (m : Nat) (l_ : List TDeclared) (below : Int) (name_ : Str) (r : Int × Str) (hm : wide_decide m l_ below name_ = some r) (w : World) (hL : S0 F0 [Ent.im tyDeclared l_ g_l_, gE0] w ∧ fpl [Ent.im tyDeclared l_ g_l_, gE0] = []) : RetB Tryd.prog 15 ⟨[.slice g_l_.a l_.length g_l_.c, .int .u8 below, .string ⟨⟨name_⟩⟩]⟩ (.tuple ⟨[.int .i64 r.1, .string ⟨⟨r.2⟩⟩]⟩) w := retB_of hL (Tryd.call15 _) (fun w' h => wide_decide_w m   m g_l_ F0 l_ below name_ r hm w' h)

def wide_Decide (m : Nat) (l_ : List TDeclared) (name_ : Str) : Option (Int × Str × Int) :=
  Option.bind (wide_asked m l_) fun y3 =>
  cond (y3 != 0) (
  some (0, [], y3)) (
  Option.bind (props_Inherited m name_) fun y10 =>
  cond (y10.2 != 0) (
  some (0, [], 6)) (
  Option.bind (wide_decide m l_ 4 name_) fun y17 =>
  some (y17.1, y17.2, 0)))
theorem wide_Decide_w {g_l_ : Gh} (M : Av) (m : Nat) (l_ : List TDeclared) (name_ : Str) (r : Int × Str × Int) (hm : wide_Decide m l_ name_ = some r) (w : World) (hS : S0 M [Ent.im tyDeclared l_ g_l_, gE0] w) : Calls Tryd.prog 7 ⟨[.slice g_l_.a l_.length g_l_.c, .string ⟨⟨name_⟩⟩]⟩ w (fun e w' => ∃ v, e = .returned v ∧ v = .tuple ⟨[.int .i64 r.1, .string ⟨⟨r.2.1⟩⟩, .int .i64 r.2.2]⟩ ∧ SH M (fpl [Ent.im tyDeclared l_ g_l_, gE0]) w [] w') := by
 rw [wide_Decide] at hm
 have hS0 : SH M (fpl [Ent.im tyDeclared l_ g_l_, gE0]) w [Ent.im tyDeclared l_ g_l_, gE0] w := hS
 generalize hX : fpl [Ent.im tyDeclared l_ g_l_, gE0] = X at hS0 ⊢
 clear hS hX
 have hS := hS0
 clear hS0
 refine calls_entryP Tryd.func7 rfl Tryd.ntmps7 rfl fun _ H => ?_
 refine s_reg [] [0, 1] [(0, [], .slice g_l_.a l_.length g_l_.c), (1, [], .string ⟨⟨name_⟩⟩)] [] H (by kernel_rfl) trivial fun _ wd1 H2 hb => ?_
 clear H
 replace hS := hS.below hb
 clear hb
 refine w_seq ?_
 obtain ⟨y3, hy3, hm⟩ := bindE hm
 refine s_reg [(.int .i64 y3)] [0, 1, 7] [(0, [], .slice g_l_.a l_.length g_l_.c), (1, [], .string ⟨⟨name_⟩⟩), (7, [], .int .i64 y3)] [fun wz => RetB Tryd.prog 13 ⟨[.slice g_l_.a l_.length g_l_.c]⟩ (.int .i64 y3) wz] H2 (by kernel_rfl) ⟨(wide_asked_ok (g_l_ := g_l_) m _ _ hy3 _ (s0im (s0im s0nil (hS.im 1 rfl)) (hS.im 0 rfl))), trivial⟩ fun _ wd4 H5 hb => ?_
 clear H2
 replace hS := hS.below hb
 clear hb
 refine s_reg [] [0, 1, 7, 15] [(0, [], .slice g_l_.a l_.length g_l_.c), (1, [], .string ⟨⟨name_⟩⟩), (7, [], .int .i64 y3), (15, [], .bool (y3 != 0))] [] H5 (by kernel_rfl) trivial fun _ wd6 H7 hb => ?_
 clear H5
 replace hS := hS.below hb
 clear hb
 refine w_if H7 rfl (fun hc => ?c23) (fun hc => ?_)
 case c23 =>
  replace hm := bT hc hm
  refine s_reg [] [4, 5, 6] [(4, [], .int .i64 0), (5, [], .string ⟨⟨[]⟩⟩), (6, [], .int .i64 y3)] [] H7 (by kernel_rfl) trivial fun _ wd8 H9 hb => ?_
  clear H7
  replace hS := hS.below hb
  clear hb
  replace hS : SH M X w [gE0] _ := hS.sel [1] rfl
  refine w_ret ?_
  obtain rfl := someE hm
  exact retR3 H9 rfl rfl rfl rfl ⟨_, rfl, rfl, (hS.sel [] rfl)⟩
 replace hm := bF hc hm
 refine w_skip ?_
 refine w_seq ?_
 obtain ⟨y10, hy10, hm⟩ := bindE hm
 refine s_reg [(.tuple ⟨[.bool y10.1, .int .i64 y10.2]⟩)] [0, 1, 9] [(0, [], .slice g_l_.a l_.length g_l_.c), (1, [], .string ⟨⟨name_⟩⟩), (9, [], .int .i64 y10.2)] [fun wz => RetB Tryd.prog 14 ⟨[.string ⟨⟨name_⟩⟩]⟩ (.tuple ⟨[.bool y10.1, .int .i64 y10.2]⟩) wz] H7 (by kernel_rfl) ⟨(props_Inherited_ok m _ _ hy10 _ (s0im s0nil (hS.im 1 rfl))), trivial⟩ fun _ wd11 H12 hb => ?_
 clear H7
 replace hS := hS.below hb
 clear hb
 refine s_reg [] [0, 1, 23] [(0, [], .slice g_l_.a l_.length g_l_.c), (1, [], .string ⟨⟨name_⟩⟩), (23, [], .bool (y10.2 != 0))] [] H12 (by kernel_rfl) trivial fun _ wd13 H14 hb => ?_
 clear H12
 replace hS := hS.below hb
 clear hb
 refine w_if H14 rfl (fun hc => ?c22) (fun hc => ?_)
 case c22 =>
  replace hm := bT hc hm
  refine s_reg [] [4, 5, 6] [(4, [], .int .i64 0), (5, [], .string ⟨⟨[]⟩⟩), (6, [], .int .i64 6)] [] H14 (by kernel_rfl) trivial fun _ wd15 H16 hb => ?_
  clear H14
  replace hS := hS.below hb
  clear hb
  replace hS : SH M X w [gE0] _ := hS.sel [1] rfl
  refine w_ret ?_
  obtain rfl := someE hm
  exact retR3 H16 rfl rfl rfl rfl ⟨_, rfl, rfl, (hS.sel [] rfl)⟩
 replace hm := bF hc hm
 refine w_skip ?_
 obtain ⟨y17, hy17, hm⟩ := bindE hm
 refine s_reg [(.tuple ⟨[.int .i64 y17.1, .string ⟨⟨y17.2⟩⟩]⟩)] [10, 11] [(10, [], .int .i64 y17.1), (11, [], .string ⟨⟨y17.2⟩⟩)] [fun wz => RetB Tryd.prog 15 ⟨[.slice g_l_.a l_.length g_l_.c, .int .u8 4, .string ⟨⟨name_⟩⟩]⟩ (.tuple ⟨[.int .i64 y17.1, .string ⟨⟨y17.2⟩⟩]⟩) wz] H14 (by kernel_rfl) ⟨(wide_decide_ok (g_l_ := g_l_) m _ _ _ _ hy17 _ (s0im (s0im s0nil (hS.im 1 rfl)) (hS.im 0 rfl))), trivial⟩ fun _ wd18 H19 hb => ?_
 clear H14
 replace hS := hS.below hb
 clear hb
 replace hS : SH M X w [gE0] _ := hS.sel [1] rfl
 refine s_reg [] [4, 5, 6] [(4, [], .int .i64 y17.1), (5, [], .string ⟨⟨y17.2⟩⟩), (6, [], .int .i64 0)] [] H19 (by kernel_rfl) trivial fun _ wd20 H21 hb => ?_
 clear H19
 replace hS := hS.below hb
 clear hb
 refine w_ret ?_
 obtain rfl := someE hm
 exact retR3 H21 rfl rfl rfl rfl ⟨_, rfl, rfl, (hS.sel [] rfl)⟩
theorem wide_Decide_ok {g_l_ : Gh} (m : Nat) (l_ : List TDeclared) (name_ : Str) (r : Int × Str × Int) (hm : wide_Decide m l_ name_ = some r) (w : World) (hL : S0 F0 [Ent.im tyDeclared l_ g_l_, gE0] w ∧ fpl [Ent.im tyDeclared l_ g_l_, gE0] = []) : RetB Tryd.prog 7 ⟨[.slice g_l_.a l_.length g_l_.c, .string ⟨⟨name_⟩⟩]⟩ (.tuple ⟨[.int .i64 r.1, .string ⟨⟨r.2.1⟩⟩, .int .i64 r.2.2]⟩) w := retB_of hL (Tryd.call7 _) (fun w' h => wide_Decide_w F0 m   l_ name_ r hm w' h)

def law31_says (m : Nat) (l_ : List TDeclared) (name_ : Str) (at_ : Int) (word : Str) : Option (Bool) :=
  Option.bind (wide_Decide m l_ name_) fun y3 =>
  lt (cond (cond (y3.2.2 == 0) (y3.1 == at_) false) (y3.2.1 == word) false) fun x6 =>
  some x6
theorem law31_says_w {g_l_ : Gh} (M : Av) (m : Nat) (l_ : List TDeclared) (name_ : Str) (at_ : Int) (word : Str) (r : Bool) (hm : law31_says m l_ name_ at_ word = some r) (w : World) (hS : S0 M [Ent.im tyDeclared l_ g_l_, gE0] w) : Calls Tryd.prog 4 ⟨[.slice g_l_.a l_.length g_l_.c, .string ⟨⟨name_⟩⟩, .int .i64 at_, .string ⟨⟨word⟩⟩]⟩ w (fun e w' => ∃ v, e = .returned v ∧ v = .bool r ∧ SH M (fpl [Ent.im tyDeclared l_ g_l_, gE0]) w [] w') := by
 rw [law31_says] at hm
 have hS0 : SH M (fpl [Ent.im tyDeclared l_ g_l_, gE0]) w [Ent.im tyDeclared l_ g_l_, gE0] w := hS
 generalize hX : fpl [Ent.im tyDeclared l_ g_l_, gE0] = X at hS0 ⊢
 clear hS hX
 have hS := hS0
 clear hS0
 refine calls_entryP Tryd.func4 rfl Tryd.ntmps4 rfl fun _ H => ?_
 refine s_reg [] [0, 1, 2, 3] [(0, [], .slice g_l_.a l_.length g_l_.c), (1, [], .string ⟨⟨name_⟩⟩), (2, [], .int .i64 at_), (3, [], .string ⟨⟨word⟩⟩)] [] H (by kernel_rfl) trivial fun _ wd1 H2 hb => ?_
 clear H
 replace hS := hS.below hb
 clear hb
 obtain ⟨y3, hy3, hm⟩ := bindE hm
 refine s_reg [(.tuple ⟨[.int .i64 y3.1, .string ⟨⟨y3.2.1⟩⟩, .int .i64 y3.2.2]⟩)] [2, 3, 9, 10, 11] [(2, [], .int .i64 at_), (3, [], .string ⟨⟨word⟩⟩), (9, [], .int .i64 y3.1), (10, [], .string ⟨⟨y3.2.1⟩⟩), (11, [], .int .i64 y3.2.2)] [fun wz => RetB Tryd.prog 7 ⟨[.slice g_l_.a l_.length g_l_.c, .string ⟨⟨name_⟩⟩]⟩ (.tuple ⟨[.int .i64 y3.1, .string ⟨⟨y3.2.1⟩⟩, .int .i64 y3.2.2]⟩) wz] H2 (by kernel_rfl) ⟨(wide_Decide_ok (g_l_ := g_l_) m _ _ _ hy3 _ (s0im (s0im s0nil (hS.im 1 rfl)) (hS.im 0 rfl))), trivial⟩ fun _ wd4 H5 hb => ?_
 clear H2
 replace hS := hS.below hb
 clear hb
 replace hS : SH M X w [gE0] _ := hS.sel [1] rfl
 obtain ⟨x6, hx6, hm⟩ := letE hm
 refine s_reg [] [8] [(8, [], .bool x6)] [] H5 (by subst hx6; kernel_rfl) trivial fun _ wd7 H8 hb => ?_
 clear H5
 replace hS := hS.below hb
 clear hb
 refine w_ret ?_
 obtain rfl := someE hm
 exact retR1 H8 rfl rfl ⟨_, rfl, rfl, (hS.sel [] rfl)⟩
theorem law31_says_ok {g_l_ : Gh} (m : Nat) (l_ : List TDeclared) (name_ : Str) (at_ : Int) (word : Str) (r : Bool) (hm : law31_says m l_ name_ at_ word = some r) (w : World) (hL : S0 F0 [Ent.im tyDeclared l_ g_l_, gE0] w ∧ fpl [Ent.im tyDeclared l_ g_l_, gE0] = []) : RetB Tryd.prog 4 ⟨[.slice g_l_.a l_.length g_l_.c, .string ⟨⟨name_⟩⟩, .int .i64 at_, .string ⟨⟨word⟩⟩]⟩ (.bool r) w := retB_of hL (Tryd.call4 _) (fun w' h => law31_says_w F0 m   l_ name_ at_ word r hm w' h)

def wide_mean_3 (m : Nat) (l_ : List TDeclared) (at_ : Int) (word : Str) : Option (Int × Str) :=
  chk (0 ≤ at_ ∧ at_ < ln l_) <|
  cond (word == [114, 101, 118, 101, 114, 116]) (
  Option.bind (wide_decide m l_ ((gi l_ at_).Origin) ((gi l_ at_).Long.Name)) fun y10 =>
  some (y10.1, y10.2)) (
  cond (word == [117, 110, 115, 101, 116]) (
  Option.bind (wide_unset m ((gi l_ at_).Long.Name)) fun y15 =>
  some ((-1), y15)) (
  some ((-1), word)))
theorem wide_mean_3_w {g_l_ : Gh} (M : Av) (m : Nat) (l_ : List TDeclared) (at_ : Int) (word : Str) (r : Int × Str) (hm : wide_mean_3 m l_ at_ word = some r) (w : World) (hS : S0 M [Ent.im tyDeclared l_ g_l_, gE0] w) : Calls Tryd.prog 17 ⟨[.slice g_l_.a l_.length g_l_.c, .int .i64 at_, .string ⟨⟨word⟩⟩]⟩ w (fun e w' => ∃ v, e = .returned v ∧ v = .tuple ⟨[.int .i64 r.1, .string ⟨⟨r.2⟩⟩]⟩ ∧ SH M (fpl [Ent.im tyDeclared l_ g_l_, gE0]) w [] w') := by
 rw [wide_mean_3] at hm
 have hS0 : SH M (fpl [Ent.im tyDeclared l_ g_l_, gE0]) w [Ent.im tyDeclared l_ g_l_, gE0] w := hS
 generalize hX : fpl [Ent.im tyDeclared l_ g_l_, gE0] = X at hS0 ⊢
 clear hS hX
 have hS := hS0
 clear hS0
 refine calls_entryP Tryd.func17 rfl Tryd.ntmps17 rfl fun _ H => ?_
 refine s_reg [] [0, 1, 2] [(0, [], .slice g_l_.a l_.length g_l_.c), (1, [], .int .i64 at_), (2, [], .string ⟨⟨word⟩⟩)] [] H (by kernel_rfl) trivial fun _ wd1 H2 hb => ?_
 clear H
 replace hS := hS.below hb
 clear hb
 obtain ⟨ho3, hm⟩ := chkE hm
 refine s_reg [(.string ⟨⟨(gi l_ at_).Long.Name⟩⟩)] [0, 1, 2, 8] [(0, [], .slice g_l_.a l_.length g_l_.c), (1, [], .int .i64 at_), (2, [], .string ⟨⟨word⟩⟩), (8, [], .string ⟨⟨(gi l_ at_).Long.Name⟩⟩)] [fun _ => oka g_l_.a ∧ 0 ≤ at_ ∧ at_ < ln l_, fun wz => V.at1 ⟨ab g_l_.a, ao g_l_.a + (at_).toNat * 11, none⟩ (.string ⟨⟨(gi l_ at_).Long.Name⟩⟩) wz] H2 (by kernel_rfl) ⟨((hS.im 0 rfl).oki ho3), ((hS.im 0 rfl).at1 ho3 0 rfl), trivial⟩ fun _ wd4 H5 hb => ?_
 clear H2
 replace hS := hS.below hb
 clear hb
 refine w_seq ?_
 refine s_reg [] [0, 1, 2, 8, 15] [(0, [], .slice g_l_.a l_.length g_l_.c), (1, [], .int .i64 at_), (2, [], .string ⟨⟨word⟩⟩), (8, [], .string ⟨⟨(gi l_ at_).Long.Name⟩⟩), (15, [], .string ⟨⟨word⟩⟩)] [] H5 (by kernel_rfl) trivial fun _ wd6 H7 hb => ?_
 clear H5
 replace hS := hS.below hb
 clear hb
 refine w_block ?_
 refine s_reg [] [0, 1, 2, 8, 15, 16] [(0, [], .slice g_l_.a l_.length g_l_.c), (1, [], .int .i64 at_), (2, [], .string ⟨⟨word⟩⟩), (8, [], .string ⟨⟨(gi l_ at_).Long.Name⟩⟩), (15, [], .string ⟨⟨word⟩⟩), (16, [], .bool (word == [114, 101, 118, 101, 114, 116]))] [] H7 (by kernel_rfl) trivial fun _ wd8 H9 hb => ?_
 clear H7
 replace hS := hS.below hb
 clear hb
 refine w_if H9 rfl (fun hc => ?c21) (fun hc => ?_)
 case c21 =>
  replace hm := bT hc hm
  obtain ⟨y10, hy10, hm⟩ := bindE hm
  refine s_reg [(.int .u8 ((gi l_ at_).Origin)), (.tuple ⟨[.int .i64 y10.1, .string ⟨⟨y10.2⟩⟩]⟩)] [6, 7] [(6, [], .int .i64 y10.1), (7, [], .string ⟨⟨y10.2⟩⟩)] [fun _ => oka g_l_.a ∧ 0 ≤ at_ ∧ at_ < ln l_, fun wz => V.at1 ⟨ab g_l_.a, ao g_l_.a + (at_).toNat * 11 + 4, none⟩ (.int .u8 ((gi l_ at_).Origin)) wz, fun wz => RetB Tryd.prog 15 ⟨[.slice g_l_.a l_.length g_l_.c, .int .u8 ((gi l_ at_).Origin), .string ⟨⟨(gi l_ at_).Long.Name⟩⟩]⟩ (.tuple ⟨[.int .i64 y10.1, .string ⟨⟨y10.2⟩⟩]⟩) wz] H9 (by kernel_rfl) ⟨((hS.im 0 rfl).oki ho3), ((hS.im 0 rfl).at1 ho3 4 rfl), (wide_decide_ok (g_l_ := g_l_) m _ _ _ _ hy10 _ (s0im (s0im s0nil (hS.im 1 rfl)) (hS.im 0 rfl))), trivial⟩ fun _ wd11 H12 hb => ?_
  clear H9
  replace hS := hS.below hb
  clear hb
  replace hS : SH M X w [gE0] _ := hS.sel [1] rfl
  refine w_ret ?_
  obtain rfl := someE hm
  exact retR2 H12 rfl rfl rfl ⟨_, rfl, rfl, (hS.sel [] rfl)⟩
 replace hm := bF hc hm
 refine s_reg [] [2, 8, 28] [(2, [], .string ⟨⟨word⟩⟩), (8, [], .string ⟨⟨(gi l_ at_).Long.Name⟩⟩), (28, [], .bool (word == [117, 110, 115, 101, 116]))] [] H9 (by kernel_rfl) trivial fun _ wd13 H14 hb => ?_
 clear H9
 replace hS := hS.below hb
 clear hb
 replace hS : SH M X w [gE0] _ := hS.sel [1] rfl
 refine w_if H14 rfl (fun hc => ?_) (fun hc => ?c20)
 case c20 =>
  replace hm := bF hc hm
  refine w_skip ?_
  refine s_reg [] [6, 7] [(6, [], .int .i64 (-1)), (7, [], .string ⟨⟨word⟩⟩)] [] H14 (by kernel_rfl) trivial fun _ wd18 H19 hb => ?_
  clear H14
  replace hS := hS.below hb
  clear hb
  refine w_ret ?_
  obtain rfl := someE hm
  exact retR2 H19 rfl rfl rfl ⟨_, rfl, rfl, (hS.sel [] rfl)⟩
 replace hm := bT hc hm
 obtain ⟨y15, hy15, hm⟩ := bindE hm
 refine s_reg [(.string ⟨⟨y15⟩⟩)] [6, 7] [(6, [], .int .i64 (-1)), (7, [], .string ⟨⟨y15⟩⟩)] [fun wz => RetB Tryd.prog 29 ⟨[.string ⟨⟨(gi l_ at_).Long.Name⟩⟩]⟩ (.string ⟨⟨y15⟩⟩) wz] H14 (by kernel_rfl) ⟨(wide_unset_ok m _ _ hy15 _ (s0im s0nil (hS.im 0 rfl))), trivial⟩ fun _ wd16 H17 hb => ?_
 clear H14
 replace hS := hS.below hb
 clear hb
 refine w_ret ?_
 obtain rfl := someE hm
 exact retR2 H17 rfl rfl rfl ⟨_, rfl, rfl, (hS.sel [] rfl)⟩
theorem wide_mean_3_ok {g_l_ : Gh} (m : Nat) (l_ : List TDeclared) (at_ : Int) (word : Str) (r : Int × Str) (hm : wide_mean_3 m l_ at_ word = some r) (w : World) (hL : S0 F0 [Ent.im tyDeclared l_ g_l_, gE0] w ∧ fpl [Ent.im tyDeclared l_ g_l_, gE0] = []) : RetB Tryd.prog 17 ⟨[.slice g_l_.a l_.length g_l_.c, .int .i64 at_, .string ⟨⟨word⟩⟩]⟩ (.tuple ⟨[.int .i64 r.1, .string ⟨⟨r.2⟩⟩]⟩) w := retB_of hL (Tryd.call17 _) (fun w' h => wide_mean_3_w F0 m   l_ at_ word r hm w' h)

def wide_Mean (m : Nat) (l_ : List TDeclared) (at_ : Int) (word : Str) : Option (Int × Str × Int) :=
  Option.bind (wide_asked m l_) fun y3 =>
  cond (y3 != 0) (
  some (0, [], y3)) (
  Option.bind (
  lt (cond (decide (at_ < 0)) true (decide ((ln l_) ≤ at_))) fun x11 =>
  lt (x11) fun x12 =>
  cond x12 (
  some true) (
  Option.bind (slices_Contains_string_string m ([[105, 110, 105, 116, 105, 97, 108], [105, 110, 104, 101, 114, 105, 116], [117, 110, 115, 101, 116], [114, 101, 118, 101, 114, 116]] : List Str) word) fun y25 =>
  some (!y25))) fun (z10 : Bool) =>
  cond z10 (
  some (0, [], 2)) (
  Option.bind (wide_mean_3 m l_ at_ word) fun y30 =>
  some (y30.1, y30.2, 0)))
theorem wide_Mean_w {g_l_ : Gh} (M : Av) (m : Nat) (l_ : List TDeclared) (at_ : Int) (word : Str) (r : Int × Str × Int) (hm : wide_Mean m l_ at_ word = some r) (w : World) (hS : S0 M [Ent.im tyDeclared l_ g_l_, gE0] w) : Calls Tryd.prog 8 ⟨[.slice g_l_.a l_.length g_l_.c, .int .i64 at_, .string ⟨⟨word⟩⟩]⟩ w (fun e w' => ∃ v, e = .returned v ∧ v = .tuple ⟨[.int .i64 r.1, .string ⟨⟨r.2.1⟩⟩, .int .i64 r.2.2]⟩ ∧ SH M (fpl [Ent.im tyDeclared l_ g_l_, gE0]) w [] w') := by
 rw [wide_Mean] at hm
 have hS0 : SH M (fpl [Ent.im tyDeclared l_ g_l_, gE0]) w [Ent.im tyDeclared l_ g_l_, gE0] w := hS
 generalize hX : fpl [Ent.im tyDeclared l_ g_l_, gE0] = X at hS0 ⊢
 clear hS hX
 have hS := hS0
 clear hS0
 refine calls_entryP Tryd.func8 rfl Tryd.ntmps8 rfl fun _ H => ?_
 refine s_reg [] [0, 1, 2] [(0, [], .slice g_l_.a l_.length g_l_.c), (1, [], .int .i64 at_), (2, [], .string ⟨⟨word⟩⟩)] [] H (by kernel_rfl) trivial fun _ wd1 H2 hb => ?_
 clear H
 replace hS := hS.below hb
 clear hb
 refine w_seq ?_
 obtain ⟨y3, hy3, hm⟩ := bindE hm
 refine s_reg [(.int .i64 y3)] [0, 1, 2, 9] [(0, [], .slice g_l_.a l_.length g_l_.c), (1, [], .int .i64 at_), (2, [], .string ⟨⟨word⟩⟩), (9, [], .int .i64 y3)] [fun wz => RetB Tryd.prog 13 ⟨[.slice g_l_.a l_.length g_l_.c]⟩ (.int .i64 y3) wz] H2 (by kernel_rfl) ⟨(wide_asked_ok (g_l_ := g_l_) m _ _ hy3 _ (s0im (s0im s0nil (hS.im 1 rfl)) (hS.im 0 rfl))), trivial⟩ fun _ wd4 H5 hb => ?_
 clear H2
 replace hS := hS.below hb
 clear hb
 refine s_reg [] [0, 1, 2, 9, 15] [(0, [], .slice g_l_.a l_.length g_l_.c), (1, [], .int .i64 at_), (2, [], .string ⟨⟨word⟩⟩), (9, [], .int .i64 y3), (15, [], .bool (y3 != 0))] [] H5 (by kernel_rfl) trivial fun _ wd6 H7 hb => ?_
 clear H5
 replace hS := hS.below hb
 clear hb
 refine w_if H7 rfl (fun hc => ?c37) (fun hc => ?_)
 case c37 =>
  replace hm := bT hc hm
  refine s_reg [] [6, 7, 8] [(6, [], .int .i64 0), (7, [], .string ⟨⟨[]⟩⟩), (8, [], .int .i64 y3)] [] H7 (by kernel_rfl) trivial fun _ wd8 H9 hb => ?_
  clear H7
  replace hS := hS.below hb
  clear hb
  replace hS : SH M X w [gE0] _ := hS.sel [1] rfl
  refine w_ret ?_
  obtain rfl := someE hm
  exact retR3 H9 rfl rfl rfl rfl ⟨_, rfl, rfl, (hS.sel [] rfl)⟩
 replace hm := bF hc hm
 refine w_skip ?_
 refine w_seq ?_
 obtain ⟨z10, hz, hm⟩ := bindE hm
 refine w_cut (fun a' w' => Fr 40 [(0, [], .slice g_l_.a l_.length g_l_.c), (1, [], .int .i64 at_), (2, [], .string ⟨⟨word⟩⟩), (30, [], .bool z10)] a' ∧ SH M X w [Ent.im tyDeclared l_ g_l_, gE0] w') ?_ ?_
 ·replace hm := hz
  refine wl_start ?_
  obtain ⟨x11, hx11, hm⟩ := letE hm
  obtain ⟨x12, hx12, hm⟩ := letE hm
  refine wl_batch 0 9 [] [0, 1, 2, 25] [(0, [], .slice g_l_.a l_.length g_l_.c), (1, [], .int .i64 at_), (2, [], .string ⟨⟨word⟩⟩), (25, [], .bool x12)] [] H7 (by decide) (by subst hx11 hx12; kernel_rfl) trivial fun _ wd13 H14 hb => ?_
  clear H7
  replace hS := hS.below hb
  clear hb
  cases x12
  case false =>
   replace hm := bF rfl hm
   have hd := hS.hand [] [0, 1] rfl rfl
   refine m_stpG 25 [26, 0, 1, 2, 25] [(0, [], .slice g_l_.a l_.length g_l_.c), (1, [], .int .i64 at_), (2, [], .string ⟨⟨word⟩⟩), (25, [], .bool false)] H14 rfl rfl rfl rfl (o_lit (T := tS) (E := 9) (zv := .string ⟨⟨[]⟩⟩) [.string ⟨⟨[105, 110, 105, 116, 105, 97, 108]⟩⟩, .string ⟨⟨[105, 110, 104, 101, 114, 105, 116]⟩⟩, .string ⟨⟨[117, 110, 115, 101, 116]⟩⟩, .string ⟨⟨[114, 101, 118, 101, 114, 116]⟩⟩] ([[105, 110, 105, 116, 105, 97, 108], [105, 110, 104, 101, 114, 105, 116], [117, 110, 115, 101, 116], [114, 101, 118, 101, 114, 116]] : List Str) [gL [], gL [], gL [], gL []] _ H14 hd rfl (by kernel_rfl) (by kernel_rfl) (by kernel_rfl) (by kernel_rfl) (by kernel_rfl) (by kernel_rfl) (by kernel_rfl) rfl (InnL.cons trivial (InnL.cons trivial (InnL.cons trivial (InnL.cons trivial InnL.nil))))) (fun _ => rfl) fun _ wd23 v H24 hq => ?_
   clear H14 hd
   obtain ⟨g21, rfl, hq⟩ := hq
   replace hS : SH M X w [Ent.own 9 tS ([[105, 110, 105, 116, 105, 97, 108], [105, 110, 104, 101, 114, 105, 116], [117, 110, 115, 101, 116], [114, 101, 118, 101, 114, 116]] : List Str) g21, Ent.im tyDeclared l_ g_l_, gE0] _ := hS.join [] [0, 1] rfl rfl hq
   clear hq
   obtain ⟨y25, hy25, hm⟩ := bindE hm
   refine wl_batch 10 14 [(.bool y25)] [0, 1, 2, 30] [(0, [], .slice g_l_.a l_.length g_l_.c), (1, [], .int .i64 at_), (2, [], .string ⟨⟨word⟩⟩), (30, [], .bool (!y25))] [fun wz => (false = false ∧ True → RetB Tryd.prog 16 ⟨[.slice g21.a 4 g21.c, .string ⟨⟨word⟩⟩]⟩ (.bool y25) wz)] H24 (by decide) (by kernel_rfl) ⟨fun hg => slices_Contains_string_string_ok (g_s := g21) m _ _ _ hy25 _ (s0im s0nil (hS.osl 0 rfl)), trivial⟩ fun _ wd26 H27 hb => ?_
   clear H24
   replace hS := hS.below hb
   clear hb
   refine wl_end rfl ?_
   replace hS : SH M X w [Ent.im tyDeclared l_ g_l_, gE0] _ := hS.sel [1, 2] rfl
   obtain rfl := someE hm
   exact ⟨FrG.keep (ks := [0, 1, 2, 30]) H27 (by kernel_rfl), hS⟩
  replace hm := bT rfl hm
  refine m_skipG 25 [26, 0, 1, 2, 25] [(26, [], undef), (0, [], .slice g_l_.a l_.length g_l_.c), (1, [], .int .i64 at_), (2, [], .string ⟨⟨word⟩⟩), (25, [], .bool true)] H14 rfl rfl rfl rfl rfl rfl fun _ H15 => ?_
  clear H14
  refine m_skipG 25 [27, 0, 1, 2, 25, 26] [(27, [], undef), (0, [], .slice g_l_.a l_.length g_l_.c), (1, [], .int .i64 at_), (2, [], .string ⟨⟨word⟩⟩), (25, [], .bool true), (26, [], undef)] H15 rfl rfl rfl rfl rfl rfl fun _ H16 => ?_
  clear H15
  refine m_skipG 25 [28, 0, 1, 2, 25] [(28, [], undef), (0, [], .slice g_l_.a l_.length g_l_.c), (1, [], .int .i64 at_), (2, [], .string ⟨⟨word⟩⟩), (25, [], .bool true)] H16 rfl rfl rfl rfl rfl rfl fun _ H17 => ?_
  clear H16
  refine m_skipG 25 [29, 0, 1, 2, 25] [(29, [], undef), (0, [], .slice g_l_.a l_.length g_l_.c), (1, [], .int .i64 at_), (2, [], .string ⟨⟨word⟩⟩), (25, [], .bool true)] H17 rfl rfl rfl rfl rfl rfl fun _ H18 => ?_
  clear H17
  refine wl_batch 13 14 [] [0, 1, 2, 30] [(0, [], .slice g_l_.a l_.length g_l_.c), (1, [], .int .i64 at_), (2, [], .string ⟨⟨word⟩⟩), (30, [], .bool true)] [] H18 (by decide) (by kernel_rfl) trivial fun _ wd19 H20 hb => ?_
  clear H18
  replace hS := hS.below hb
  clear hb
  refine wl_end rfl ?_
  obtain rfl := someE hm
  exact ⟨FrG.keep (ks := [0, 1, 2, 30]) H20 (by kernel_rfl), hS⟩
 ·rintro _ wd36 ⟨H, hS⟩
  refine w_if H rfl (fun hc => ?c35) (fun hc => ?_)
  case c35 =>
   replace hm := bT hc hm
   refine s_reg [] [6, 7, 8] [(6, [], .int .i64 0), (7, [], .string ⟨⟨[]⟩⟩), (8, [], .int .i64 2)] [] H (by kernel_rfl) trivial fun _ wd28 H29 hb => ?_
   clear H
   replace hS := hS.below hb
   clear hb
   replace hS : SH M X w [gE0] _ := hS.sel [1] rfl
   refine w_ret ?_
   obtain rfl := someE hm
   exact retR3 H29 rfl rfl rfl rfl ⟨_, rfl, rfl, (hS.sel [] rfl)⟩
  replace hm := bF hc hm
  refine w_skip ?_
  obtain ⟨y30, hy30, hm⟩ := bindE hm
  refine s_reg [(.tuple ⟨[.int .i64 y30.1, .string ⟨⟨y30.2⟩⟩]⟩)] [10, 11] [(10, [], .int .i64 y30.1), (11, [], .string ⟨⟨y30.2⟩⟩)] [fun wz => RetB Tryd.prog 17 ⟨[.slice g_l_.a l_.length g_l_.c, .int .i64 at_, .string ⟨⟨word⟩⟩]⟩ (.tuple ⟨[.int .i64 y30.1, .string ⟨⟨y30.2⟩⟩]⟩) wz] H (by kernel_rfl) ⟨(wide_mean_3_ok (g_l_ := g_l_) m _ _ _ _ hy30 _ (s0im (s0im s0nil (hS.im 1 rfl)) (hS.im 0 rfl))), trivial⟩ fun _ wd31 H32 hb => ?_
  clear H
  replace hS := hS.below hb
  clear hb
  replace hS : SH M X w [gE0] _ := hS.sel [1] rfl
  refine s_reg [] [6, 7, 8] [(6, [], .int .i64 y30.1), (7, [], .string ⟨⟨y30.2⟩⟩), (8, [], .int .i64 0)] [] H32 (by kernel_rfl) trivial fun _ wd33 H34 hb => ?_
  clear H32
  replace hS := hS.below hb
  clear hb
  refine w_ret ?_
  obtain rfl := someE hm
  exact retR3 H34 rfl rfl rfl rfl ⟨_, rfl, rfl, (hS.sel [] rfl)⟩
end Go.Proofs.YtehlikdeobajcaaDoor
