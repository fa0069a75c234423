/-
  What the Go functions compute, as Lean functions, and that a call returns just that. Printed by a program.
-/
import Derived.Test.YtipafpkdkhnjmaaDoorRows
import Derived.Test.YtipafpkdkhnjmaaDoorA
import Derived.Test.YtipafpkdkhnjmaaDoorIA
import Derived.Test.YtipafpkdkhnjmaaDoorM
import Derived.Test.YtipafpkdkhnjmaaDoorW40Fa
set_option linter.unusedVariables false
set_option maxRecDepth 20000
set_option maxHeartbeats 4000000
namespace Go.Proofs.YtipafpkdkhnjmaaDoor
open Go.V Go.RowKit

theorem r40_Same_w {g_a__0 : Gh} {g_a__1 : Gh} {g_b__0 : Gh} {g_b__1 : Gh} (M : Av) (m : Nat) (a_ : TAnswer) (b_ : TAnswer) (r : Bool) (hm : r40_Same m a_ b_ = some r) (w : World) (hS : S0 M [Ent.im tS a_.Texts g_a__0, Ent.im (tI .i64) a_.Numbers g_a__1, Ent.im tS b_.Texts g_b__0, Ent.im (tI .i64) b_.Numbers g_b__1] w) : Calls Tryd.prog 15 ⟨[.agg ⟨[.int .i64 a_.Err, .int .i64 a_.Num, .slice g_a__0.a a_.Texts.length g_a__0.c, .slice g_a__1.a a_.Numbers.length g_a__1.c]⟩, .agg ⟨[.int .i64 b_.Err, .int .i64 b_.Num, .slice g_b__0.a b_.Texts.length g_b__0.c, .slice g_b__1.a b_.Numbers.length g_b__1.c]⟩]⟩ w (fun e w' => ∃ v, e = .returned v ∧ v = .bool r ∧ SH M (fpl [Ent.im tS a_.Texts g_a__0, Ent.im (tI .i64) a_.Numbers g_a__1, Ent.im tS b_.Texts g_b__0, Ent.im (tI .i64) b_.Numbers g_b__1]) w [] w') := by
 rw [r40_Same] at hm
 have hS0 : SH M (fpl [Ent.im tS a_.Texts g_a__0, Ent.im (tI .i64) a_.Numbers g_a__1, Ent.im tS b_.Texts g_b__0, Ent.im (tI .i64) b_.Numbers g_b__1]) w [Ent.im tS a_.Texts g_a__0, Ent.im (tI .i64) a_.Numbers g_a__1, Ent.im tS b_.Texts g_b__0, Ent.im (tI .i64) b_.Numbers g_b__1] w := hS
 generalize hX : fpl [Ent.im tS a_.Texts g_a__0, Ent.im (tI .i64) a_.Numbers g_a__1, Ent.im tS b_.Texts g_b__0, Ent.im (tI .i64) b_.Numbers g_b__1] = X at hS0 ⊢
 clear hS hX
 have hS := hS0
 clear hS0
 refine calls_entryP Tryd.func15 rfl Tryd.ntmps15 rfl fun _ H => ?_
 refine w_seq ?_
 refine wl_start ?_
 have hd := hS.hand [] [0, 1, 2, 3] rfl rfl
 refine m_stp [2, 1] [(1, [], .agg ⟨[.int .i64 b_.Err, .int .i64 b_.Num, .slice g_b__0.a b_.Texts.length g_b__0.c, .slice g_b__1.a b_.Numbers.length g_b__1.c]⟩)] H rfl rfl rfl rfl (o_box [.int .i64 a_.Err, .int .i64 a_.Num, .slice g_a__0.a a_.Texts.length g_a__0.c, .slice g_a__1.a a_.Numbers.length g_a__1.c] H hd rfl rfl) (fun _ => rfl) fun _ wd2 v H3 hq => ?_
 clear H hd
 obtain ⟨b1, rfl, hq⟩ := hq
 replace hS : SH M X w [Ent.blk b1 [.int .i64 a_.Err, .int .i64 a_.Num, .slice g_a__0.a a_.Texts.length g_a__0.c, .slice g_a__1.a a_.Numbers.length g_a__1.c], Ent.im tS a_.Texts g_a__0, Ent.im (tI .i64) a_.Numbers g_a__1, Ent.im tS b_.Texts g_b__0, Ent.im (tI .i64) b_.Numbers g_b__1] _ := hS.join [] [0, 1, 2, 3] rfl rfl hq
 clear hq
 have hd := hS.hand [] [0, 1, 2, 3, 4] rfl rfl
 refine m_stp [3, 2] [(2, [], .pointer (some ⟨b1, 0, none⟩))] H3 rfl rfl rfl rfl (o_box [.int .i64 b_.Err, .int .i64 b_.Num, .slice g_b__0.a b_.Texts.length g_b__0.c, .slice g_b__1.a b_.Numbers.length g_b__1.c] H3 hd rfl rfl) (fun _ => rfl) fun _ wd5 v H6 hq => ?_
 clear H3 hd
 obtain ⟨b4, rfl, hq⟩ := hq
 replace hS : SH M X w [Ent.blk b4 [.int .i64 b_.Err, .int .i64 b_.Num, .slice g_b__0.a b_.Texts.length g_b__0.c, .slice g_b__1.a b_.Numbers.length g_b__1.c], Ent.blk b1 [.int .i64 a_.Err, .int .i64 a_.Num, .slice g_a__0.a a_.Texts.length g_a__0.c, .slice g_a__1.a a_.Numbers.length g_a__1.c], Ent.im tS a_.Texts g_a__0, Ent.im (tI .i64) a_.Numbers g_a__1, Ent.im tS b_.Texts g_b__0, Ent.im (tI .i64) b_.Numbers g_b__1] _ := hS.join [] [0, 1, 2, 3, 4] rfl rfl hq
 clear hq
 refine wl_batch 2 3 [] [2, 3] [(2, [], .pointer (some ⟨b1, 0, none⟩)), (3, [], .pointer (some ⟨b4, 0, none⟩))] [] H6 (by decide) (by kernel_rfl) trivial fun _ wd7 H8 hb => ?_
 clear H6
 replace hS := hS.below hb
 clear hb
 refine wl_end rfl ?_
 refine w_seq ?_
 obtain ⟨x9, hx9, hm⟩ := letE hm
 obtain ⟨x10, hx10, hm⟩ := letE hm
 obtain ⟨x11, hx11, hm⟩ := letE hm
 refine s_reg [(.int .i64 a_.Err), (.int .i64 b_.Err), (.int .i64 a_.Num), (.int .i64 b_.Num), (.slice g_a__0.a a_.Texts.length g_a__0.c), (.slice g_b__0.a b_.Texts.length g_b__0.c), (.slice g_a__1.a a_.Numbers.length g_a__1.c), (.slice g_b__1.a b_.Numbers.length g_b__1.c)] [2, 3, 36] [(2, [], .pointer (some ⟨b1, 0, none⟩)), (3, [], .pointer (some ⟨b4, 0, none⟩)), (36, [], .bool x11)] [fun wz => V.at1 ⟨b1, 0, none⟩ (.int .i64 a_.Err) wz, fun wz => V.at1 ⟨b4, 0, none⟩ (.int .i64 b_.Err) wz, fun wz => ((a_.Err != b_.Err) = false ∧ True → V.at1 ⟨b1, 1, none⟩ (.int .i64 a_.Num) wz), fun wz => ((a_.Err != b_.Err) = false ∧ True → V.at1 ⟨b4, 1, none⟩ (.int .i64 b_.Num) wz), fun wz => (x9 = false ∧ True → V.at1 ⟨b1, 2, none⟩ (.slice g_a__0.a a_.Texts.length g_a__0.c) wz), fun wz => (x9 = false ∧ True → V.at1 ⟨b4, 2, none⟩ (.slice g_b__0.a b_.Texts.length g_b__0.c) wz), fun wz => (x10 = false ∧ True → V.at1 ⟨b1, 3, none⟩ (.slice g_a__1.a a_.Numbers.length g_a__1.c) wz), fun wz => (x10 = false ∧ True → V.at1 ⟨b4, 3, none⟩ (.slice g_b__1.a b_.Numbers.length g_b__1.c) wz)] H8 (by subst hx9 hx10 hx11; kernel_rfl) ⟨((hS.bk 1 rfl).at1 rfl), ((hS.bk 0 rfl).at1 rfl), fun hg => (hS.bk 1 rfl).at1 rfl, fun hg => (hS.bk 0 rfl).at1 rfl, fun hg => (hS.bk 1 rfl).at1 rfl, fun hg => (hS.bk 0 rfl).at1 rfl, fun hg => (hS.bk 1 rfl).at1 rfl, fun hg => (hS.bk 0 rfl).at1 rfl, trivial⟩ fun _ wd12 H13 hb => ?_
 clear H8
 replace hS := hS.below hb
 clear hb
 refine w_if H13 rfl (fun hc => ?c56) (fun hc => ?_)
 case c56 =>
  replace hm := bT hc hm
  refine s_reg [] [4] [(4, [], .bool false)] [] H13 (by kernel_rfl) trivial fun _ wd14 H15 hb => ?_
  clear H13
  replace hS := hS.below hb
  clear hb
  replace hS : SH M X w [] _ := hS.sel [] rfl
  refine w_ret ?_
  obtain rfl := someE hm
  exact retR1 H15 rfl rfl ⟨_, rfl, rfl, (hS.sel [] rfl)⟩
 replace hm := bF hc hm
 refine w_skip ?_
 obtain ⟨z16, hz, hm_z16⟩ := bindE hm
 refine w_cut (fun a' w' => ∃ s_z16 : Unit, z16 = Sum.inr s_z16 ∧ Fr 73 [(2, [], .pointer (some ⟨b1, 0, none⟩)), (3, [], .pointer (some ⟨b4, 0, none⟩))] a' ∧ SH M X w [Ent.blk b4 [.int .i64 b_.Err, .int .i64 b_.Num, .slice g_b__0.a b_.Texts.length g_b__0.c, .slice g_b__1.a b_.Numbers.length g_b__1.c], Ent.blk b1 [.int .i64 a_.Err, .int .i64 a_.Num, .slice g_a__0.a a_.Texts.length g_a__0.c, .slice g_a__1.a a_.Numbers.length g_a__1.c], Ent.im tS a_.Texts g_a__0, Ent.im (tI .i64) a_.Numbers g_a__1, Ent.im tS b_.Texts g_b__0, Ent.im (tI .i64) b_.Numbers g_b__1] w') ?_ ?_
 ·replace hm := hz
  refine s_reg [] [2, 3, 5] [(2, [], .pointer (some ⟨b1, 0, none⟩)), (3, [], .pointer (some ⟨b4, 0, none⟩)), (5, [], .int .i64 0)] [] H13 (by kernel_rfl) trivial fun _ wd17 H18 hb => ?_
  clear H13
  replace hS := hS.below hb
  clear hb
  refine w_block ?_
  refine w_loop (fun kk a' w' => ∃ (v19 : Int), r40_Same_L1 m a_ b_ kk v19 = some _ ∧ Fr 73 [(2, [], .pointer (some ⟨b1, 0, none⟩)), (3, [], .pointer (some ⟨b4, 0, none⟩)), (5, [], .int .i64 v19)] a' ∧ SH M X w [Ent.blk b4 [.int .i64 b_.Err, .int .i64 b_.Num, .slice g_b__0.a b_.Texts.length g_b__0.c, .slice g_b__1.a b_.Numbers.length g_b__1.c], Ent.blk b1 [.int .i64 a_.Err, .int .i64 a_.Num, .slice g_a__0.a a_.Texts.length g_a__0.c, .slice g_a__1.a a_.Numbers.length g_a__1.c], Ent.im tS a_.Texts g_a__0, Ent.im (tI .i64) a_.Numbers g_a__1, Ent.im tS b_.Texts g_b__0, Ent.im (tI .i64) b_.Numbers g_b__1] w') ⟨_, 0, hm, FrG.keep (ks := [2, 3, 5]) H18 (by kernel_rfl), hS⟩ ?_
  clear hm H18 hS
  rintro kk _ wd33 ⟨v19, hm, H, hS⟩
  cases kk with
  | zero => exact noneE hm
  | succ kk =>
   rw [r40_Same_L1] at hm
   refine w_seq ?_
   refine s_reg [(.slice g_a__0.a a_.Texts.length g_a__0.c)] [2, 3, 5, 41] [(2, [], .pointer (some ⟨b1, 0, none⟩)), (3, [], .pointer (some ⟨b4, 0, none⟩)), (5, [], .int .i64 v19), (41, [], .bool (decide (v19 < (ln a_.Texts))))] [fun wz => V.at1 ⟨b1, 2, none⟩ (.slice g_a__0.a a_.Texts.length g_a__0.c) wz] H (by kernel_rfl) ⟨((hS.bk 1 rfl).at1 rfl), trivial⟩ fun _ wd20 H21 hb => ?_
   clear H
   replace hS := hS.below hb
   clear hb
   refine w_if H21 rfl (fun hc => ?_) (fun hc => ?c32)
   case c32 =>
    replace hm := bF hc hm
    refine w_exit rfl ?_
    obtain rfl := someE hm
    exact ⟨_, rfl, FrG.keep (ks := [2, 3]) H21 (by kernel_rfl), hS⟩
   replace hm := bT hc hm
   refine w_skip ?_
   refine w_seq ?_
   refine w_block ?_
   obtain ⟨ho22, hm⟩ := chkE hm
   obtain ⟨ho23, hm⟩ := chkE hm
   obtain ⟨x24, hx24, hm⟩ := letE hm
   refine s_draw [(.slice g_a__0.a a_.Texts.length g_a__0.c), (.string ⟨⟨(gi a_.Texts v19)⟩⟩), (.slice g_b__0.a b_.Texts.length g_b__0.c), (.string ⟨⟨(gi b_.Texts v19)⟩⟩)] [2, 3, 5, 54] [(2, [], .pointer (some ⟨b1, 0, none⟩)), (3, [], .pointer (some ⟨b4, 0, none⟩)), (5, [], .int .i64 v19), (54, [], .bool x24)] [fun wz => V.at1 ⟨b1, 2, none⟩ (.slice g_a__0.a a_.Texts.length g_a__0.c) wz, fun _ => oka g_a__0.a ∧ 0 ≤ v19 ∧ v19 < ln a_.Texts, fun wz => V.at1 ⟨ab g_a__0.a, ao g_a__0.a + (v19).toNat * 1, none⟩ (.string ⟨⟨(gi a_.Texts v19)⟩⟩) wz, fun wz => V.at1 ⟨b4, 2, none⟩ (.slice g_b__0.a b_.Texts.length g_b__0.c) wz, fun _ => oka g_b__0.a ∧ 0 ≤ v19 ∧ v19 < ln b_.Texts, fun wz => V.at1 ⟨ab g_b__0.a, ao g_b__0.a + (v19).toNat * 1, none⟩ (.string ⟨⟨(gi b_.Texts v19)⟩⟩) wz] H21 (by kernel_rfl) (by kernel_rfl) (by subst hx24; kernel_rfl) ⟨((hS.bk 1 rfl).at1 rfl), ((hS.im 2 rfl).oki ho22), ((hS.im 2 rfl).at1 ho22 0 rfl), ((hS.bk 0 rfl).at1 rfl), ((hS.im 4 rfl).oki ho23), ((hS.im 4 rfl).at1 ho23 0 rfl), trivial⟩ fun _ wd25 H26 hb => ?_
   clear H21
   replace hS := hS.below hb
   clear hb
   refine w_if H26 rfl (fun hc => ?_) (fun hc => ?c31)
   case c31 =>
    replace hm := bF hc hm
    refine w_skip ?_
    refine w_reg [] [2, 3, 5] [(2, [], .pointer (some ⟨b1, 0, none⟩)), (3, [], .pointer (some ⟨b4, 0, none⟩)), (5, [], .int .i64 (w64 (v19 + 1)))] [] H26 (by kernel_rfl) trivial fun _ wd29 H30 hb => ?_
    clear H26
    replace hS := hS.below hb
    clear hb
    exact ⟨_, Nat.lt_succ_self _, w64 (v19 + 1), hm, FrG.keep (ks := [2, 3, 5]) H30 (by kernel_rfl), hS⟩
   replace hm := bT hc hm
   refine s_reg [] [4] [(4, [], .bool false)] [] H26 (by kernel_rfl) trivial fun _ wd27 H28 hb => ?_
   clear H26
   replace hS := hS.below hb
   clear hb
   refine w_ret ?_
   obtain rfl := someE hm
   have hm := hm_z16
   obtain rfl := someE hm
   exact retR1 H28 rfl rfl ⟨_, rfl, rfl, (hS.sel [] rfl)⟩
 ·rintro _ wd55 ⟨s_z16, hz, H, hS⟩
  subst hz
  replace hm := sumR hm_z16
  obtain ⟨z34, hz, hm_z34⟩ := bindE hm
  refine w_cut (fun a' w' => ∃ s_z34 : Unit, z34 = Sum.inr s_z34 ∧ Fr 73 [] a' ∧ SH M X w [Ent.blk b4 [.int .i64 b_.Err, .int .i64 b_.Num, .slice g_b__0.a b_.Texts.length g_b__0.c, .slice g_b__1.a b_.Numbers.length g_b__1.c], Ent.blk b1 [.int .i64 a_.Err, .int .i64 a_.Num, .slice g_a__0.a a_.Texts.length g_a__0.c, .slice g_a__1.a a_.Numbers.length g_a__1.c], Ent.im tS a_.Texts g_a__0, Ent.im (tI .i64) a_.Numbers g_a__1, Ent.im tS b_.Texts g_b__0, Ent.im (tI .i64) b_.Numbers g_b__1] w') ?_ ?_
  ·replace hm := hz
   refine s_reg [] [2, 3, 6] [(2, [], .pointer (some ⟨b1, 0, none⟩)), (3, [], .pointer (some ⟨b4, 0, none⟩)), (6, [], .int .i64 0)] [] H (by kernel_rfl) trivial fun _ wd35 H36 hb => ?_
   clear H
   replace hS := hS.below hb
   clear hb
   refine w_block ?_
   refine w_loop (fun kk a' w' => ∃ (v37 : Int), r40_Same_L2 m a_ b_ kk v37 = some _ ∧ Fr 73 [(2, [], .pointer (some ⟨b1, 0, none⟩)), (3, [], .pointer (some ⟨b4, 0, none⟩)), (6, [], .int .i64 v37)] a' ∧ SH M X w [Ent.blk b4 [.int .i64 b_.Err, .int .i64 b_.Num, .slice g_b__0.a b_.Texts.length g_b__0.c, .slice g_b__1.a b_.Numbers.length g_b__1.c], Ent.blk b1 [.int .i64 a_.Err, .int .i64 a_.Num, .slice g_a__0.a a_.Texts.length g_a__0.c, .slice g_a__1.a a_.Numbers.length g_a__1.c], Ent.im tS a_.Texts g_a__0, Ent.im (tI .i64) a_.Numbers g_a__1, Ent.im tS b_.Texts g_b__0, Ent.im (tI .i64) b_.Numbers g_b__1] w') ⟨_, 0, hm, FrG.keep (ks := [2, 3, 6]) H36 (by kernel_rfl), hS⟩ ?_
   clear hm H36 hS
   rintro kk _ wd51 ⟨v37, hm, H, hS⟩
   cases kk with
   | zero => exact noneE hm
   | succ kk =>
    rw [r40_Same_L2] at hm
    refine w_seq ?_
    refine s_reg [(.slice g_a__1.a a_.Numbers.length g_a__1.c)] [2, 3, 6, 59] [(2, [], .pointer (some ⟨b1, 0, none⟩)), (3, [], .pointer (some ⟨b4, 0, none⟩)), (6, [], .int .i64 v37), (59, [], .bool (decide (v37 < (ln a_.Numbers))))] [fun wz => V.at1 ⟨b1, 3, none⟩ (.slice g_a__1.a a_.Numbers.length g_a__1.c) wz] H (by kernel_rfl) ⟨((hS.bk 1 rfl).at1 rfl), trivial⟩ fun _ wd38 H39 hb => ?_
    clear H
    replace hS := hS.below hb
    clear hb
    refine w_if H39 rfl (fun hc => ?_) (fun hc => ?c50)
    case c50 =>
     replace hm := bF hc hm
     refine w_exit rfl ?_
     obtain rfl := someE hm
     exact ⟨_, rfl, FrG.keep (ks := []) H39 (by kernel_rfl), hS⟩
    replace hm := bT hc hm
    refine w_skip ?_
    refine w_seq ?_
    refine w_block ?_
    obtain ⟨ho40, hm⟩ := chkE hm
    obtain ⟨ho41, hm⟩ := chkE hm
    obtain ⟨x42, hx42, hm⟩ := letE hm
    refine s_draw [(.slice g_a__1.a a_.Numbers.length g_a__1.c), (.int .i64 (gi a_.Numbers v37)), (.slice g_b__1.a b_.Numbers.length g_b__1.c), (.int .i64 (gi b_.Numbers v37))] [2, 3, 6, 72] [(2, [], .pointer (some ⟨b1, 0, none⟩)), (3, [], .pointer (some ⟨b4, 0, none⟩)), (6, [], .int .i64 v37), (72, [], .bool x42)] [fun wz => V.at1 ⟨b1, 3, none⟩ (.slice g_a__1.a a_.Numbers.length g_a__1.c) wz, fun _ => oka g_a__1.a ∧ 0 ≤ v37 ∧ v37 < ln a_.Numbers, fun wz => V.at1 ⟨ab g_a__1.a, ao g_a__1.a + (v37).toNat * 1, none⟩ (.int .i64 (gi a_.Numbers v37)) wz, fun wz => V.at1 ⟨b4, 3, none⟩ (.slice g_b__1.a b_.Numbers.length g_b__1.c) wz, fun _ => oka g_b__1.a ∧ 0 ≤ v37 ∧ v37 < ln b_.Numbers, fun wz => V.at1 ⟨ab g_b__1.a, ao g_b__1.a + (v37).toNat * 1, none⟩ (.int .i64 (gi b_.Numbers v37)) wz] H39 (by kernel_rfl) (by kernel_rfl) (by subst hx42; kernel_rfl) ⟨((hS.bk 1 rfl).at1 rfl), ((hS.im 3 rfl).oki ho40), ((hS.im 3 rfl).at1 ho40 0 rfl), ((hS.bk 0 rfl).at1 rfl), ((hS.im 5 rfl).oki ho41), ((hS.im 5 rfl).at1 ho41 0 rfl), trivial⟩ fun _ wd43 H44 hb => ?_
    clear H39
    replace hS := hS.below hb
    clear hb
    refine w_if H44 rfl (fun hc => ?_) (fun hc => ?c49)
    case c49 =>
     replace hm := bF hc hm
     refine w_skip ?_
     refine w_reg [] [2, 3, 6] [(2, [], .pointer (some ⟨b1, 0, none⟩)), (3, [], .pointer (some ⟨b4, 0, none⟩)), (6, [], .int .i64 (w64 (v37 + 1)))] [] H44 (by kernel_rfl) trivial fun _ wd47 H48 hb => ?_
     clear H44
     replace hS := hS.below hb
     clear hb
     exact ⟨_, Nat.lt_succ_self _, w64 (v37 + 1), hm, FrG.keep (ks := [2, 3, 6]) H48 (by kernel_rfl), hS⟩
    replace hm := bT hc hm
    refine s_reg [] [4] [(4, [], .bool false)] [] H44 (by kernel_rfl) trivial fun _ wd45 H46 hb => ?_
    clear H44
    replace hS := hS.below hb
    clear hb
    refine w_ret ?_
    obtain rfl := someE hm
    have hm := hm_z34
    obtain rfl := someE hm
    exact retR1 H46 rfl rfl ⟨_, rfl, rfl, (hS.sel [] rfl)⟩
  ·rintro _ wd54 ⟨s_z34, hz, H, hS⟩
   subst hz
   replace hm := sumR hm_z34
   replace hS : SH M X w [] _ := hS.sel [] rfl
   refine s_reg [] [4] [(4, [], .bool true)] [] H (by kernel_rfl) trivial fun _ wd52 H53 hb => ?_
   clear H
   replace hS := hS.below hb
   clear hb
   refine w_ret ?_
   obtain rfl := someE hm
   exact retR1 H53 rfl rfl ⟨_, rfl, rfl, (hS.sel [] rfl)⟩
theorem r40_Same_ok {g_a__0 : Gh} {g_a__1 : Gh} {g_b__0 : Gh} {g_b__1 : Gh} (m : Nat) (a_ : TAnswer) (b_ : TAnswer) (r : Bool) (hm : r40_Same m a_ b_ = some r) (w : World) (hL : S0 F0 [Ent.im tS a_.Texts g_a__0, Ent.im (tI .i64) a_.Numbers g_a__1, Ent.im tS b_.Texts g_b__0, Ent.im (tI .i64) b_.Numbers g_b__1] w ∧ fpl [Ent.im tS a_.Texts g_a__0, Ent.im (tI .i64) a_.Numbers g_a__1, Ent.im tS b_.Texts g_b__0, Ent.im (tI .i64) b_.Numbers g_b__1] = []) : RetB Tryd.prog 15 ⟨[.agg ⟨[.int .i64 a_.Err, .int .i64 a_.Num, .slice g_a__0.a a_.Texts.length g_a__0.c, .slice g_a__1.a a_.Numbers.length g_a__1.c]⟩, .agg ⟨[.int .i64 b_.Err, .int .i64 b_.Num, .slice g_b__0.a b_.Texts.length g_b__0.c, .slice g_b__1.a b_.Numbers.length g_b__1.c]⟩]⟩ (.bool r) w := retB_of hL (Tryd.call15 _) (fun w' h => r40_Same_w F0 m   a_ b_ r hm w' h)

theorem law40_is_w {g_a__0 : Gh} {g_a__1 : Gh} (M : Av) (m : Nat) (a_ : TAnswer) (want : Str) (r : Bool) (hm : law40_is m a_ want = some r) (w : World) (hS : S0 M [Ent.im tS a_.Texts g_a__0, Ent.im (tI .i64) a_.Numbers g_a__1, Ent.tab 1 (Lib.pow10Tab.map fun z => Value.int .u64 z), Ent.gifc 2, Ent.gifc 3] w) : Calls Tryd.prog 24 ⟨[.agg ⟨[.int .i64 a_.Err, .int .i64 a_.Num, .slice g_a__0.a a_.Texts.length g_a__0.c, .slice g_a__1.a a_.Numbers.length g_a__1.c]⟩, .string ⟨⟨want⟩⟩]⟩ w (fun e w' => ∃ v, e = .returned v ∧ v = .bool r ∧ SH M (fpl [Ent.im tS a_.Texts g_a__0, Ent.im (tI .i64) a_.Numbers g_a__1, Ent.tab 1 (Lib.pow10Tab.map fun z => Value.int .u64 z), Ent.gifc 2, Ent.gifc 3]) w [] w') := by
 rw [law40_is] at hm
 have hS0 : SH M (fpl [Ent.im tS a_.Texts g_a__0, Ent.im (tI .i64) a_.Numbers g_a__1, Ent.tab 1 (Lib.pow10Tab.map fun z => Value.int .u64 z), Ent.gifc 2, Ent.gifc 3]) w [Ent.im tS a_.Texts g_a__0, Ent.im (tI .i64) a_.Numbers g_a__1, Ent.tab 1 (Lib.pow10Tab.map fun z => Value.int .u64 z), Ent.gifc 2, Ent.gifc 3] w := hS
 generalize hX : fpl [Ent.im tS a_.Texts g_a__0, Ent.im (tI .i64) a_.Numbers g_a__1, Ent.tab 1 (Lib.pow10Tab.map fun z => Value.int .u64 z), Ent.gifc 2, Ent.gifc 3] = X at hS0 ⊢
 clear hS hX
 have hS := hS0
 clear hS0
 refine calls_entryP Tryd.func24 rfl Tryd.ntmps24 rfl fun _ H => ?_
 refine w_seq ?_
 refine wl_start ?_
 have hd := hS.hand [] [0, 1, 2, 3, 4] rfl rfl
 refine m_stp [2, 1] [(1, [], .string ⟨⟨want⟩⟩)] H rfl rfl rfl rfl (o_box [.int .i64 a_.Err, .int .i64 a_.Num, .slice g_a__0.a a_.Texts.length g_a__0.c, .slice g_a__1.a a_.Numbers.length g_a__1.c] H hd rfl rfl) (fun _ => rfl) fun _ wd2 v H3 hq => ?_
 clear H hd
 obtain ⟨b1, rfl, hq⟩ := hq
 replace hS : SH M X w [Ent.blk b1 [.int .i64 a_.Err, .int .i64 a_.Num, .slice g_a__0.a a_.Texts.length g_a__0.c, .slice g_a__1.a a_.Numbers.length g_a__1.c], Ent.im tS a_.Texts g_a__0, Ent.im (tI .i64) a_.Numbers g_a__1, Ent.tab 1 (Lib.pow10Tab.map fun z => Value.int .u64 z), Ent.gifc 2, Ent.gifc 3] _ := hS.join [] [0, 1, 2, 3, 4] rfl rfl hq
 clear hq
 refine wl_batch 1 2 [] [1, 2] [(1, [], .string ⟨⟨want⟩⟩), (2, [], .pointer (some ⟨b1, 0, none⟩))] [] H3 (by decide) (by kernel_rfl) trivial fun _ wd4 H5 hb => ?_
 clear H3
 replace hS := hS.below hb
 clear hb
 refine wl_end rfl ?_
 obtain ⟨y6, hy6, hm⟩ := bindE hm
 refine s_reg [(.agg ⟨[.int .i64 a_.Err, .int .i64 a_.Num, .slice g_a__0.a a_.Texts.length g_a__0.c, .slice g_a__1.a a_.Numbers.length g_a__1.c]⟩), (.tuple ⟨[.string ⟨⟨y6.1⟩⟩, .int .i64 y6.2]⟩)] [1, 2, 5, 6] [(1, [], .string ⟨⟨want⟩⟩), (2, [], .pointer (some ⟨b1, 0, none⟩)), (5, [], .string ⟨⟨y6.1⟩⟩), (6, [], .int .i64 y6.2)] [fun wz => V.atN b1 0 [.int .i64 a_.Err, .int .i64 a_.Num, .slice g_a__0.a a_.Texts.length g_a__0.c, .slice g_a__1.a a_.Numbers.length g_a__1.c] 0 wz, fun wz => RetB Tryd.prog 9 ⟨[.agg ⟨[.int .i64 a_.Err, .int .i64 a_.Num, .slice g_a__0.a a_.Texts.length g_a__0.c, .slice g_a__1.a a_.Numbers.length g_a__1.c]⟩]⟩ (.tuple ⟨[.string ⟨⟨y6.1⟩⟩, .int .i64 y6.2]⟩) wz] H5 (by kernel_rfl) ⟨((hS.bk 0 rfl).atD rfl), (answer_Line_ok (g_a__0 := g_a__0) (g_a__1 := g_a__1) m _ _ hy6 _ (s0im (s0im (s0tab s0nil (hS.at 3 rfl)) (hS.im 2 rfl)) (hS.im 1 rfl))), trivial⟩ fun _ wd7 H8 hb => ?_
 clear H5
 replace hS := hS.below hb
 clear hb
 refine w_seq ?_
 refine wl_start ?_
 refine wl_batch 0 1 [] [1, 2, 5, 6, 15] [(1, [], .string ⟨⟨want⟩⟩), (2, [], .pointer (some ⟨b1, 0, none⟩)), (5, [], .string ⟨⟨y6.1⟩⟩), (6, [], .int .i64 y6.2), (15, [], .string ⟨⟨want⟩⟩)] [] H8 (by decide) (by kernel_rfl) trivial fun _ wd9 H10 hb => ?_
 clear H8
 replace hS := hS.below hb
 clear hb
 obtain ⟨y11, hy11, hm⟩ := bindE hm
 have hd := hS.hand [4, 5, 3] [0, 1, 2, 3, 4, 5] rfl rfl
 refine m_stp [16, 1, 2, 5, 6] [(1, [], .string ⟨⟨want⟩⟩), (2, [], .pointer (some ⟨b1, 0, none⟩)), (5, [], .string ⟨⟨y6.1⟩⟩), (6, [], .int .i64 y6.2)] H10 rfl rfl rfl rfl (o_callx H10 rfl rfl (answer_ReadLine_ok m _ _ hy11 _ _ hd)) (fun _ => rfl) fun _ wd16 v H17 hq => ?_
 clear H10 hd
 obtain ⟨g12, g14, rfl, hq⟩ := hq
 replace hS : SH M X w [Ent.im tS y11.1.Texts g12, Ent.own 3 (tI .i64) y11.1.Numbers g14, Ent.blk b1 [.int .i64 a_.Err, .int .i64 a_.Num, .slice g_a__0.a a_.Texts.length g_a__0.c, .slice g_a__1.a a_.Numbers.length g_a__1.c], Ent.im tS a_.Texts g_a__0, Ent.im (tI .i64) a_.Numbers g_a__1, Ent.tab 1 (Lib.pow10Tab.map fun z => Value.int .u64 z), Ent.gifc 2, Ent.gifc 3] _ := hS.join [4, 5, 3] [0, 1, 2, 3, 4, 5] rfl rfl hq
 clear hq
 refine wl_batch 2 5 [] [1, 2, 5, 6, 17, 18] [(1, [], .string ⟨⟨want⟩⟩), (2, [], .pointer (some ⟨b1, 0, none⟩)), (5, [], .string ⟨⟨y6.1⟩⟩), (6, [], .int .i64 y6.2), (17, [], .agg ⟨[.int .i64 y11.1.Err, .int .i64 y11.1.Num, .slice g12.a y11.1.Texts.length g12.c, .slice g14.a y11.1.Numbers.length g14.c]⟩), (18, [], .int .i64 y11.2)] [] H17 (by decide) (by kernel_rfl) trivial fun _ wd18 H19 hb => ?_
 clear H17
 replace hS := hS.below hb
 clear hb
 have hd := hS.hand [] [0, 1, 2, 3, 4, 5, 6, 7] rfl rfl
 refine m_stp [7, 1, 2, 5, 6, 17, 18] [(1, [], .string ⟨⟨want⟩⟩), (2, [], .pointer (some ⟨b1, 0, none⟩)), (5, [], .string ⟨⟨y6.1⟩⟩), (6, [], .int .i64 y6.2), (17, [], .agg ⟨[.int .i64 y11.1.Err, .int .i64 y11.1.Num, .slice g12.a y11.1.Texts.length g12.c, .slice g14.a y11.1.Numbers.length g14.c]⟩), (18, [], .int .i64 y11.2)] H19 rfl rfl rfl rfl (o_alloc [.int .i64 0, .int .i64 0, .slice none 0 0, .slice none 0 0] (z := .agg ⟨[.int .i64 0, .int .i64 0, .slice none 0 0, .slice none 0 0]⟩) hd (by kernel_rfl) rfl) (fun _ => rfl) fun _ wd21 v H22 hq => ?_
 clear H19 hd
 obtain ⟨b20, rfl, hq⟩ := hq
 replace hS : SH M X w [Ent.blk b20 [.int .i64 0, .int .i64 0, .slice none 0 0, .slice none 0 0], Ent.im tS y11.1.Texts g12, Ent.own 3 (tI .i64) y11.1.Numbers g14, Ent.blk b1 [.int .i64 a_.Err, .int .i64 a_.Num, .slice g_a__0.a a_.Texts.length g_a__0.c, .slice g_a__1.a a_.Numbers.length g_a__1.c], Ent.im tS a_.Texts g_a__0, Ent.im (tI .i64) a_.Numbers g_a__1, Ent.tab 1 (Lib.pow10Tab.map fun z => Value.int .u64 z), Ent.gifc 2, Ent.gifc 3] _ := hS.join [] [0, 1, 2, 3, 4, 5, 6, 7] rfl rfl hq
 clear hq
 have hd := hS.hand [0] [1, 2, 3, 4, 5, 6, 7, 8] rfl rfl
 refine m_stp0 [1, 2, 5, 6, 7, 18] [(1, [], .string ⟨⟨want⟩⟩), (2, [], .pointer (some ⟨b1, 0, none⟩)), (5, [], .string ⟨⟨y6.1⟩⟩), (6, [], .int .i64 y6.2), (7, [], .pointer (some ⟨b20, 0, none⟩)), (18, [], .int .i64 y11.2)] H22 rfl rfl rfl (o_store [.int .i64 y11.1.Err, .int .i64 y11.1.Num, .slice g12.a y11.1.Texts.length g12.c, .slice g14.a y11.1.Numbers.length g14.c] H22 hd rfl rfl (by kernel_rfl) rfl rfl rfl) rfl fun _ wd23 H24 hq => ?_
 clear H22 hd
 obtain ⟨_, hq⟩ := hq
 replace hS : SH M X w [Ent.blk b20 [.int .i64 y11.1.Err, .int .i64 y11.1.Num, .slice g12.a y11.1.Texts.length g12.c, .slice g14.a y11.1.Numbers.length g14.c], Ent.im tS y11.1.Texts g12, Ent.own 3 (tI .i64) y11.1.Numbers g14, Ent.blk b1 [.int .i64 a_.Err, .int .i64 a_.Num, .slice g_a__0.a a_.Texts.length g_a__0.c, .slice g_a__1.a a_.Numbers.length g_a__1.c], Ent.im tS a_.Texts g_a__0, Ent.im (tI .i64) a_.Numbers g_a__1, Ent.tab 1 (Lib.pow10Tab.map fun z => Value.int .u64 z), Ent.gifc 2, Ent.gifc 3] _ := hS.join [0] [1, 2, 3, 4, 5, 6, 7, 8] rfl rfl hq
 clear hq
 refine wl_batch 7 8 [] [1, 2, 5, 6, 7, 8] [(1, [], .string ⟨⟨want⟩⟩), (2, [], .pointer (some ⟨b1, 0, none⟩)), (5, [], .string ⟨⟨y6.1⟩⟩), (6, [], .int .i64 y6.2), (7, [], .pointer (some ⟨b20, 0, none⟩)), (8, [], .int .i64 y11.2)] [] H24 (by decide) (by kernel_rfl) trivial fun _ wd25 H26 hb => ?_
 clear H24
 replace hS := hS.below hb
 clear hb
 refine wl_end rfl ?_
 obtain ⟨x27, hx27, hm⟩ := letE hm
 obtain ⟨y28, hy28, hm⟩ := bindE hm
 refine s_reg [(.agg ⟨[.int .i64 a_.Err, .int .i64 a_.Num, .slice g_a__0.a a_.Texts.length g_a__0.c, .slice g_a__1.a a_.Numbers.length g_a__1.c]⟩), (.agg ⟨[.int .i64 y11.1.Err, .int .i64 y11.1.Num, .slice g12.a y11.1.Texts.length g12.c, .slice g14.a y11.1.Numbers.length g14.c]⟩), (.bool y28)] [4] [(4, [], .bool (cond x27 y28 false))] [fun wz => (x27 = true ∧ True → V.atN b1 0 [.int .i64 a_.Err, .int .i64 a_.Num, .slice g_a__0.a a_.Texts.length g_a__0.c, .slice g_a__1.a a_.Numbers.length g_a__1.c] 0 wz), fun wz => (x27 = true ∧ True → V.atN b20 0 [.int .i64 y11.1.Err, .int .i64 y11.1.Num, .slice g12.a y11.1.Texts.length g12.c, .slice g14.a y11.1.Numbers.length g14.c] 0 wz), fun wz => (x27 = true ∧ True → RetB Tryd.prog 15 ⟨[.agg ⟨[.int .i64 a_.Err, .int .i64 a_.Num, .slice g_a__0.a a_.Texts.length g_a__0.c, .slice g_a__1.a a_.Numbers.length g_a__1.c]⟩, .agg ⟨[.int .i64 y11.1.Err, .int .i64 y11.1.Num, .slice g12.a y11.1.Texts.length g12.c, .slice g14.a y11.1.Numbers.length g14.c]⟩]⟩ (.bool y28) wz)] H26 (by subst hx27; kernel_rfl) ⟨fun hg => (hS.bk 3 rfl).atD rfl, fun hg => (hS.bk 0 rfl).atD rfl, fun hg => r40_Same_ok (g_a__0 := g_a__0) (g_a__1 := g_a__1) (g_b__0 := g12) (g_b__1 := g14) m _ _ _ (bT (hg.1) hy28) _ (s0im (s0im (s0im (s0im s0nil (hS.osl 2 rfl)) (hS.im 1 rfl)) (hS.im 5 rfl)) (hS.im 4 rfl)), trivial⟩ fun _ wd29 H30 hb => ?_
 clear H26
 replace hS := hS.below hb
 clear hb
 replace hS : SH M X w [Ent.tab 1 (Lib.pow10Tab.map fun z => Value.int .u64 z), Ent.gifc 2, Ent.gifc 3] _ := hS.sel [6, 7, 8] rfl
 refine w_ret ?_
 obtain rfl := someE hm
 exact retR1 H30 rfl rfl ⟨_, rfl, rfl, (hS.sel [] rfl)⟩
theorem law40_is_ok {g_a__0 : Gh} {g_a__1 : Gh} (m : Nat) (a_ : TAnswer) (want : Str) (r : Bool) (hm : law40_is m a_ want = some r) (w : World) (hL : S0 F0 [Ent.im tS a_.Texts g_a__0, Ent.im (tI .i64) a_.Numbers g_a__1, Ent.tab 1 (Lib.pow10Tab.map fun z => Value.int .u64 z), Ent.gifc 2, Ent.gifc 3] w ∧ fpl [Ent.im tS a_.Texts g_a__0, Ent.im (tI .i64) a_.Numbers g_a__1, Ent.tab 1 (Lib.pow10Tab.map fun z => Value.int .u64 z), Ent.gifc 2, Ent.gifc 3] = []) : RetB Tryd.prog 24 ⟨[.agg ⟨[.int .i64 a_.Err, .int .i64 a_.Num, .slice g_a__0.a a_.Texts.length g_a__0.c, .slice g_a__1.a a_.Numbers.length g_a__1.c]⟩, .string ⟨⟨want⟩⟩]⟩ (.bool r) w := retB_of hL (Tryd.call24 _) (fun w' h => law40_is_w F0 m   a_ want r hm w' h)

theorem law40_none_w  (M : Av) (m : Nat) (s : Str) (r : Bool) (hm : law40_none m s = some r) (w : World) (hS : S0 M [Ent.gifc 2, Ent.gifc 3, Ent.tab 1 (Lib.pow10Tab.map fun z => Value.int .u64 z)] w) : Calls Tryd.prog 26 ⟨[.string ⟨⟨s⟩⟩]⟩ w (fun e w' => ∃ v, e = .returned v ∧ v = .bool r ∧ SH M (fpl [Ent.gifc 2, Ent.gifc 3, Ent.tab 1 (Lib.pow10Tab.map fun z => Value.int .u64 z)]) w [] w') := by
 rw [law40_none] at hm
 have hS0 : SH M (fpl [Ent.gifc 2, Ent.gifc 3, Ent.tab 1 (Lib.pow10Tab.map fun z => Value.int .u64 z)]) w [Ent.gifc 2, Ent.gifc 3, Ent.tab 1 (Lib.pow10Tab.map fun z => Value.int .u64 z)] w := hS
 generalize hX : fpl [Ent.gifc 2, Ent.gifc 3, Ent.tab 1 (Lib.pow10Tab.map fun z => Value.int .u64 z)] = X at hS0 ⊢
 clear hS hX
 have hS := hS0
 clear hS0
 refine calls_entryP Tryd.func26 rfl Tryd.ntmps26 rfl fun _ H => ?_
 refine s_reg [] [0] [(0, [], .string ⟨⟨s⟩⟩)] [] H (by kernel_rfl) trivial fun _ wd1 H2 hb => ?_
 clear H
 replace hS := hS.below hb
 clear hb
 refine w_seq ?_
 refine wl_start ?_
 refine wl_batch 0 1 [] [6] [(6, [], .string ⟨⟨s⟩⟩)] [] H2 (by decide) (by kernel_rfl) trivial fun _ wd3 H4 hb => ?_
 clear H2
 replace hS := hS.below hb
 clear hb
 obtain ⟨y5, hy5, hm⟩ := bindE hm
 have hd := hS.hand [0, 1, 2] [0, 1, 2] rfl rfl
 refine m_stp [7] [] H4 rfl rfl rfl rfl (o_callx H4 rfl rfl (answer_ReadLine_ok m _ _ hy5 _ _ hd)) (fun _ => rfl) fun _ wd10 v H11 hq => ?_
 clear H4 hd
 obtain ⟨g6, g8, rfl, hq⟩ := hq
 replace hS : SH M X w [Ent.im tS y5.1.Texts g6, Ent.own 3 (tI .i64) y5.1.Numbers g8, Ent.gifc 2, Ent.gifc 3, Ent.tab 1 (Lib.pow10Tab.map fun z => Value.int .u64 z)] _ := hS.join [0, 1, 2] [0, 1, 2] rfl rfl hq
 clear hq
 refine wl_batch 2 5 [] [8, 9] [(8, [], .agg ⟨[.int .i64 y5.1.Err, .int .i64 y5.1.Num, .slice g6.a y5.1.Texts.length g6.c, .slice g8.a y5.1.Numbers.length g8.c]⟩), (9, [], .int .i64 y5.2)] [] H11 (by decide) (by kernel_rfl) trivial fun _ wd12 H13 hb => ?_
 clear H11
 replace hS := hS.below hb
 clear hb
 have hd := hS.hand [] [0, 1, 2, 3, 4] rfl rfl
 refine m_stp [3, 8, 9] [(8, [], .agg ⟨[.int .i64 y5.1.Err, .int .i64 y5.1.Num, .slice g6.a y5.1.Texts.length g6.c, .slice g8.a y5.1.Numbers.length g8.c]⟩), (9, [], .int .i64 y5.2)] H13 rfl rfl rfl rfl (o_alloc [.int .i64 0, .int .i64 0, .slice none 0 0, .slice none 0 0] (z := .agg ⟨[.int .i64 0, .int .i64 0, .slice none 0 0, .slice none 0 0]⟩) hd (by kernel_rfl) rfl) (fun _ => rfl) fun _ wd15 v H16 hq => ?_
 clear H13 hd
 obtain ⟨b14, rfl, hq⟩ := hq
 replace hS : SH M X w [Ent.blk b14 [.int .i64 0, .int .i64 0, .slice none 0 0, .slice none 0 0], Ent.im tS y5.1.Texts g6, Ent.own 3 (tI .i64) y5.1.Numbers g8, Ent.gifc 2, Ent.gifc 3, Ent.tab 1 (Lib.pow10Tab.map fun z => Value.int .u64 z)] _ := hS.join [] [0, 1, 2, 3, 4] rfl rfl hq
 clear hq
 have hd := hS.hand [0] [1, 2, 3, 4, 5] rfl rfl
 refine m_stp0 [3, 9] [(3, [], .pointer (some ⟨b14, 0, none⟩)), (9, [], .int .i64 y5.2)] H16 rfl rfl rfl (o_store [.int .i64 y5.1.Err, .int .i64 y5.1.Num, .slice g6.a y5.1.Texts.length g6.c, .slice g8.a y5.1.Numbers.length g8.c] H16 hd rfl rfl (by kernel_rfl) rfl rfl rfl) rfl fun _ wd17 H18 hq => ?_
 clear H16 hd
 obtain ⟨_, hq⟩ := hq
 replace hS : SH M X w [Ent.blk b14 [.int .i64 y5.1.Err, .int .i64 y5.1.Num, .slice g6.a y5.1.Texts.length g6.c, .slice g8.a y5.1.Numbers.length g8.c], Ent.im tS y5.1.Texts g6, Ent.own 3 (tI .i64) y5.1.Numbers g8, Ent.gifc 2, Ent.gifc 3, Ent.tab 1 (Lib.pow10Tab.map fun z => Value.int .u64 z)] _ := hS.join [0] [1, 2, 3, 4, 5] rfl rfl hq
 clear hq
 refine wl_batch 7 8 [] [3, 4] [(3, [], .pointer (some ⟨b14, 0, none⟩)), (4, [], .int .i64 y5.2)] [] H18 (by decide) (by kernel_rfl) trivial fun _ wd19 H20 hb => ?_
 clear H18
 replace hS := hS.below hb
 clear hb
 refine wl_end rfl ?_
 obtain ⟨y21, hy21, hm⟩ := bindE hm
 refine s_reg [(.agg ⟨[.int .i64 y5.1.Err, .int .i64 y5.1.Num, .slice g6.a y5.1.Texts.length g6.c, .slice g8.a y5.1.Numbers.length g8.c]⟩), (.bool y21)] [2] [(2, [], .bool (cond (y5.2 == 12) y21 false))] [fun wz => ((y5.2 == 12) = true ∧ True → V.atN b14 0 [.int .i64 y5.1.Err, .int .i64 y5.1.Num, .slice g6.a y5.1.Texts.length g6.c, .slice g8.a y5.1.Numbers.length g8.c] 0 wz), fun wz => ((y5.2 == 12) = true ∧ True → RetB Tryd.prog 15 ⟨[.agg ⟨[.int .i64 y5.1.Err, .int .i64 y5.1.Num, .slice g6.a y5.1.Texts.length g6.c, .slice g8.a y5.1.Numbers.length g8.c]⟩, .agg ⟨[.int .i64 0, .int .i64 0, .slice none 0 0, .slice none 0 0]⟩]⟩ (.bool y21) wz)] H20 (by kernel_rfl) ⟨fun hg => (hS.bk 0 rfl).atD rfl, fun hg => r40_Same_ok (g_a__0 := g6) (g_a__1 := g8) (g_b__0 := Gh.nil) (g_b__1 := Gh.nil) m _ _ _ (bT (hg.1) hy21) _ (s0im (s0im (s0im (s0im s0nil (SlG.nil (M := F0) (g := Gh.nil))) (SlG.nil (M := F0) (g := Gh.nil))) (hS.osl 2 rfl)) (hS.im 1 rfl)), trivial⟩ fun _ wd22 H23 hb => ?_
 clear H20
 replace hS := hS.below hb
 clear hb
 replace hS : SH M X w [Ent.gifc 2, Ent.gifc 3, Ent.tab 1 (Lib.pow10Tab.map fun z => Value.int .u64 z)] _ := hS.sel [3, 4, 5] rfl
 refine w_ret ?_
 obtain rfl := someE hm
 exact retR1 H23 rfl rfl ⟨_, rfl, rfl, (hS.sel [] rfl)⟩
theorem law40_none_ok  (m : Nat) (s : Str) (r : Bool) (hm : law40_none m s = some r) (w : World) (hL : S0 F0 [Ent.gifc 2, Ent.gifc 3, Ent.tab 1 (Lib.pow10Tab.map fun z => Value.int .u64 z)] w ∧ fpl [Ent.gifc 2, Ent.gifc 3, Ent.tab 1 (Lib.pow10Tab.map fun z => Value.int .u64 z)] = []) : RetB Tryd.prog 26 ⟨[.string ⟨⟨s⟩⟩]⟩ (.bool r) w := retB_of hL (Tryd.call26 _) (fun w' h => law40_none_w F0 m   s r hm w' h)

theorem law40_alive_w  (M : Av) (m : Nat)  (r : Bool) (hm : law40_alive m = some r) (w : World) (hS : S0 M [Ent.tab 1 (Lib.pow10Tab.map fun z => Value.int .u64 z), Ent.gifc 2, Ent.gifc 3] w) : Calls Tryd.prog 16 ⟨[]⟩ w (fun e w' => ∃ v, e = .returned v ∧ v = .bool r ∧ SH M (fpl [Ent.tab 1 (Lib.pow10Tab.map fun z => Value.int .u64 z), Ent.gifc 2, Ent.gifc 3]) w [] w') := by
 rw [law40_alive] at hm
 have hS0 : SH M (fpl [Ent.tab 1 (Lib.pow10Tab.map fun z => Value.int .u64 z), Ent.gifc 2, Ent.gifc 3]) w [Ent.tab 1 (Lib.pow10Tab.map fun z => Value.int .u64 z), Ent.gifc 2, Ent.gifc 3] w := hS
 generalize hX : fpl [Ent.tab 1 (Lib.pow10Tab.map fun z => Value.int .u64 z), Ent.gifc 2, Ent.gifc 3] = X at hS0 ⊢
 clear hS hX
 have hS := hS0
 clear hS0
 refine calls_entryP Tryd.func16 rfl Tryd.ntmps16 rfl fun _ H => ?_
 refine s_reg [] [] [] [] H (by kernel_rfl) trivial fun _ wd1 H2 hb => ?_
 clear H
 replace hS := hS.below hb
 clear hb
 obtain ⟨z3, hz, hm⟩ := bindE hm
 refine w_cut (fun a' w' => Fr 20 [(0, [], .bool z3)] a' ∧ SH M X w [Ent.tab 1 (Lib.pow10Tab.map fun z => Value.int .u64 z), Ent.gifc 2, Ent.gifc 3] w') ?_ ?_
 ·replace hm := hz
  refine wl_start ?_
  obtain ⟨y4, hy4, hm⟩ := bindE hm
  obtain ⟨x5, hx5, hm⟩ := letE hm
  refine wl_batch 0 3 [(.bool y4)] [3] [(3, [], .bool x5)] [fun wz => RetB Tryd.prog 24 ⟨[.agg ⟨[.int .i64 6, .int .i64 0, .slice none 0 0, .slice none 0 0]⟩, .string ⟨⟨[54, 32, 48, 32, 91, 93, 32, 91, 93]⟩⟩]⟩ (.bool y4) wz] H2 (by decide) (by subst hx5; kernel_rfl) ⟨(law40_is_ok (g_a__0 := Gh.nil) (g_a__1 := Gh.nil) m _ _ _ hy4 _ (s0im (s0im (s0tab (s0gf (s0gf s0nil (hS.at 2 rfl)) (hS.at 1 rfl)) (hS.at 0 rfl)) (SlG.nil (M := F0) (g := Gh.nil))) (SlG.nil (M := F0) (g := Gh.nil)))), trivial⟩ fun _ wd6 H7 hb => ?_
  clear H2
  replace hS := hS.below hb
  clear hb
  cases x5
  case false =>
   replace hm := bF rfl hm
   refine m_skipG 3 [4, 3] [(4, [], undef), (3, [], .bool false)] H7 rfl rfl rfl rfl rfl rfl fun _ H40 => ?_
   clear H7
   refine m_skipG 3 [5, 3, 4] [(5, [], undef), (3, [], .bool false), (4, [], undef)] H40 rfl rfl rfl rfl rfl rfl fun _ H41 => ?_
   clear H40
   refine m_skipG 3 [6, 3] [(6, [], undef), (3, [], .bool false)] H41 rfl rfl rfl rfl rfl rfl fun _ H42 => ?_
   clear H41
   refine m_skipG 3 [7, 3] [(7, [], undef), (3, [], .bool false)] H42 rfl rfl rfl rfl rfl rfl fun _ H43 => ?_
   clear H42
   refine wl_batch 7 9 [] [9] [(9, [], .bool false)] [] H43 (by decide) (by kernel_rfl) trivial fun _ wd44 H45 hb => ?_
   clear H43
   replace hS := hS.below hb
   clear hb
   refine m_skipG 9 [10, 9] [(10, [], undef), (9, [], .bool false)] H45 rfl rfl rfl rfl rfl rfl fun _ H46 => ?_
   clear H45
   refine m_skipG 9 [11, 9] [(11, [], undef), (9, [], .bool false)] H46 rfl rfl rfl rfl rfl rfl fun _ H47 => ?_
   clear H46
   refine m_skipG 9 [12, 9] [(12, [], undef), (9, [], .bool false)] H47 rfl rfl rfl rfl rfl rfl fun _ H48 => ?_
   clear H47
   refine wl_batch 12 14 [] [14] [(14, [], .bool false)] [] H48 (by decide) (by kernel_rfl) trivial fun _ wd49 H50 hb => ?_
   clear H48
   replace hS := hS.below hb
   clear hb
   refine m_skipG 14 [15, 14] [(15, [], undef), (14, [], .bool false)] H50 rfl rfl rfl rfl rfl rfl fun _ H51 => ?_
   clear H50
   refine wl_batch 15 17 [] [17] [(17, [], .bool false)] [] H51 (by decide) (by kernel_rfl) trivial fun _ wd52 H53 hb => ?_
   clear H51
   replace hS := hS.below hb
   clear hb
   refine m_skipG 17 [18, 17] [(18, [], undef), (17, [], .bool false)] H53 rfl rfl rfl rfl rfl rfl fun _ H54 => ?_
   clear H53
   refine wl_batch 18 20 [] [0] [(0, [], .bool false)] [] H54 (by decide) (by kernel_rfl) trivial fun _ wd55 H56 hb => ?_
   clear H54
   replace hS := hS.below hb
   clear hb
   refine wl_end rfl ?_
   obtain rfl := someE hm
   exact ⟨FrG.keep (ks := [0]) H56 (by kernel_rfl), hS⟩
  replace hm := bT rfl hm
  have hd := hS.hand [] [0, 1, 2] rfl rfl
  refine m_stpG 3 [4, 3] [(3, [], .bool true)] H7 rfl rfl rfl rfl (o_lit (T := tS) (E := 9) (zv := .string ⟨⟨[]⟩⟩) [.string ⟨⟨[97]⟩⟩, .string ⟨⟨[]⟩⟩] ([[97], []] : List Str) [gL [], gL []] _ H7 hd rfl (by kernel_rfl) (by kernel_rfl) (by kernel_rfl) (by kernel_rfl) (by kernel_rfl) (by kernel_rfl) (by kernel_rfl) rfl (InnL.cons trivial (InnL.cons trivial InnL.nil))) (fun _ => rfl) fun _ wd10 v H11 hq => ?_
  clear H7 hd
  obtain ⟨g8, rfl, hq⟩ := hq
  replace hS : SH M X w [Ent.own 9 tS ([[97], []] : List Str) g8, Ent.tab 1 (Lib.pow10Tab.map fun z => Value.int .u64 z), Ent.gifc 2, Ent.gifc 3] _ := hS.join [] [0, 1, 2] rfl rfl hq
  clear hq
  have hd := hS.hand [] [0, 1, 2, 3] rfl rfl
  refine m_stpG 3 [5, 3, 4] [(3, [], .bool true), (4, [], .slice g8.a 2 g8.c)] H11 rfl rfl rfl rfl (o_lit (T := (tI .i64)) (E := 3) (zv := .int .i64 0) [.int .i64 7, .int .i64 (-1)] ([7, (-1)] : List Int) [gL [], gL []] _ H11 hd rfl (by kernel_rfl) (by kernel_rfl) (by kernel_rfl) (by kernel_rfl) (by kernel_rfl) (by kernel_rfl) (by kernel_rfl) rfl (InnL.cons trivial (InnL.cons trivial InnL.nil))) (fun _ => rfl) fun _ wd14 v H15 hq => ?_
  clear H11 hd
  obtain ⟨g12, rfl, hq⟩ := hq
  replace hS : SH M X w [Ent.own 3 (tI .i64) ([7, (-1)] : List Int) g12, Ent.own 9 tS ([[97], []] : List Str) g8, Ent.tab 1 (Lib.pow10Tab.map fun z => Value.int .u64 z), Ent.gifc 2, Ent.gifc 3] _ := hS.join [] [0, 1, 2, 3] rfl rfl hq
  clear hq
  obtain ⟨y16, hy16, hm⟩ := bindE hm
  obtain ⟨x17, hx17, hm⟩ := letE hm
  refine wl_batch 5 9 [(.bool y16)] [9] [(9, [], .bool x17)] [fun wz => (true = true ∧ True → RetB Tryd.prog 24 ⟨[.agg ⟨[.int .i64 0, .int .i64 2, .slice g8.a 2 g8.c, .slice g12.a 2 g12.c]⟩, .string ⟨⟨[48, 32, 50, 32, 91, 34, 97, 34, 44, 32, 34, 34, 93, 32, 91, 55, 44, 32, 45, 49, 93]⟩⟩]⟩ (.bool y16) wz)] H15 (by decide) (by subst hx17; kernel_rfl) ⟨fun hg => law40_is_ok (g_a__0 := g8) (g_a__1 := g12) m _ _ _ hy16 _ (s0im (s0im (s0tab (s0gf (s0gf s0nil (hS.at 4 rfl)) (hS.at 3 rfl)) (hS.at 2 rfl)) (hS.osl 0 rfl)) (hS.osl 1 rfl)), trivial⟩ fun _ wd18 H19 hb => ?_
  clear H15
  replace hS := hS.below hb
  clear hb
  cases x17
  case true =>
   replace hm := bT rfl hm
   have hd := hS.hand [] [0, 1, 2, 3, 4] rfl rfl
   refine m_stpG 9 [10, 9] [(9, [], .bool true)] H19 rfl rfl rfl rfl (o_lit (T := tS) (E := 9) (zv := .string ⟨⟨[]⟩⟩) [.string ⟨⟨[34, 10, 128]⟩⟩] ([[34, 10, 128]] : List Str) [gL []] _ H19 hd rfl (by kernel_rfl) (by kernel_rfl) (by kernel_rfl) (by kernel_rfl) (by kernel_rfl) (by kernel_rfl) (by kernel_rfl) rfl (InnL.cons trivial InnL.nil)) (fun _ => rfl) fun _ wd22 v H23 hq => ?_
   clear H19 hd
   obtain ⟨g20, rfl, hq⟩ := hq
   replace hS : SH M X w [Ent.own 9 tS ([[34, 10, 128]] : List Str) g20, Ent.own 3 (tI .i64) ([7, (-1)] : List Int) g12, Ent.own 9 tS ([[97], []] : List Str) g8, Ent.tab 1 (Lib.pow10Tab.map fun z => Value.int .u64 z), Ent.gifc 2, Ent.gifc 3] _ := hS.join [] [0, 1, 2, 3, 4] rfl rfl hq
   clear hq
   obtain ⟨y24, hy24, hm⟩ := bindE hm
   obtain ⟨y25, hy25, hm⟩ := bindE hm
   obtain ⟨y26, hy26, hm⟩ := bindE hm
   refine wl_batch 10 20 [(.bool y24), (.bool y25), (.bool y26)] [0] [(0, [], .bool (cond (cond y24 y25 false) y26 false))] [fun wz => (true = true ∧ True → RetB Tryd.prog 24 ⟨[.agg ⟨[.int .i64 0, .int .i64 0, .slice g20.a 1 g20.c, .slice none 0 0]⟩, .string ⟨⟨[48, 32, 48, 32, 91, 34, 92, 34, 92, 110, 92, 120, 56, 48, 34, 93, 32, 91, 93]⟩⟩]⟩ (.bool y24) wz), fun wz => (y24 = true ∧ True → RetB Tryd.prog 26 ⟨[.string ⟨⟨[48, 32, 48, 32, 91, 32, 93, 32, 91, 93]⟩⟩]⟩ (.bool y25) wz), fun wz => ((cond y24 y25 false) = true ∧ True → RetB Tryd.prog 26 ⟨[.string ⟨⟨[48, 32, 48, 48, 32, 91, 93, 32, 91, 93]⟩⟩]⟩ (.bool y26) wz)] H23 (by decide) (by kernel_rfl) ⟨fun hg => law40_is_ok (g_a__0 := g20) (g_a__1 := Gh.nil) m _ _ _ hy24 _ (s0im (s0im (s0tab (s0gf (s0gf s0nil (hS.at 5 rfl)) (hS.at 4 rfl)) (hS.at 3 rfl)) (SlG.nil (M := F0) (g := Gh.nil))) (hS.osl 0 rfl)), fun hg => law40_none_ok m _ _ (bT (hg.1) hy25) _ (s0gf (s0gf (s0tab s0nil (hS.at 3 rfl)) (hS.at 5 rfl)) (hS.at 4 rfl)), fun hg => law40_none_ok m _ _ (bT (hg.1) hy26) _ (s0gf (s0gf (s0tab s0nil (hS.at 3 rfl)) (hS.at 5 rfl)) (hS.at 4 rfl)), trivial⟩ fun _ wd27 H28 hb => ?_
   clear H23
   replace hS := hS.below hb
   clear hb
   refine wl_end rfl ?_
   replace hS : SH M X w [Ent.tab 1 (Lib.pow10Tab.map fun z => Value.int .u64 z), Ent.gifc 2, Ent.gifc 3] _ := hS.sel [3, 4, 5] rfl
   obtain rfl := someE hm
   exact ⟨FrG.keep (ks := [0]) H28 (by kernel_rfl), hS⟩
  replace hm := bF rfl hm
  refine m_skipG 9 [10, 9] [(10, [], undef), (9, [], .bool false)] H19 rfl rfl rfl rfl rfl rfl fun _ H29 => ?_
  clear H19
  refine m_skipG 9 [11, 9] [(11, [], undef), (9, [], .bool false)] H29 rfl rfl rfl rfl rfl rfl fun _ H30 => ?_
  clear H29
  refine m_skipG 9 [12, 9] [(12, [], undef), (9, [], .bool false)] H30 rfl rfl rfl rfl rfl rfl fun _ H31 => ?_
  clear H30
  refine wl_batch 12 14 [] [14] [(14, [], .bool false)] [] H31 (by decide) (by kernel_rfl) trivial fun _ wd32 H33 hb => ?_
  clear H31
  replace hS := hS.below hb
  clear hb
  refine m_skipG 14 [15, 14] [(15, [], undef), (14, [], .bool false)] H33 rfl rfl rfl rfl rfl rfl fun _ H34 => ?_
  clear H33
  refine wl_batch 15 17 [] [17] [(17, [], .bool false)] [] H34 (by decide) (by kernel_rfl) trivial fun _ wd35 H36 hb => ?_
  clear H34
  replace hS := hS.below hb
  clear hb
  refine m_skipG 17 [18, 17] [(18, [], undef), (17, [], .bool false)] H36 rfl rfl rfl rfl rfl rfl fun _ H37 => ?_
  clear H36
  refine wl_batch 18 20 [] [0] [(0, [], .bool false)] [] H37 (by decide) (by kernel_rfl) trivial fun _ wd38 H39 hb => ?_
  clear H37
  replace hS := hS.below hb
  clear hb
  refine wl_end rfl ?_
  replace hS : SH M X w [Ent.tab 1 (Lib.pow10Tab.map fun z => Value.int .u64 z), Ent.gifc 2, Ent.gifc 3] _ := hS.sel [2, 3, 4] rfl
  obtain rfl := someE hm
  exact ⟨FrG.keep (ks := [0]) H39 (by kernel_rfl), hS⟩
 ·rintro _ wd57 ⟨H, hS⟩
  refine w_ret ?_
  obtain rfl := someE hm
  exact retR1 H rfl rfl ⟨_, rfl, rfl, (hS.sel [] rfl)⟩
theorem law40_alive_ok  (m : Nat)  (r : Bool) (hm : law40_alive m = some r) (w : World) (hL : S0 F0 [Ent.tab 1 (Lib.pow10Tab.map fun z => Value.int .u64 z), Ent.gifc 2, Ent.gifc 3] w ∧ fpl [Ent.tab 1 (Lib.pow10Tab.map fun z => Value.int .u64 z), Ent.gifc 2, Ent.gifc 3] = []) : RetB Tryd.prog 16 ⟨[]⟩ (.bool r) w := retB_of hL (Tryd.call16 _) (fun w' h => law40_alive_w F0 m    r hm w' h)

theorem r40_Big_w {g_a__0 : Gh} {g_a__1 : Gh} (M : Av) (m : Nat) (a_ : TAnswer) (r : Bool) (hm : r40_Big m a_ = some r) (w : World) (hS : S0 M [Ent.im tS a_.Texts g_a__0, Ent.im (tI .i64) a_.Numbers g_a__1] w) : Calls Tryd.prog 8 ⟨[.agg ⟨[.int .i64 a_.Err, .int .i64 a_.Num, .slice g_a__0.a a_.Texts.length g_a__0.c, .slice g_a__1.a a_.Numbers.length g_a__1.c]⟩]⟩ w (fun e w' => ∃ v, e = .returned v ∧ v = .bool r ∧ SH M (fpl [Ent.im tS a_.Texts g_a__0, Ent.im (tI .i64) a_.Numbers g_a__1]) w [] w') := by
 rw [r40_Big] at hm
 have hS0 : SH M (fpl [Ent.im tS a_.Texts g_a__0, Ent.im (tI .i64) a_.Numbers g_a__1]) w [Ent.im tS a_.Texts g_a__0, Ent.im (tI .i64) a_.Numbers g_a__1] w := hS
 generalize hX : fpl [Ent.im tS a_.Texts g_a__0, Ent.im (tI .i64) a_.Numbers g_a__1] = X at hS0 ⊢
 clear hS hX
 have hS := hS0
 clear hS0
 refine calls_entryP Tryd.func8 rfl Tryd.ntmps8 rfl fun _ H => ?_
 refine w_seq ?_
 refine wl_start ?_
 have hd := hS.hand [] [0, 1] rfl rfl
 refine m_stp [1] [] H rfl rfl rfl rfl (o_box [.int .i64 a_.Err, .int .i64 a_.Num, .slice g_a__0.a a_.Texts.length g_a__0.c, .slice g_a__1.a a_.Numbers.length g_a__1.c] H hd rfl rfl) (fun _ => rfl) fun _ wd2 v H3 hq => ?_
 clear H hd
 obtain ⟨b1, rfl, hq⟩ := hq
 replace hS : SH M X w [Ent.blk b1 [.int .i64 a_.Err, .int .i64 a_.Num, .slice g_a__0.a a_.Texts.length g_a__0.c, .slice g_a__1.a a_.Numbers.length g_a__1.c], Ent.im tS a_.Texts g_a__0, Ent.im (tI .i64) a_.Numbers g_a__1] _ := hS.join [] [0, 1] rfl rfl hq
 clear hq
 refine wl_batch 1 2 [] [1] [(1, [], .pointer (some ⟨b1, 0, none⟩))] [] H3 (by decide) (by kernel_rfl) trivial fun _ wd4 H5 hb => ?_
 clear H3
 replace hS := hS.below hb
 clear hb
 refine wl_end rfl ?_
 refine w_seq ?_
 obtain ⟨x6, hx6, hm⟩ := letE hm
 refine s_reg [(.slice g_a__0.a a_.Texts.length g_a__0.c), (.slice g_a__1.a a_.Numbers.length g_a__1.c)] [1, 14] [(1, [], .pointer (some ⟨b1, 0, none⟩)), (14, [], .bool x6)] [fun wz => V.at1 ⟨b1, 2, none⟩ (.slice g_a__0.a a_.Texts.length g_a__0.c) wz, fun wz => ((decide (70 < (ln a_.Texts))) = false ∧ True → V.at1 ⟨b1, 3, none⟩ (.slice g_a__1.a a_.Numbers.length g_a__1.c) wz)] H5 (by subst hx6; kernel_rfl) ⟨((hS.bk 0 rfl).at1 rfl), fun hg => (hS.bk 0 rfl).at1 rfl, trivial⟩ fun _ wd7 H8 hb => ?_
 clear H5
 replace hS := hS.below hb
 clear hb
 refine w_if H8 rfl (fun hc => ?c31) (fun hc => ?_)
 case c31 =>
  replace hm := bT hc hm
  refine s_reg [] [2] [(2, [], .bool true)] [] H8 (by kernel_rfl) trivial fun _ wd9 H10 hb => ?_
  clear H8
  replace hS := hS.below hb
  clear hb
  replace hS : SH M X w [] _ := hS.sel [] rfl
  refine w_ret ?_
  obtain rfl := someE hm
  exact retR1 H10 rfl rfl ⟨_, rfl, rfl, (hS.sel [] rfl)⟩
 replace hm := bF hc hm
 refine w_skip ?_
 refine s_reg [] [1, 3] [(1, [], .pointer (some ⟨b1, 0, none⟩)), (3, [], .int .i64 0)] [] H8 (by kernel_rfl) trivial fun _ wd11 H12 hb => ?_
 clear H8
 replace hS := hS.below hb
 clear hb
 obtain ⟨z13, hz, hm⟩ := bindE hm
 refine w_cut (fun a' w' => Fr 40 [(3, [], .int .i64 z13)] a' ∧ SH M X w [Ent.blk b1 [.int .i64 a_.Err, .int .i64 a_.Num, .slice g_a__0.a a_.Texts.length g_a__0.c, .slice g_a__1.a a_.Numbers.length g_a__1.c], Ent.im tS a_.Texts g_a__0, Ent.im (tI .i64) a_.Numbers g_a__1] w') ?_ ?_
 ·replace hm := hz
  refine s_reg [] [1, 3, 4] [(1, [], .pointer (some ⟨b1, 0, none⟩)), (3, [], .int .i64 0), (4, [], .int .i64 0)] [] H12 (by kernel_rfl) trivial fun _ wd14 H15 hb => ?_
  clear H12
  replace hS := hS.below hb
  clear hb
  refine w_block ?_
  refine w_loop (fun kk a' w' => ∃ (v16 : Int) (v17 : Int), r40_Big_L1 m a_ kk v16 v17 = some _ ∧ Fr 40 [(1, [], .pointer (some ⟨b1, 0, none⟩)), (3, [], .int .i64 v16), (4, [], .int .i64 v17)] a' ∧ SH M X w [Ent.blk b1 [.int .i64 a_.Err, .int .i64 a_.Num, .slice g_a__0.a a_.Texts.length g_a__0.c, .slice g_a__1.a a_.Numbers.length g_a__1.c], Ent.im tS a_.Texts g_a__0, Ent.im (tI .i64) a_.Numbers g_a__1] w') ⟨_, 0, 0, hm, FrG.keep (ks := [1, 3, 4]) H15 (by kernel_rfl), hS⟩ ?_
  clear hm H15 hS
  rintro kk _ wd26 ⟨v16, v17, hm, H, hS⟩
  cases kk with
  | zero => exact noneE hm
  | succ kk =>
   rw [r40_Big_L1] at hm
   refine w_seq ?_
   refine s_reg [(.slice g_a__0.a a_.Texts.length g_a__0.c)] [1, 3, 4, 19] [(1, [], .pointer (some ⟨b1, 0, none⟩)), (3, [], .int .i64 v16), (4, [], .int .i64 v17), (19, [], .bool (decide (v17 < (ln a_.Texts))))] [fun wz => V.at1 ⟨b1, 2, none⟩ (.slice g_a__0.a a_.Texts.length g_a__0.c) wz] H (by kernel_rfl) ⟨((hS.bk 0 rfl).at1 rfl), trivial⟩ fun _ wd18 H19 hb => ?_
   clear H
   replace hS := hS.below hb
   clear hb
   refine w_if H19 rfl (fun hc => ?_) (fun hc => ?c25)
   case c25 =>
    replace hm := bF hc hm
    refine w_exit rfl ?_
    obtain rfl := someE hm
    exact ⟨FrG.keep (ks := [3]) H19 (by kernel_rfl), hS⟩
   replace hm := bT hc hm
   refine w_skip ?_
   refine w_seq ?_
   refine w_block ?_
   obtain ⟨ho20, hm⟩ := chkE hm
   refine w_reg [(.slice g_a__0.a a_.Texts.length g_a__0.c), (.string ⟨⟨(gi a_.Texts v17)⟩⟩)] [1, 3, 4] [(1, [], .pointer (some ⟨b1, 0, none⟩)), (3, [], .int .i64 (w64 (v16 + (ln (gi a_.Texts v17))))), (4, [], .int .i64 v17)] [fun wz => V.at1 ⟨b1, 2, none⟩ (.slice g_a__0.a a_.Texts.length g_a__0.c) wz, fun _ => oka g_a__0.a ∧ 0 ≤ v17 ∧ v17 < ln a_.Texts, fun wz => V.at1 ⟨ab g_a__0.a, ao g_a__0.a + (v17).toNat * 1, none⟩ (.string ⟨⟨(gi a_.Texts v17)⟩⟩) wz] H19 (by kernel_rfl) ⟨((hS.bk 0 rfl).at1 rfl), ((hS.im 1 rfl).oki ho20), ((hS.im 1 rfl).at1 ho20 0 rfl), trivial⟩ fun _ wd21 H22 hb => ?_
   clear H19
   replace hS := hS.below hb
   clear hb
   refine w_reg [] [1, 3, 4] [(1, [], .pointer (some ⟨b1, 0, none⟩)), (3, [], .int .i64 (w64 (v16 + (ln (gi a_.Texts v17))))), (4, [], .int .i64 (w64 (v17 + 1)))] [] H22 (by kernel_rfl) trivial fun _ wd23 H24 hb => ?_
   clear H22
   replace hS := hS.below hb
   clear hb
   exact ⟨_, Nat.lt_succ_self _, w64 (v16 + (ln (gi a_.Texts v17))), w64 (v17 + 1), hm, FrG.keep (ks := [1, 3, 4]) H24 (by kernel_rfl), hS⟩
 ·rintro _ wd30 ⟨H, hS⟩
  replace hS : SH M X w [] _ := hS.sel [] rfl
  obtain ⟨x27, hx27, hm⟩ := letE hm
  refine s_reg [] [2] [(2, [], .bool (cond x27 true (decide (20100 < z13))))] [] H (by subst hx27; kernel_rfl) trivial fun _ wd28 H29 hb => ?_
  clear H
  replace hS := hS.below hb
  clear hb
  refine w_ret ?_
  obtain rfl := someE hm
  exact retR1 H29 rfl rfl ⟨_, rfl, rfl, (hS.sel [] rfl)⟩
theorem r40_Big_ok {g_a__0 : Gh} {g_a__1 : Gh} (m : Nat) (a_ : TAnswer) (r : Bool) (hm : r40_Big m a_ = some r) (w : World) (hL : S0 F0 [Ent.im tS a_.Texts g_a__0, Ent.im (tI .i64) a_.Numbers g_a__1] w ∧ fpl [Ent.im tS a_.Texts g_a__0, Ent.im (tI .i64) a_.Numbers g_a__1] = []) : RetB Tryd.prog 8 ⟨[.agg ⟨[.int .i64 a_.Err, .int .i64 a_.Num, .slice g_a__0.a a_.Texts.length g_a__0.c, .slice g_a__1.a a_.Numbers.length g_a__1.c]⟩]⟩ (.bool r) w := retB_of hL (Tryd.call8 _) (fun w' h => r40_Big_w F0 m   a_ r hm w' h)

theorem r40_Great_w {g_l_ : Gh} (M : Av) (m : Nat) (l_ : List TAnswer) (r : Bool) (hm : r40_Great m l_ = some r) (w : World) (hS : S0 M [Ent.im tyAnswer l_ g_l_] w) : Calls Tryd.prog 17 ⟨[.slice g_l_.a l_.length g_l_.c]⟩ w (fun e w' => ∃ v, e = .returned v ∧ v = .bool r ∧ SH M (fpl [Ent.im tyAnswer l_ g_l_]) w [] w') := by
 rw [r40_Great] at hm
 have hS0 : SH M (fpl [Ent.im tyAnswer l_ g_l_]) w [Ent.im tyAnswer l_ g_l_] w := hS
 generalize hX : fpl [Ent.im tyAnswer l_ g_l_] = X at hS0 ⊢
 clear hS hX
 have hS := hS0
 clear hS0
 refine calls_entryP Tryd.func17 rfl Tryd.ntmps17 rfl fun _ H => ?_
 refine s_reg [] [0] [(0, [], .slice g_l_.a l_.length g_l_.c)] [] H (by kernel_rfl) trivial fun _ wd1 H2 hb => ?_
 clear H
 replace hS := hS.below hb
 clear hb
 refine w_seq ?_
 obtain ⟨x3, hx3, hm⟩ := letE hm
 refine s_reg [] [0, 16] [(0, [], .slice g_l_.a l_.length g_l_.c), (16, [], .bool (cond x3 true (decide (65 < (ln l_)))))] [] H2 (by subst hx3; kernel_rfl) trivial fun _ wd4 H5 hb => ?_
 clear H2
 replace hS := hS.below hb
 clear hb
 refine w_if H5 rfl (fun hc => ?c28) (fun hc => ?_)
 case c28 =>
  replace hm := bT hc hm
  refine s_reg [] [2] [(2, [], .bool true)] [] H5 (by kernel_rfl) trivial fun _ wd6 H7 hb => ?_
  clear H5
  replace hS := hS.below hb
  clear hb
  replace hS : SH M X w [] _ := hS.sel [] rfl
  refine w_ret ?_
  obtain rfl := someE hm
  exact retR1 H7 rfl rfl ⟨_, rfl, rfl, (hS.sel [] rfl)⟩
 replace hm := bF hc hm
 refine w_skip ?_
 obtain ⟨z8, hz, hm_z8⟩ := bindE hm
 refine w_cut (fun a' w' => ∃ s_z8 : Unit, z8 = Sum.inr s_z8 ∧ Fr 28 [] a' ∧ SH M X w [Ent.im tyAnswer l_ g_l_] w') ?_ ?_
 ·replace hm := hz
  refine s_reg [] [0, 3] [(0, [], .slice g_l_.a l_.length g_l_.c), (3, [], .int .i64 0)] [] H5 (by kernel_rfl) trivial fun _ wd9 H10 hb => ?_
  clear H5
  replace hS := hS.below hb
  clear hb
  refine w_block ?_
  refine w_loop (fun kk a' w' => ∃ (v11 : Int), r40_Great_L1 m l_ kk v11 = some _ ∧ Fr 28 [(0, [], .slice g_l_.a l_.length g_l_.c), (3, [], .int .i64 v11)] a' ∧ SH M X w [Ent.im tyAnswer l_ g_l_] w') ⟨_, 0, hm, FrG.keep (ks := [0, 3]) H10 (by kernel_rfl), hS⟩ ?_
  clear hm H10 hS
  rintro kk _ wd24 ⟨v11, hm, H, hS⟩
  cases kk with
  | zero => exact noneE hm
  | succ kk =>
   rw [r40_Great_L1] at hm
   refine w_seq ?_
   refine s_reg [] [0, 3, 20] [(0, [], .slice g_l_.a l_.length g_l_.c), (3, [], .int .i64 v11), (20, [], .bool (decide (v11 < (ln l_))))] [] H (by kernel_rfl) trivial fun _ wd12 H13 hb => ?_
   clear H
   replace hS := hS.below hb
   clear hb
   refine w_if H13 rfl (fun hc => ?_) (fun hc => ?c23)
   case c23 =>
    replace hm := bF hc hm
    refine w_exit rfl ?_
    obtain rfl := someE hm
    exact ⟨_, rfl, FrG.keep (ks := []) H13 (by kernel_rfl), hS⟩
   replace hm := bT hc hm
   refine w_skip ?_
   refine w_seq ?_
   refine w_block ?_
   obtain ⟨ho14, hm⟩ := chkE hm
   obtain ⟨y15, hy15, hm⟩ := bindE hm
   refine s_reg [(.agg ⟨[.int .i64 ((gi l_ v11).Err), .int .i64 ((gi l_ v11).Num), .slice (g_l_.s (v11).toNat 0).a (((gi l_ v11).Texts).length) (g_l_.s (v11).toNat 0).c, .slice (g_l_.s (v11).toNat 1).a (((gi l_ v11).Numbers).length) (g_l_.s (v11).toNat 1).c]⟩), (.bool y15)] [0, 3, 27] [(0, [], .slice g_l_.a l_.length g_l_.c), (3, [], .int .i64 v11), (27, [], .bool y15)] [fun _ => oka g_l_.a ∧ 0 ≤ v11 ∧ v11 < ln l_, fun wz => V.atN (ab g_l_.a) (ao g_l_.a + (v11).toNat * 4) [.int .i64 ((gi l_ v11).Err), .int .i64 ((gi l_ v11).Num), .slice (g_l_.s (v11).toNat 0).a (((gi l_ v11).Texts).length) (g_l_.s (v11).toNat 0).c, .slice (g_l_.s (v11).toNat 1).a (((gi l_ v11).Numbers).length) (g_l_.s (v11).toNat 1).c] 0 wz, fun wz => RetB Tryd.prog 8 ⟨[.agg ⟨[.int .i64 ((gi l_ v11).Err), .int .i64 ((gi l_ v11).Num), .slice (g_l_.s (v11).toNat 0).a (((gi l_ v11).Texts).length) (g_l_.s (v11).toNat 0).c, .slice (g_l_.s (v11).toNat 1).a (((gi l_ v11).Numbers).length) (g_l_.s (v11).toNat 1).c]⟩]⟩ (.bool y15) wz] H13 (by kernel_rfl) ⟨((hS.im 0 rfl).oki ho14), ((hS.im 0 rfl).atA ho14 0 rfl), (r40_Big_ok (g_a__0 := (g_l_.s (v11).toNat 0)) (g_a__1 := (g_l_.s (v11).toNat 1)) m _ _ hy15 _ (s0im (s0im s0nil (tyAnswer_i1 ((hS.im 0 rfl).el ho14))) (tyAnswer_i0 ((hS.im 0 rfl).el ho14)))), trivial⟩ fun _ wd16 H17 hb => ?_
   clear H13
   replace hS := hS.below hb
   clear hb
   refine w_if H17 rfl (fun hc => ?_) (fun hc => ?c22)
   case c22 =>
    replace hm := bF hc hm
    refine w_skip ?_
    refine w_reg [] [0, 3] [(0, [], .slice g_l_.a l_.length g_l_.c), (3, [], .int .i64 (w64 (v11 + 1)))] [] H17 (by kernel_rfl) trivial fun _ wd20 H21 hb => ?_
    clear H17
    replace hS := hS.below hb
    clear hb
    exact ⟨_, Nat.lt_succ_self _, w64 (v11 + 1), hm, FrG.keep (ks := [0, 3]) H21 (by kernel_rfl), hS⟩
   replace hm := bT hc hm
   refine s_reg [] [2] [(2, [], .bool true)] [] H17 (by kernel_rfl) trivial fun _ wd18 H19 hb => ?_
   clear H17
   replace hS := hS.below hb
   clear hb
   refine w_ret ?_
   obtain rfl := someE hm
   have hm := hm_z8
   obtain rfl := someE hm
   exact retR1 H19 rfl rfl ⟨_, rfl, rfl, (hS.sel [] rfl)⟩
 ·rintro _ wd27 ⟨s_z8, hz, H, hS⟩
  subst hz
  replace hm := sumR hm_z8
  replace hS : SH M X w [] _ := hS.sel [] rfl
  refine s_reg [] [2] [(2, [], .bool false)] [] H (by kernel_rfl) trivial fun _ wd25 H26 hb => ?_
  clear H
  replace hS := hS.below hb
  clear hb
  refine w_ret ?_
  obtain rfl := someE hm
  exact retR1 H26 rfl rfl ⟨_, rfl, rfl, (hS.sel [] rfl)⟩
theorem r40_Great_ok {g_l_ : Gh} (m : Nat) (l_ : List TAnswer) (r : Bool) (hm : r40_Great m l_ = some r) (w : World) (hL : S0 F0 [Ent.im tyAnswer l_ g_l_] w ∧ fpl [Ent.im tyAnswer l_ g_l_] = []) : RetB Tryd.prog 17 ⟨[.slice g_l_.a l_.length g_l_.c]⟩ (.bool r) w := retB_of hL (Tryd.call17 _) (fun w' h => r40_Great_w F0 m   l_ r hm w' h)

theorem r40_Check_w {g_a__0 : Gh} {g_a__1 : Gh} (M : Av) (m : Nat) (a_ : TAnswer) (r : Int) (hm : r40_Check m a_ = some r) (w : World) (hS : S0 M [Ent.im tS a_.Texts g_a__0, Ent.im (tI .i64) a_.Numbers g_a__1] w) : Calls Tryd.prog 14 ⟨[.agg ⟨[.int .i64 a_.Err, .int .i64 a_.Num, .slice g_a__0.a a_.Texts.length g_a__0.c, .slice g_a__1.a a_.Numbers.length g_a__1.c]⟩]⟩ w (fun e w' => ∃ v, e = .returned v ∧ v = .int .i64 r ∧ SH M (fpl [Ent.im tS a_.Texts g_a__0, Ent.im (tI .i64) a_.Numbers g_a__1]) w [] w') := by
 rw [r40_Check] at hm
 have hS0 : SH M (fpl [Ent.im tS a_.Texts g_a__0, Ent.im (tI .i64) a_.Numbers g_a__1]) w [Ent.im tS a_.Texts g_a__0, Ent.im (tI .i64) a_.Numbers g_a__1] w := hS
 generalize hX : fpl [Ent.im tS a_.Texts g_a__0, Ent.im (tI .i64) a_.Numbers g_a__1] = X at hS0 ⊢
 clear hS hX
 have hS := hS0
 clear hS0
 refine calls_entryP Tryd.func14 rfl Tryd.ntmps14 rfl fun _ H => ?_
 refine w_seq ?_
 refine wl_start ?_
 have hd := hS.hand [] [0, 1] rfl rfl
 refine m_stp [1] [] H rfl rfl rfl rfl (o_box [.int .i64 a_.Err, .int .i64 a_.Num, .slice g_a__0.a a_.Texts.length g_a__0.c, .slice g_a__1.a a_.Numbers.length g_a__1.c] H hd rfl rfl) (fun _ => rfl) fun _ wd2 v H3 hq => ?_
 clear H hd
 obtain ⟨b1, rfl, hq⟩ := hq
 replace hS : SH M X w [Ent.blk b1 [.int .i64 a_.Err, .int .i64 a_.Num, .slice g_a__0.a a_.Texts.length g_a__0.c, .slice g_a__1.a a_.Numbers.length g_a__1.c], Ent.im tS a_.Texts g_a__0, Ent.im (tI .i64) a_.Numbers g_a__1] _ := hS.join [] [0, 1] rfl rfl hq
 clear hq
 refine wl_batch 1 2 [] [1] [(1, [], .pointer (some ⟨b1, 0, none⟩))] [] H3 (by decide) (by kernel_rfl) trivial fun _ wd4 H5 hb => ?_
 clear H3
 replace hS := hS.below hb
 clear hb
 refine wl_end rfl ?_
 refine s_reg [] [1, 3] [(1, [], .pointer (some ⟨b1, 0, none⟩)), (3, [], .int .i64 0)] [] H5 (by kernel_rfl) trivial fun _ wd6 H7 hb => ?_
 clear H5
 replace hS := hS.below hb
 clear hb
 obtain ⟨z8, hz, hm⟩ := bindE hm
 refine w_cut (fun a' w' => Fr 48 [(1, [], .pointer (some ⟨b1, 0, none⟩)), (3, [], .int .i64 z8)] a' ∧ SH M X w [Ent.blk b1 [.int .i64 a_.Err, .int .i64 a_.Num, .slice g_a__0.a a_.Texts.length g_a__0.c, .slice g_a__1.a a_.Numbers.length g_a__1.c], Ent.im tS a_.Texts g_a__0, Ent.im (tI .i64) a_.Numbers g_a__1] w') ?_ ?_
 ·replace hm := hz
  refine s_reg [] [1, 3, 4] [(1, [], .pointer (some ⟨b1, 0, none⟩)), (3, [], .int .i64 0), (4, [], .int .i64 0)] [] H7 (by kernel_rfl) trivial fun _ wd9 H10 hb => ?_
  clear H7
  replace hS := hS.below hb
  clear hb
  refine w_block ?_
  refine w_loop (fun kk a' w' => ∃ (v11 : Int) (v12 : Int), r40_Check_L1 m a_ kk v11 v12 = some _ ∧ Fr 48 [(1, [], .pointer (some ⟨b1, 0, none⟩)), (3, [], .int .i64 v11), (4, [], .int .i64 v12)] a' ∧ SH M X w [Ent.blk b1 [.int .i64 a_.Err, .int .i64 a_.Num, .slice g_a__0.a a_.Texts.length g_a__0.c, .slice g_a__1.a a_.Numbers.length g_a__1.c], Ent.im tS a_.Texts g_a__0, Ent.im (tI .i64) a_.Numbers g_a__1] w') ⟨_, 0, 0, hm, FrG.keep (ks := [1, 3, 4]) H10 (by kernel_rfl), hS⟩ ?_
  clear hm H10 hS
  rintro kk _ wd22 ⟨v11, v12, hm, H, hS⟩
  cases kk with
  | zero => exact noneE hm
  | succ kk =>
   rw [r40_Check_L1] at hm
   refine w_seq ?_
   obtain ⟨x13, hx13, hm⟩ := letE hm
   refine s_reg [(.slice g_a__0.a a_.Texts.length g_a__0.c)] [1, 3, 4, 13] [(1, [], .pointer (some ⟨b1, 0, none⟩)), (3, [], .int .i64 v11), (4, [], .int .i64 v12), (13, [], .bool x13)] [fun wz => V.at1 ⟨b1, 2, none⟩ (.slice g_a__0.a a_.Texts.length g_a__0.c) wz] H (by subst hx13; kernel_rfl) ⟨((hS.bk 0 rfl).at1 rfl), trivial⟩ fun _ wd14 H15 hb => ?_
   clear H
   replace hS := hS.below hb
   clear hb
   refine w_if H15 rfl (fun hc => ?_) (fun hc => ?c21)
   case c21 =>
    replace hm := bF hc hm
    refine w_exit rfl ?_
    obtain rfl := someE hm
    exact ⟨FrG.keep (ks := [1, 3]) H15 (by kernel_rfl), hS⟩
   replace hm := bT hc hm
   refine w_skip ?_
   refine w_seq ?_
   refine w_block ?_
   obtain ⟨ho16, hm⟩ := chkE hm
   refine w_reg [(.slice g_a__0.a a_.Texts.length g_a__0.c), (.string ⟨⟨(gi a_.Texts v12)⟩⟩)] [1, 3, 4] [(1, [], .pointer (some ⟨b1, 0, none⟩)), (3, [], .int .i64 (w64 (v11 + (ln (gi a_.Texts v12))))), (4, [], .int .i64 v12)] [fun wz => V.at1 ⟨b1, 2, none⟩ (.slice g_a__0.a a_.Texts.length g_a__0.c) wz, fun _ => oka g_a__0.a ∧ 0 ≤ v12 ∧ v12 < ln a_.Texts, fun wz => V.at1 ⟨ab g_a__0.a, ao g_a__0.a + (v12).toNat * 1, none⟩ (.string ⟨⟨(gi a_.Texts v12)⟩⟩) wz] H15 (by kernel_rfl) ⟨((hS.bk 0 rfl).at1 rfl), ((hS.im 1 rfl).oki ho16), ((hS.im 1 rfl).at1 ho16 0 rfl), trivial⟩ fun _ wd17 H18 hb => ?_
   clear H15
   replace hS := hS.below hb
   clear hb
   refine w_reg [] [1, 3, 4] [(1, [], .pointer (some ⟨b1, 0, none⟩)), (3, [], .int .i64 (w64 (v11 + (ln (gi a_.Texts v12))))), (4, [], .int .i64 (w64 (v12 + 1)))] [] H18 (by kernel_rfl) trivial fun _ wd19 H20 hb => ?_
   clear H18
   replace hS := hS.below hb
   clear hb
   exact ⟨_, Nat.lt_succ_self _, w64 (v11 + (ln (gi a_.Texts v12))), w64 (v12 + 1), hm, FrG.keep (ks := [1, 3, 4]) H20 (by kernel_rfl), hS⟩
 ·rintro _ wd33 ⟨H, hS⟩
  refine w_seq ?_
  obtain ⟨x23, hx23, hm⟩ := letE hm
  obtain ⟨x24, hx24, hm⟩ := letE hm
  obtain ⟨x25, hx25, hm⟩ := letE hm
  refine s_reg [(.int .i64 a_.Err), (.int .i64 a_.Err), (.slice g_a__0.a a_.Texts.length g_a__0.c), (.slice g_a__1.a a_.Numbers.length g_a__1.c)] [47] [(47, [], .bool x25)] [fun wz => V.at1 ⟨b1, 0, none⟩ (.int .i64 a_.Err) wz, fun wz => ((decide (a_.Err < 0)) = false ∧ True → V.at1 ⟨b1, 0, none⟩ (.int .i64 a_.Err) wz), fun wz => (x23 = false ∧ True → V.at1 ⟨b1, 2, none⟩ (.slice g_a__0.a a_.Texts.length g_a__0.c) wz), fun wz => ((cond x24 true (decide (20000 < z8))) = false ∧ True → V.at1 ⟨b1, 3, none⟩ (.slice g_a__1.a a_.Numbers.length g_a__1.c) wz)] H (by subst hx23 hx24 hx25; kernel_rfl) ⟨((hS.bk 0 rfl).at1 rfl), fun hg => (hS.bk 0 rfl).at1 rfl, fun hg => (hS.bk 0 rfl).at1 rfl, fun hg => (hS.bk 0 rfl).at1 rfl, trivial⟩ fun _ wd26 H27 hb => ?_
  clear H
  replace hS := hS.below hb
  clear hb
  replace hS : SH M X w [] _ := hS.sel [] rfl
  refine w_if H27 rfl (fun hc => ?c32) (fun hc => ?_)
  case c32 =>
   replace hm := bT hc hm
   refine s_reg [] [2] [(2, [], .int .i64 8)] [] H27 (by kernel_rfl) trivial fun _ wd28 H29 hb => ?_
   clear H27
   replace hS := hS.below hb
   clear hb
   refine w_ret ?_
   obtain rfl := someE hm
   exact retR1 H29 rfl rfl ⟨_, rfl, rfl, (hS.sel [] rfl)⟩
  replace hm := bF hc hm
  refine w_skip ?_
  refine s_reg [] [2] [(2, [], .int .i64 0)] [] H27 (by kernel_rfl) trivial fun _ wd30 H31 hb => ?_
  clear H27
  replace hS := hS.below hb
  clear hb
  refine w_ret ?_
  obtain rfl := someE hm
  exact retR1 H31 rfl rfl ⟨_, rfl, rfl, (hS.sel [] rfl)⟩
theorem r40_Check_ok {g_a__0 : Gh} {g_a__1 : Gh} (m : Nat) (a_ : TAnswer) (r : Int) (hm : r40_Check m a_ = some r) (w : World) (hL : S0 F0 [Ent.im tS a_.Texts g_a__0, Ent.im (tI .i64) a_.Numbers g_a__1] w ∧ fpl [Ent.im tS a_.Texts g_a__0, Ent.im (tI .i64) a_.Numbers g_a__1] = []) : RetB Tryd.prog 14 ⟨[.agg ⟨[.int .i64 a_.Err, .int .i64 a_.Num, .slice g_a__0.a a_.Texts.length g_a__0.c, .slice g_a__1.a a_.Numbers.length g_a__1.c]⟩]⟩ (.int .i64 r) w := retB_of hL (Tryd.call14 _) (fun w' h => r40_Check_w F0 m   a_ r hm w' h)

theorem r40_Log_w {g_l_ : Gh} (M : Av) (m : Nat) (l_ : List TAnswer) (r : Int) (hm : r40_Log m l_ = some r) (w : World) (hS : S0 M [Ent.im tyAnswer l_ g_l_] w) : Calls Tryd.prog 18 ⟨[.slice g_l_.a l_.length g_l_.c]⟩ w (fun e w' => ∃ v, e = .returned v ∧ v = .int .i64 r ∧ SH M (fpl [Ent.im tyAnswer l_ g_l_]) w [] w') := by
 rw [r40_Log] at hm
 have hS0 : SH M (fpl [Ent.im tyAnswer l_ g_l_]) w [Ent.im tyAnswer l_ g_l_] w := hS
 generalize hX : fpl [Ent.im tyAnswer l_ g_l_] = X at hS0 ⊢
 clear hS hX
 have hS := hS0
 clear hS0
 refine calls_entryP Tryd.func18 rfl Tryd.ntmps18 rfl fun _ H => ?_
 refine s_reg [] [0] [(0, [], .slice g_l_.a l_.length g_l_.c)] [] H (by kernel_rfl) trivial fun _ wd1 H2 hb => ?_
 clear H
 replace hS := hS.below hb
 clear hb
 refine w_seq ?_
 refine s_reg [] [0, 7] [(0, [], .slice g_l_.a l_.length g_l_.c), (7, [], .bool (decide (60 < (ln l_))))] [] H2 (by kernel_rfl) trivial fun _ wd3 H4 hb => ?_
 clear H2
 replace hS := hS.below hb
 clear hb
 refine w_if H4 rfl (fun hc => ?c29) (fun hc => ?_)
 case c29 =>
  replace hm := bT hc hm
  refine s_reg [] [2] [(2, [], .int .i64 4)] [] H4 (by kernel_rfl) trivial fun _ wd5 H6 hb => ?_
  clear H4
  replace hS := hS.below hb
  clear hb
  replace hS : SH M X w [] _ := hS.sel [] rfl
  refine w_ret ?_
  obtain rfl := someE hm
  exact retR1 H6 rfl rfl ⟨_, rfl, rfl, (hS.sel [] rfl)⟩
 replace hm := bF hc hm
 refine w_skip ?_
 obtain ⟨z7, hz, hm_z7⟩ := bindE hm
 refine w_cut (fun a' w' => ∃ s_z7 : Unit, z7 = Sum.inr s_z7 ∧ Fr 22 [] a' ∧ SH M X w [Ent.im tyAnswer l_ g_l_] w') ?_ ?_
 ·replace hm := hz
  refine s_reg [] [0, 3] [(0, [], .slice g_l_.a l_.length g_l_.c), (3, [], .int .i64 0)] [] H4 (by kernel_rfl) trivial fun _ wd8 H9 hb => ?_
  clear H4
  replace hS := hS.below hb
  clear hb
  refine w_block ?_
  refine w_loop (fun kk a' w' => ∃ (v10 : Int), r40_Log_L1 m l_ kk v10 = some _ ∧ Fr 22 [(0, [], .slice g_l_.a l_.length g_l_.c), (3, [], .int .i64 v10)] a' ∧ SH M X w [Ent.im tyAnswer l_ g_l_] w') ⟨_, 0, hm, FrG.keep (ks := [0, 3]) H9 (by kernel_rfl), hS⟩ ?_
  clear hm H9 hS
  rintro kk _ wd25 ⟨v10, hm, H, hS⟩
  cases kk with
  | zero => exact noneE hm
  | succ kk =>
   rw [r40_Log_L1] at hm
   refine w_seq ?_
   refine s_reg [] [0, 3, 11] [(0, [], .slice g_l_.a l_.length g_l_.c), (3, [], .int .i64 v10), (11, [], .bool (decide (v10 < (ln l_))))] [] H (by kernel_rfl) trivial fun _ wd11 H12 hb => ?_
   clear H
   replace hS := hS.below hb
   clear hb
   refine w_if H12 rfl (fun hc => ?_) (fun hc => ?c24)
   case c24 =>
    replace hm := bF hc hm
    refine w_exit rfl ?_
    obtain rfl := someE hm
    exact ⟨_, rfl, FrG.keep (ks := []) H12 (by kernel_rfl), hS⟩
   replace hm := bT hc hm
   refine w_skip ?_
   refine w_seq ?_
   refine w_block ?_
   obtain ⟨ho13, hm⟩ := chkE hm
   obtain ⟨y14, hy14, hm⟩ := bindE hm
   refine s_reg [(.agg ⟨[.int .i64 ((gi l_ v10).Err), .int .i64 ((gi l_ v10).Num), .slice (g_l_.s (v10).toNat 0).a (((gi l_ v10).Texts).length) (g_l_.s (v10).toNat 0).c, .slice (g_l_.s (v10).toNat 1).a (((gi l_ v10).Numbers).length) (g_l_.s (v10).toNat 1).c]⟩), (.int .i64 y14)] [0, 3, 4] [(0, [], .slice g_l_.a l_.length g_l_.c), (3, [], .int .i64 v10), (4, [], .int .i64 y14)] [fun _ => oka g_l_.a ∧ 0 ≤ v10 ∧ v10 < ln l_, fun wz => V.atN (ab g_l_.a) (ao g_l_.a + (v10).toNat * 4) [.int .i64 ((gi l_ v10).Err), .int .i64 ((gi l_ v10).Num), .slice (g_l_.s (v10).toNat 0).a (((gi l_ v10).Texts).length) (g_l_.s (v10).toNat 0).c, .slice (g_l_.s (v10).toNat 1).a (((gi l_ v10).Numbers).length) (g_l_.s (v10).toNat 1).c] 0 wz, fun wz => RetB Tryd.prog 14 ⟨[.agg ⟨[.int .i64 ((gi l_ v10).Err), .int .i64 ((gi l_ v10).Num), .slice (g_l_.s (v10).toNat 0).a (((gi l_ v10).Texts).length) (g_l_.s (v10).toNat 0).c, .slice (g_l_.s (v10).toNat 1).a (((gi l_ v10).Numbers).length) (g_l_.s (v10).toNat 1).c]⟩]⟩ (.int .i64 y14) wz] H12 (by kernel_rfl) ⟨((hS.im 0 rfl).oki ho13), ((hS.im 0 rfl).atA ho13 0 rfl), (r40_Check_ok (g_a__0 := (g_l_.s (v10).toNat 0)) (g_a__1 := (g_l_.s (v10).toNat 1)) m _ _ hy14 _ (s0im (s0im s0nil (tyAnswer_i1 ((hS.im 0 rfl).el ho13))) (tyAnswer_i0 ((hS.im 0 rfl).el ho13)))), trivial⟩ fun _ wd15 H16 hb => ?_
   clear H12
   replace hS := hS.below hb
   clear hb
   refine s_reg [] [0, 3, 4, 20] [(0, [], .slice g_l_.a l_.length g_l_.c), (3, [], .int .i64 v10), (4, [], .int .i64 y14), (20, [], .bool (y14 != 0))] [] H16 (by kernel_rfl) trivial fun _ wd17 H18 hb => ?_
   clear H16
   replace hS := hS.below hb
   clear hb
   refine w_if H18 rfl (fun hc => ?_) (fun hc => ?c23)
   case c23 =>
    replace hm := bF hc hm
    refine w_skip ?_
    refine w_reg [] [0, 3] [(0, [], .slice g_l_.a l_.length g_l_.c), (3, [], .int .i64 (w64 (v10 + 1)))] [] H18 (by kernel_rfl) trivial fun _ wd21 H22 hb => ?_
    clear H18
    replace hS := hS.below hb
    clear hb
    exact ⟨_, Nat.lt_succ_self _, w64 (v10 + 1), hm, FrG.keep (ks := [0, 3]) H22 (by kernel_rfl), hS⟩
   replace hm := bT hc hm
   refine s_reg [] [2] [(2, [], .int .i64 y14)] [] H18 (by kernel_rfl) trivial fun _ wd19 H20 hb => ?_
   clear H18
   replace hS := hS.below hb
   clear hb
   refine w_ret ?_
   obtain rfl := someE hm
   have hm := hm_z7
   obtain rfl := someE hm
   exact retR1 H20 rfl rfl ⟨_, rfl, rfl, (hS.sel [] rfl)⟩
 ·rintro _ wd28 ⟨s_z7, hz, H, hS⟩
  subst hz
  replace hm := sumR hm_z7
  replace hS : SH M X w [] _ := hS.sel [] rfl
  refine s_reg [] [2] [(2, [], .int .i64 0)] [] H (by kernel_rfl) trivial fun _ wd26 H27 hb => ?_
  clear H
  replace hS := hS.below hb
  clear hb
  refine w_ret ?_
  obtain rfl := someE hm
  exact retR1 H27 rfl rfl ⟨_, rfl, rfl, (hS.sel [] rfl)⟩
theorem r40_Log_ok {g_l_ : Gh} (m : Nat) (l_ : List TAnswer) (r : Int) (hm : r40_Log m l_ = some r) (w : World) (hL : S0 F0 [Ent.im tyAnswer l_ g_l_] w ∧ fpl [Ent.im tyAnswer l_ g_l_] = []) : RetB Tryd.prog 18 ⟨[.slice g_l_.a l_.length g_l_.c]⟩ (.int .i64 r) w := retB_of hL (Tryd.call18 _) (fun w' h => r40_Log_w F0 m   l_ r hm w' h)

theorem answer_check_w {g_l_ : Gh} (M : Av) (m : Nat) (l_ : List TAnswer) (r : Int) (hm : answer_check m l_ = some r) (w : World) (hS : S0 M [Ent.im tyAnswer l_ g_l_] w) : Calls Tryd.prog 36 ⟨[.slice g_l_.a l_.length g_l_.c]⟩ w (fun e w' => ∃ v, e = .returned v ∧ v = .int .i64 r ∧ SH M (fpl [Ent.im tyAnswer l_ g_l_]) w [] w') := by
 rw [answer_check] at hm
 have hS0 : SH M (fpl [Ent.im tyAnswer l_ g_l_]) w [Ent.im tyAnswer l_ g_l_] w := hS
 generalize hX : fpl [Ent.im tyAnswer l_ g_l_] = X at hS0 ⊢
 clear hS hX
 have hS := hS0
 clear hS0
 refine calls_entryP Tryd.func36 rfl Tryd.ntmps36 rfl fun _ H => ?_
 refine s_reg [] [0] [(0, [], .slice g_l_.a l_.length g_l_.c)] [] H (by kernel_rfl) trivial fun _ wd1 H2 hb => ?_
 clear H
 replace hS := hS.below hb
 clear hb
 refine w_seq ?_
 refine s_reg [] [0, 8] [(0, [], .slice g_l_.a l_.length g_l_.c), (8, [], .bool (decide (60 < (ln l_))))] [] H2 (by kernel_rfl) trivial fun _ wd3 H4 hb => ?_
 clear H2
 replace hS := hS.below hb
 clear hb
 refine w_if H4 rfl (fun hc => ?c36) (fun hc => ?_)
 case c36 =>
  replace hm := bT hc hm
  refine s_reg [] [2] [(2, [], .int .i64 4)] [] H4 (by kernel_rfl) trivial fun _ wd5 H6 hb => ?_
  clear H4
  replace hS := hS.below hb
  clear hb
  replace hS : SH M X w [] _ := hS.sel [] rfl
  refine w_ret ?_
  obtain rfl := someE hm
  exact retR1 H6 rfl rfl ⟨_, rfl, rfl, (hS.sel [] rfl)⟩
 replace hm := bF hc hm
 refine w_skip ?_
 obtain ⟨z7, hz, hm_z7⟩ := bindE hm
 refine w_cut (fun a' w' => ∃ s_z7 : Unit, z7 = Sum.inr s_z7 ∧ Fr 21 [] a' ∧ SH M X w [Ent.im tyAnswer l_ g_l_] w') ?_ ?_
 ·replace hm := hz
  refine s_reg [] [9, 10, 11] [(9, [], .slice g_l_.a l_.length g_l_.c), (10, [], .int .i64 (ln l_)), (11, [], .int .i64 0)] [] H4 (by kernel_rfl) trivial fun _ wd8 H9 hb => ?_
  clear H4
  replace hS := hS.below hb
  clear hb
  refine w_block ?_
  refine w_loop (fun kk a' w' => ∃ (v10 : Int), answer_check_L1 m l_ kk v10 = some _ ∧ Fr 21 [(9, [], .slice g_l_.a l_.length g_l_.c), (10, [], .int .i64 (ln l_)), (11, [], .int .i64 v10)] a' ∧ SH M X w [Ent.im tyAnswer l_ g_l_] w') ⟨_, 0, hm, FrG.keep (ks := [9, 10, 11]) H9 (by kernel_rfl), hS⟩ ?_
  clear hm H9 hS
  rintro kk _ wd32 ⟨v10, hm, H, hS⟩
  cases kk with
  | zero => exact noneE hm
  | succ kk =>
   rw [answer_check_L1] at hm
   refine s_reg [] [9, 10, 11, 12] [(9, [], .slice g_l_.a l_.length g_l_.c), (10, [], .int .i64 (ln l_)), (11, [], .int .i64 v10), (12, [], .bool (decide (v10 < (ln l_))))] [] H (by kernel_rfl) trivial fun _ wd11 H12 hb => ?_
   clear H
   replace hS := hS.below hb
   clear hb
   refine w_seq ?_
   refine w_if H12 rfl (fun hc => ?_) (fun hc => ?c31)
   case c31 =>
    replace hm := bF hc hm
    refine w_exit rfl ?_
    obtain rfl := someE hm
    exact ⟨_, rfl, FrG.keep (ks := []) H12 (by kernel_rfl), hS⟩
   replace hm := bT hc hm
   refine w_skip ?_
   refine w_seq ?_
   refine w_block ?_
   refine w_seq ?_
   refine wl_start ?_
   obtain ⟨ho13, hm⟩ := chkE hm
   refine wl_batch 0 2 [(.agg ⟨[.int .i64 ((gi l_ v10).Err), .int .i64 ((gi l_ v10).Num), .slice (g_l_.s (v10).toNat 0).a (((gi l_ v10).Texts).length) (g_l_.s (v10).toNat 0).c, .slice (g_l_.s (v10).toNat 1).a (((gi l_ v10).Numbers).length) (g_l_.s (v10).toNat 1).c]⟩)] [9, 10, 11, 14] [(9, [], .slice g_l_.a l_.length g_l_.c), (10, [], .int .i64 (ln l_)), (11, [], .int .i64 v10), (14, [], .agg ⟨[.int .i64 ((gi l_ v10).Err), .int .i64 ((gi l_ v10).Num), .slice (g_l_.s (v10).toNat 0).a (((gi l_ v10).Texts).length) (g_l_.s (v10).toNat 0).c, .slice (g_l_.s (v10).toNat 1).a (((gi l_ v10).Numbers).length) (g_l_.s (v10).toNat 1).c]⟩)] [fun _ => oka g_l_.a ∧ 0 ≤ v10 ∧ v10 < ln l_, fun wz => V.atN (ab g_l_.a) (ao g_l_.a + (v10).toNat * 4) [.int .i64 ((gi l_ v10).Err), .int .i64 ((gi l_ v10).Num), .slice (g_l_.s (v10).toNat 0).a (((gi l_ v10).Texts).length) (g_l_.s (v10).toNat 0).c, .slice (g_l_.s (v10).toNat 1).a (((gi l_ v10).Numbers).length) (g_l_.s (v10).toNat 1).c] 0 wz] H12 (by decide) (by kernel_rfl) ⟨((hS.im 0 rfl).oki ho13), ((hS.im 0 rfl).atA ho13 0 rfl), trivial⟩ fun _ wd14 H15 hb => ?_
   clear H12
   replace hS := hS.below hb
   clear hb
   have hd := hS.hand [] [0] rfl rfl
   refine m_stp [4, 9, 10, 11, 14] [(9, [], .slice g_l_.a l_.length g_l_.c), (10, [], .int .i64 (ln l_)), (11, [], .int .i64 v10), (14, [], .agg ⟨[.int .i64 ((gi l_ v10).Err), .int .i64 ((gi l_ v10).Num), .slice (g_l_.s (v10).toNat 0).a (((gi l_ v10).Texts).length) (g_l_.s (v10).toNat 0).c, .slice (g_l_.s (v10).toNat 1).a (((gi l_ v10).Numbers).length) (g_l_.s (v10).toNat 1).c]⟩)] H15 rfl rfl rfl rfl (o_alloc [.int .i64 0, .int .i64 0, .slice none 0 0, .slice none 0 0] (z := .agg ⟨[.int .i64 0, .int .i64 0, .slice none 0 0, .slice none 0 0]⟩) hd (by kernel_rfl) rfl) (fun _ => rfl) fun _ wd17 v H18 hq => ?_
   clear H15 hd
   obtain ⟨b16, rfl, hq⟩ := hq
   replace hS : SH M X w [Ent.blk b16 [.int .i64 0, .int .i64 0, .slice none 0 0, .slice none 0 0], Ent.im tyAnswer l_ g_l_] _ := hS.join [] [0] rfl rfl hq
   clear hq
   have hd := hS.hand [0] [1] rfl rfl
   refine m_stp0 [4, 9, 10, 11] [(4, [], .pointer (some ⟨b16, 0, none⟩)), (9, [], .slice g_l_.a l_.length g_l_.c), (10, [], .int .i64 (ln l_)), (11, [], .int .i64 v10)] H18 rfl rfl rfl (o_store [.int .i64 ((gi l_ v10).Err), .int .i64 ((gi l_ v10).Num), .slice (g_l_.s (v10).toNat 0).a (((gi l_ v10).Texts).length) (g_l_.s (v10).toNat 0).c, .slice (g_l_.s (v10).toNat 1).a (((gi l_ v10).Numbers).length) (g_l_.s (v10).toNat 1).c] H18 hd rfl rfl (by kernel_rfl) rfl rfl rfl) rfl fun _ wd19 H20 hq => ?_
   clear H18 hd
   obtain ⟨_, hq⟩ := hq
   replace hS : SH M X w [Ent.blk b16 [.int .i64 ((gi l_ v10).Err), .int .i64 ((gi l_ v10).Num), .slice (g_l_.s (v10).toNat 0).a (((gi l_ v10).Texts).length) (g_l_.s (v10).toNat 0).c, .slice (g_l_.s (v10).toNat 1).a (((gi l_ v10).Numbers).length) (g_l_.s (v10).toNat 1).c], Ent.im tyAnswer l_ g_l_] _ := hS.join [0] [1] rfl rfl hq
   clear hq
   refine wl_end rfl ?_
   obtain ⟨y21, hy21, hm⟩ := bindE hm
   refine s_reg [(.agg ⟨[.int .i64 ((gi l_ v10).Err), .int .i64 ((gi l_ v10).Num), .slice (g_l_.s (v10).toNat 0).a (((gi l_ v10).Texts).length) (g_l_.s (v10).toNat 0).c, .slice (g_l_.s (v10).toNat 1).a (((gi l_ v10).Numbers).length) (g_l_.s (v10).toNat 1).c]⟩), (.int .i64 y21)] [5, 9, 10, 11] [(5, [], .int .i64 y21), (9, [], .slice g_l_.a l_.length g_l_.c), (10, [], .int .i64 (ln l_)), (11, [], .int .i64 v10)] [fun wz => V.atN b16 0 [.int .i64 ((gi l_ v10).Err), .int .i64 ((gi l_ v10).Num), .slice (g_l_.s (v10).toNat 0).a (((gi l_ v10).Texts).length) (g_l_.s (v10).toNat 0).c, .slice (g_l_.s (v10).toNat 1).a (((gi l_ v10).Numbers).length) (g_l_.s (v10).toNat 1).c] 0 wz, fun wz => RetB Tryd.prog 13 ⟨[.agg ⟨[.int .i64 ((gi l_ v10).Err), .int .i64 ((gi l_ v10).Num), .slice (g_l_.s (v10).toNat 0).a (((gi l_ v10).Texts).length) (g_l_.s (v10).toNat 0).c, .slice (g_l_.s (v10).toNat 1).a (((gi l_ v10).Numbers).length) (g_l_.s (v10).toNat 1).c]⟩]⟩ (.int .i64 y21) wz] H20 (by kernel_rfl) ⟨((hS.bk 0 rfl).atD rfl), (answer_Check_ok (g_a__0 := (g_l_.s (v10).toNat 0)) (g_a__1 := (g_l_.s (v10).toNat 1)) m _ _ hy21 _ (s0im (s0im s0nil (tyAnswer_i1 ((hS.im 1 rfl).el ho13))) (tyAnswer_i0 ((hS.im 1 rfl).el ho13)))), trivial⟩ fun _ wd22 H23 hb => ?_
   clear H20
   replace hS := hS.below hb
   clear hb
   replace hS : SH M X w [Ent.im tyAnswer l_ g_l_] _ := hS.sel [1] rfl
   refine s_reg [] [5, 9, 10, 11, 18] [(5, [], .int .i64 y21), (9, [], .slice g_l_.a l_.length g_l_.c), (10, [], .int .i64 (ln l_)), (11, [], .int .i64 v10), (18, [], .bool (y21 != 0))] [] H23 (by kernel_rfl) trivial fun _ wd24 H25 hb => ?_
   clear H23
   replace hS := hS.below hb
   clear hb
   refine w_if H25 rfl (fun hc => ?_) (fun hc => ?c30)
   case c30 =>
    replace hm := bF hc hm
    refine w_skip ?_
    refine w_reg [] [9, 10, 11] [(9, [], .slice g_l_.a l_.length g_l_.c), (10, [], .int .i64 (ln l_)), (11, [], .int .i64 (w64 (v10 + 1)))] [] H25 (by kernel_rfl) trivial fun _ wd28 H29 hb => ?_
    clear H25
    replace hS := hS.below hb
    clear hb
    exact ⟨_, Nat.lt_succ_self _, w64 (v10 + 1), hm, FrG.keep (ks := [9, 10, 11]) H29 (by kernel_rfl), hS⟩
   replace hm := bT hc hm
   refine s_reg [] [2] [(2, [], .int .i64 y21)] [] H25 (by kernel_rfl) trivial fun _ wd26 H27 hb => ?_
   clear H25
   replace hS := hS.below hb
   clear hb
   refine w_ret ?_
   obtain rfl := someE hm
   have hm := hm_z7
   obtain rfl := someE hm
   exact retR1 H27 rfl rfl ⟨_, rfl, rfl, (hS.sel [] rfl)⟩
 ·rintro _ wd35 ⟨s_z7, hz, H, hS⟩
  subst hz
  replace hm := sumR hm_z7
  replace hS : SH M X w [] _ := hS.sel [] rfl
  refine s_reg [] [2] [(2, [], .int .i64 0)] [] H (by kernel_rfl) trivial fun _ wd33 H34 hb => ?_
  clear H
  replace hS := hS.below hb
  clear hb
  refine w_ret ?_
  obtain rfl := someE hm
  exact retR1 H34 rfl rfl ⟨_, rfl, rfl, (hS.sel [] rfl)⟩
theorem answer_check_ok {g_l_ : Gh} (m : Nat) (l_ : List TAnswer) (r : Int) (hm : answer_check m l_ = some r) (w : World) (hL : S0 F0 [Ent.im tyAnswer l_ g_l_] w ∧ fpl [Ent.im tyAnswer l_ g_l_] = []) : RetB Tryd.prog 36 ⟨[.slice g_l_.a l_.length g_l_.c]⟩ (.int .i64 r) w := retB_of hL (Tryd.call36 _) (fun w' h => answer_check_w F0 m   l_ r hm w' h)

theorem slices_Equal_string_string_w {g_s1 : Gh} {g_s2 : Gh} (M : Av) (m : Nat) (s1 : List Str) (s2 : List Str) (r : Bool) (hm : slices_Equal_string_string m s1 s2 = some r) (w : World) (hS : S0 M [Ent.im tS s1 g_s1, Ent.im tS s2 g_s2] w) : Calls Tryd.prog 60 ⟨[.slice g_s1.a s1.length g_s1.c, .slice g_s2.a s2.length g_s2.c]⟩ w (fun e w' => ∃ v, e = .returned v ∧ v = .bool r ∧ SH M (fpl [Ent.im tS s1 g_s1, Ent.im tS s2 g_s2]) w [] w') := by
 rw [slices_Equal_string_string] at hm
 have hS0 : SH M (fpl [Ent.im tS s1 g_s1, Ent.im tS s2 g_s2]) w [Ent.im tS s1 g_s1, Ent.im tS s2 g_s2] w := hS
 generalize hX : fpl [Ent.im tS s1 g_s1, Ent.im tS s2 g_s2] = X at hS0 ⊢
 clear hS hX
 have hS := hS0
 clear hS0
 refine calls_entryP Tryd.func60 rfl Tryd.ntmps60 rfl fun _ H => ?_
 refine s_reg [] [0, 1] [(0, [], .slice g_s1.a s1.length g_s1.c), (1, [], .slice g_s2.a s2.length g_s2.c)] [] H (by kernel_rfl) trivial fun _ wd1 H2 hb => ?_
 clear H
 replace hS := hS.below hb
 clear hb
 refine w_seq ?_
 refine s_reg [] [0, 1, 10] [(0, [], .slice g_s1.a s1.length g_s1.c), (1, [], .slice g_s2.a s2.length g_s2.c), (10, [], .bool ((ln s1) != (ln s2)))] [] H2 (by kernel_rfl) trivial fun _ wd3 H4 hb => ?_
 clear H2
 replace hS := hS.below hb
 clear hb
 refine w_if H4 rfl (fun hc => ?c29) (fun hc => ?_)
 case c29 =>
  replace hm := bT hc hm
  refine s_reg [] [4] [(4, [], .bool false)] [] H4 (by kernel_rfl) trivial fun _ wd5 H6 hb => ?_
  clear H4
  replace hS := hS.below hb
  clear hb
  replace hS : SH M X w [] _ := hS.sel [] rfl
  refine w_ret ?_
  obtain rfl := someE hm
  exact retR1 H6 rfl rfl ⟨_, rfl, rfl, (hS.sel [] rfl)⟩
 replace hm := bF hc hm
 refine w_skip ?_
 obtain ⟨z7, hz, hm_z7⟩ := bindE hm
 refine w_cut (fun a' w' => ∃ s_z7 : Unit, z7 = Sum.inr s_z7 ∧ Fr 26 [] a' ∧ SH M X w [Ent.im tS s1 g_s1, Ent.im tS s2 g_s2] w') ?_ ?_
 ·replace hm := hz
  refine s_reg [] [0, 1, 12, 13] [(0, [], .slice g_s1.a s1.length g_s1.c), (1, [], .slice g_s2.a s2.length g_s2.c), (12, [], .int .i64 (ln s1)), (13, [], .int .i64 0)] [] H4 (by kernel_rfl) trivial fun _ wd8 H9 hb => ?_
  clear H4
  replace hS := hS.below hb
  clear hb
  refine w_block ?_
  refine w_loop (fun kk a' w' => ∃ (v10 : Int), slices_Equal_string_string_L1 m s1 s2 kk v10 = some _ ∧ Fr 26 [(0, [], .slice g_s1.a s1.length g_s1.c), (1, [], .slice g_s2.a s2.length g_s2.c), (12, [], .int .i64 (ln s1)), (13, [], .int .i64 v10)] a' ∧ SH M X w [Ent.im tS s1 g_s1, Ent.im tS s2 g_s2] w') ⟨_, 0, hm, FrG.keep (ks := [0, 1, 12, 13]) H9 (by kernel_rfl), hS⟩ ?_
  clear hm H9 hS
  rintro kk _ wd25 ⟨v10, hm, H, hS⟩
  cases kk with
  | zero => exact noneE hm
  | succ kk =>
   rw [slices_Equal_string_string_L1] at hm
   refine s_reg [] [0, 1, 12, 13, 14] [(0, [], .slice g_s1.a s1.length g_s1.c), (1, [], .slice g_s2.a s2.length g_s2.c), (12, [], .int .i64 (ln s1)), (13, [], .int .i64 v10), (14, [], .bool (decide (v10 < (ln s1))))] [] H (by kernel_rfl) trivial fun _ wd11 H12 hb => ?_
   clear H
   replace hS := hS.below hb
   clear hb
   refine w_seq ?_
   refine w_if H12 rfl (fun hc => ?_) (fun hc => ?c24)
   case c24 =>
    replace hm := bF hc hm
    refine w_exit rfl ?_
    obtain rfl := someE hm
    exact ⟨_, rfl, FrG.keep (ks := []) H12 (by kernel_rfl), hS⟩
   replace hm := bT hc hm
   refine w_skip ?_
   refine w_seq ?_
   refine w_block ?_
   refine s_reg [] [0, 1, 5, 12, 13] [(0, [], .slice g_s1.a s1.length g_s1.c), (1, [], .slice g_s2.a s2.length g_s2.c), (5, [], .int .i64 v10), (12, [], .int .i64 (ln s1)), (13, [], .int .i64 v10)] [] H12 (by kernel_rfl) trivial fun _ wd13 H14 hb => ?_
   clear H12
   replace hS := hS.below hb
   clear hb
   obtain ⟨ho15, hm⟩ := chkE hm
   obtain ⟨ho16, hm⟩ := chkE hm
   refine s_draw [(.string ⟨⟨(gi s1 v10)⟩⟩), (.string ⟨⟨(gi s2 v10)⟩⟩)] [0, 1, 12, 13, 24] [(0, [], .slice g_s1.a s1.length g_s1.c), (1, [], .slice g_s2.a s2.length g_s2.c), (12, [], .int .i64 (ln s1)), (13, [], .int .i64 v10), (24, [], .bool (!((gi s1 v10) == (gi s2 v10))))] [fun _ => oka g_s1.a ∧ 0 ≤ v10 ∧ v10 < ln s1, fun wz => V.at1 ⟨ab g_s1.a, ao g_s1.a + (v10).toNat * 1, none⟩ (.string ⟨⟨(gi s1 v10)⟩⟩) wz, fun _ => oka g_s2.a ∧ 0 ≤ v10 ∧ v10 < ln s2, fun wz => V.at1 ⟨ab g_s2.a, ao g_s2.a + (v10).toNat * 1, none⟩ (.string ⟨⟨(gi s2 v10)⟩⟩) wz] H14 (by kernel_rfl) (by kernel_rfl) (by kernel_rfl) ⟨((hS.im 0 rfl).oki ho15), ((hS.im 0 rfl).at1 ho15 0 rfl), ((hS.im 1 rfl).oki ho16), ((hS.im 1 rfl).at1 ho16 0 rfl), trivial⟩ fun _ wd17 H18 hb => ?_
   clear H14
   replace hS := hS.below hb
   clear hb
   refine w_if H18 rfl (fun hc => ?_) (fun hc => ?c23)
   case c23 =>
    replace hm := bF hc hm
    refine w_skip ?_
    refine w_reg [] [0, 1, 12, 13] [(0, [], .slice g_s1.a s1.length g_s1.c), (1, [], .slice g_s2.a s2.length g_s2.c), (12, [], .int .i64 (ln s1)), (13, [], .int .i64 (w64 (v10 + 1)))] [] H18 (by kernel_rfl) trivial fun _ wd21 H22 hb => ?_
    clear H18
    replace hS := hS.below hb
    clear hb
    exact ⟨_, Nat.lt_succ_self _, w64 (v10 + 1), hm, FrG.keep (ks := [0, 1, 12, 13]) H22 (by kernel_rfl), hS⟩
   replace hm := bT hc hm
   refine s_reg [] [4] [(4, [], .bool false)] [] H18 (by kernel_rfl) trivial fun _ wd19 H20 hb => ?_
   clear H18
   replace hS := hS.below hb
   clear hb
   refine w_ret ?_
   obtain rfl := someE hm
   have hm := hm_z7
   obtain rfl := someE hm
   exact retR1 H20 rfl rfl ⟨_, rfl, rfl, (hS.sel [] rfl)⟩
 ·rintro _ wd28 ⟨s_z7, hz, H, hS⟩
  subst hz
  replace hm := sumR hm_z7
  replace hS : SH M X w [] _ := hS.sel [] rfl
  refine s_reg [] [4] [(4, [], .bool true)] [] H (by kernel_rfl) trivial fun _ wd26 H27 hb => ?_
  clear H
  replace hS := hS.below hb
  clear hb
  refine w_ret ?_
  obtain rfl := someE hm
  exact retR1 H27 rfl rfl ⟨_, rfl, rfl, (hS.sel [] rfl)⟩
theorem slices_Equal_string_string_ok {g_s1 : Gh} {g_s2 : Gh} (m : Nat) (s1 : List Str) (s2 : List Str) (r : Bool) (hm : slices_Equal_string_string m s1 s2 = some r) (w : World) (hL : S0 F0 [Ent.im tS s1 g_s1, Ent.im tS s2 g_s2] w ∧ fpl [Ent.im tS s1 g_s1, Ent.im tS s2 g_s2] = []) : RetB Tryd.prog 60 ⟨[.slice g_s1.a s1.length g_s1.c, .slice g_s2.a s2.length g_s2.c]⟩ (.bool r) w := retB_of hL (Tryd.call60 _) (fun w' h => slices_Equal_string_string_w F0 m   s1 s2 r hm w' h)

theorem slices_Equal_int_int_w {g_s1 : Gh} {g_s2 : Gh} (M : Av) (m : Nat) (s1 : List Int) (s2 : List Int) (r : Bool) (hm : slices_Equal_int_int m s1 s2 = some r) (w : World) (hS : S0 M [Ent.im (tI .i64) s1 g_s1, Ent.im (tI .i64) s2 g_s2] w) : Calls Tryd.prog 61 ⟨[.slice g_s1.a s1.length g_s1.c, .slice g_s2.a s2.length g_s2.c]⟩ w (fun e w' => ∃ v, e = .returned v ∧ v = .bool r ∧ SH M (fpl [Ent.im (tI .i64) s1 g_s1, Ent.im (tI .i64) s2 g_s2]) w [] w') := by
 rw [slices_Equal_int_int] at hm
 have hS0 : SH M (fpl [Ent.im (tI .i64) s1 g_s1, Ent.im (tI .i64) s2 g_s2]) w [Ent.im (tI .i64) s1 g_s1, Ent.im (tI .i64) s2 g_s2] w := hS
 generalize hX : fpl [Ent.im (tI .i64) s1 g_s1, Ent.im (tI .i64) s2 g_s2] = X at hS0 ⊢
 clear hS hX
 have hS := hS0
 clear hS0
 refine calls_entryP Tryd.func61 rfl Tryd.ntmps61 rfl fun _ H => ?_
 refine s_reg [] [0, 1] [(0, [], .slice g_s1.a s1.length g_s1.c), (1, [], .slice g_s2.a s2.length g_s2.c)] [] H (by kernel_rfl) trivial fun _ wd1 H2 hb => ?_
 clear H
 replace hS := hS.below hb
 clear hb
 refine w_seq ?_
 refine s_reg [] [0, 1, 10] [(0, [], .slice g_s1.a s1.length g_s1.c), (1, [], .slice g_s2.a s2.length g_s2.c), (10, [], .bool ((ln s1) != (ln s2)))] [] H2 (by kernel_rfl) trivial fun _ wd3 H4 hb => ?_
 clear H2
 replace hS := hS.below hb
 clear hb
 refine w_if H4 rfl (fun hc => ?c29) (fun hc => ?_)
 case c29 =>
  replace hm := bT hc hm
  refine s_reg [] [4] [(4, [], .bool false)] [] H4 (by kernel_rfl) trivial fun _ wd5 H6 hb => ?_
  clear H4
  replace hS := hS.below hb
  clear hb
  replace hS : SH M X w [] _ := hS.sel [] rfl
  refine w_ret ?_
  obtain rfl := someE hm
  exact retR1 H6 rfl rfl ⟨_, rfl, rfl, (hS.sel [] rfl)⟩
 replace hm := bF hc hm
 refine w_skip ?_
 obtain ⟨z7, hz, hm_z7⟩ := bindE hm
 refine w_cut (fun a' w' => ∃ s_z7 : Unit, z7 = Sum.inr s_z7 ∧ Fr 26 [] a' ∧ SH M X w [Ent.im (tI .i64) s1 g_s1, Ent.im (tI .i64) s2 g_s2] w') ?_ ?_
 ·replace hm := hz
  refine s_reg [] [0, 1, 12, 13] [(0, [], .slice g_s1.a s1.length g_s1.c), (1, [], .slice g_s2.a s2.length g_s2.c), (12, [], .int .i64 (ln s1)), (13, [], .int .i64 0)] [] H4 (by kernel_rfl) trivial fun _ wd8 H9 hb => ?_
  clear H4
  replace hS := hS.below hb
  clear hb
  refine w_block ?_
  refine w_loop (fun kk a' w' => ∃ (v10 : Int), slices_Equal_int_int_L1 m s1 s2 kk v10 = some _ ∧ Fr 26 [(0, [], .slice g_s1.a s1.length g_s1.c), (1, [], .slice g_s2.a s2.length g_s2.c), (12, [], .int .i64 (ln s1)), (13, [], .int .i64 v10)] a' ∧ SH M X w [Ent.im (tI .i64) s1 g_s1, Ent.im (tI .i64) s2 g_s2] w') ⟨_, 0, hm, FrG.keep (ks := [0, 1, 12, 13]) H9 (by kernel_rfl), hS⟩ ?_
  clear hm H9 hS
  rintro kk _ wd25 ⟨v10, hm, H, hS⟩
  cases kk with
  | zero => exact noneE hm
  | succ kk =>
   rw [slices_Equal_int_int_L1] at hm
   refine s_reg [] [0, 1, 12, 13, 14] [(0, [], .slice g_s1.a s1.length g_s1.c), (1, [], .slice g_s2.a s2.length g_s2.c), (12, [], .int .i64 (ln s1)), (13, [], .int .i64 v10), (14, [], .bool (decide (v10 < (ln s1))))] [] H (by kernel_rfl) trivial fun _ wd11 H12 hb => ?_
   clear H
   replace hS := hS.below hb
   clear hb
   refine w_seq ?_
   refine w_if H12 rfl (fun hc => ?_) (fun hc => ?c24)
   case c24 =>
    replace hm := bF hc hm
    refine w_exit rfl ?_
    obtain rfl := someE hm
    exact ⟨_, rfl, FrG.keep (ks := []) H12 (by kernel_rfl), hS⟩
   replace hm := bT hc hm
   refine w_skip ?_
   refine w_seq ?_
   refine w_block ?_
   refine s_reg [] [0, 1, 5, 12, 13] [(0, [], .slice g_s1.a s1.length g_s1.c), (1, [], .slice g_s2.a s2.length g_s2.c), (5, [], .int .i64 v10), (12, [], .int .i64 (ln s1)), (13, [], .int .i64 v10)] [] H12 (by kernel_rfl) trivial fun _ wd13 H14 hb => ?_
   clear H12
   replace hS := hS.below hb
   clear hb
   obtain ⟨ho15, hm⟩ := chkE hm
   obtain ⟨ho16, hm⟩ := chkE hm
   refine s_draw [(.int .i64 (gi s1 v10)), (.int .i64 (gi s2 v10))] [0, 1, 12, 13, 24] [(0, [], .slice g_s1.a s1.length g_s1.c), (1, [], .slice g_s2.a s2.length g_s2.c), (12, [], .int .i64 (ln s1)), (13, [], .int .i64 v10), (24, [], .bool ((gi s1 v10) != (gi s2 v10)))] [fun _ => oka g_s1.a ∧ 0 ≤ v10 ∧ v10 < ln s1, fun wz => V.at1 ⟨ab g_s1.a, ao g_s1.a + (v10).toNat * 1, none⟩ (.int .i64 (gi s1 v10)) wz, fun _ => oka g_s2.a ∧ 0 ≤ v10 ∧ v10 < ln s2, fun wz => V.at1 ⟨ab g_s2.a, ao g_s2.a + (v10).toNat * 1, none⟩ (.int .i64 (gi s2 v10)) wz] H14 (by kernel_rfl) (by kernel_rfl) (by kernel_rfl) ⟨((hS.im 0 rfl).oki ho15), ((hS.im 0 rfl).at1 ho15 0 rfl), ((hS.im 1 rfl).oki ho16), ((hS.im 1 rfl).at1 ho16 0 rfl), trivial⟩ fun _ wd17 H18 hb => ?_
   clear H14
   replace hS := hS.below hb
   clear hb
   refine w_if H18 rfl (fun hc => ?_) (fun hc => ?c23)
   case c23 =>
    replace hm := bF hc hm
    refine w_skip ?_
    refine w_reg [] [0, 1, 12, 13] [(0, [], .slice g_s1.a s1.length g_s1.c), (1, [], .slice g_s2.a s2.length g_s2.c), (12, [], .int .i64 (ln s1)), (13, [], .int .i64 (w64 (v10 + 1)))] [] H18 (by kernel_rfl) trivial fun _ wd21 H22 hb => ?_
    clear H18
    replace hS := hS.below hb
    clear hb
    exact ⟨_, Nat.lt_succ_self _, w64 (v10 + 1), hm, FrG.keep (ks := [0, 1, 12, 13]) H22 (by kernel_rfl), hS⟩
   replace hm := bT hc hm
   refine s_reg [] [4] [(4, [], .bool false)] [] H18 (by kernel_rfl) trivial fun _ wd19 H20 hb => ?_
   clear H18
   replace hS := hS.below hb
   clear hb
   refine w_ret ?_
   obtain rfl := someE hm
   have hm := hm_z7
   obtain rfl := someE hm
   exact retR1 H20 rfl rfl ⟨_, rfl, rfl, (hS.sel [] rfl)⟩
 ·rintro _ wd28 ⟨s_z7, hz, H, hS⟩
  subst hz
  replace hm := sumR hm_z7
  replace hS : SH M X w [] _ := hS.sel [] rfl
  refine s_reg [] [4] [(4, [], .bool true)] [] H (by kernel_rfl) trivial fun _ wd26 H27 hb => ?_
  clear H
  replace hS := hS.below hb
  clear hb
  refine w_ret ?_
  obtain rfl := someE hm
  exact retR1 H27 rfl rfl ⟨_, rfl, rfl, (hS.sel [] rfl)⟩
theorem slices_Equal_int_int_ok {g_s1 : Gh} {g_s2 : Gh} (m : Nat) (s1 : List Int) (s2 : List Int) (r : Bool) (hm : slices_Equal_int_int m s1 s2 = some r) (w : World) (hL : S0 F0 [Ent.im (tI .i64) s1 g_s1, Ent.im (tI .i64) s2 g_s2] w ∧ fpl [Ent.im (tI .i64) s1 g_s1, Ent.im (tI .i64) s2 g_s2] = []) : RetB Tryd.prog 61 ⟨[.slice g_s1.a s1.length g_s1.c, .slice g_s2.a s2.length g_s2.c]⟩ (.bool r) w := retB_of hL (Tryd.call61 _) (fun w' h => slices_Equal_int_int_w F0 m   s1 s2 r hm w' h)

theorem answer_same_w {g_a__0 : Gh} {g_a__1 : Gh} {g_b__0 : Gh} {g_b__1 : Gh} (M : Av) (m : Nat) (a_ : TAnswer) (b_ : TAnswer) (r : Bool) (hm : answer_same m a_ b_ = some r) (w : World) (hS : S0 M [Ent.im tS a_.Texts g_a__0, Ent.im (tI .i64) a_.Numbers g_a__1, Ent.im tS b_.Texts g_b__0, Ent.im (tI .i64) b_.Numbers g_b__1] w) : Calls Tryd.prog 37 ⟨[.agg ⟨[.int .i64 a_.Err, .int .i64 a_.Num, .slice g_a__0.a a_.Texts.length g_a__0.c, .slice g_a__1.a a_.Numbers.length g_a__1.c]⟩, .agg ⟨[.int .i64 b_.Err, .int .i64 b_.Num, .slice g_b__0.a b_.Texts.length g_b__0.c, .slice g_b__1.a b_.Numbers.length g_b__1.c]⟩]⟩ w (fun e w' => ∃ v, e = .returned v ∧ v = .bool r ∧ SH M (fpl [Ent.im tS a_.Texts g_a__0, Ent.im (tI .i64) a_.Numbers g_a__1, Ent.im tS b_.Texts g_b__0, Ent.im (tI .i64) b_.Numbers g_b__1]) w [] w') := by
 rw [answer_same] at hm
 have hS0 : SH M (fpl [Ent.im tS a_.Texts g_a__0, Ent.im (tI .i64) a_.Numbers g_a__1, Ent.im tS b_.Texts g_b__0, Ent.im (tI .i64) b_.Numbers g_b__1]) w [Ent.im tS a_.Texts g_a__0, Ent.im (tI .i64) a_.Numbers g_a__1, Ent.im tS b_.Texts g_b__0, Ent.im (tI .i64) b_.Numbers g_b__1] w := hS
 generalize hX : fpl [Ent.im tS a_.Texts g_a__0, Ent.im (tI .i64) a_.Numbers g_a__1, Ent.im tS b_.Texts g_b__0, Ent.im (tI .i64) b_.Numbers g_b__1] = X at hS0 ⊢
 clear hS hX
 have hS := hS0
 clear hS0
 refine calls_entryP Tryd.func37 rfl Tryd.ntmps37 rfl fun _ H => ?_
 refine w_seq ?_
 refine wl_start ?_
 have hd := hS.hand [] [0, 1, 2, 3] rfl rfl
 refine m_stp [2, 1] [(1, [], .agg ⟨[.int .i64 b_.Err, .int .i64 b_.Num, .slice g_b__0.a b_.Texts.length g_b__0.c, .slice g_b__1.a b_.Numbers.length g_b__1.c]⟩)] H rfl rfl rfl rfl (o_box [.int .i64 a_.Err, .int .i64 a_.Num, .slice g_a__0.a a_.Texts.length g_a__0.c, .slice g_a__1.a a_.Numbers.length g_a__1.c] H hd rfl rfl) (fun _ => rfl) fun _ wd2 v H3 hq => ?_
 clear H hd
 obtain ⟨b1, rfl, hq⟩ := hq
 replace hS : SH M X w [Ent.blk b1 [.int .i64 a_.Err, .int .i64 a_.Num, .slice g_a__0.a a_.Texts.length g_a__0.c, .slice g_a__1.a a_.Numbers.length g_a__1.c], Ent.im tS a_.Texts g_a__0, Ent.im (tI .i64) a_.Numbers g_a__1, Ent.im tS b_.Texts g_b__0, Ent.im (tI .i64) b_.Numbers g_b__1] _ := hS.join [] [0, 1, 2, 3] rfl rfl hq
 clear hq
 have hd := hS.hand [] [0, 1, 2, 3, 4] rfl rfl
 refine m_stp [3, 2] [(2, [], .pointer (some ⟨b1, 0, none⟩))] H3 rfl rfl rfl rfl (o_box [.int .i64 b_.Err, .int .i64 b_.Num, .slice g_b__0.a b_.Texts.length g_b__0.c, .slice g_b__1.a b_.Numbers.length g_b__1.c] H3 hd rfl rfl) (fun _ => rfl) fun _ wd5 v H6 hq => ?_
 clear H3 hd
 obtain ⟨b4, rfl, hq⟩ := hq
 replace hS : SH M X w [Ent.blk b4 [.int .i64 b_.Err, .int .i64 b_.Num, .slice g_b__0.a b_.Texts.length g_b__0.c, .slice g_b__1.a b_.Numbers.length g_b__1.c], Ent.blk b1 [.int .i64 a_.Err, .int .i64 a_.Num, .slice g_a__0.a a_.Texts.length g_a__0.c, .slice g_a__1.a a_.Numbers.length g_a__1.c], Ent.im tS a_.Texts g_a__0, Ent.im (tI .i64) a_.Numbers g_a__1, Ent.im tS b_.Texts g_b__0, Ent.im (tI .i64) b_.Numbers g_b__1] _ := hS.join [] [0, 1, 2, 3, 4] rfl rfl hq
 clear hq
 refine wl_batch 2 3 [] [2, 3] [(2, [], .pointer (some ⟨b1, 0, none⟩)), (3, [], .pointer (some ⟨b4, 0, none⟩))] [] H6 (by decide) (by kernel_rfl) trivial fun _ wd7 H8 hb => ?_
 clear H6
 replace hS := hS.below hb
 clear hb
 refine wl_end rfl ?_
 obtain ⟨x9, hx9, hm⟩ := letE hm
 obtain ⟨y10, hy10, hm⟩ := bindE hm
 obtain ⟨y11, hy11, hm⟩ := bindE hm
 refine s_reg [(.int .i64 a_.Err), (.int .i64 b_.Err), (.int .i64 a_.Num), (.int .i64 b_.Num), (.slice g_a__0.a a_.Texts.length g_a__0.c), (.slice g_b__0.a b_.Texts.length g_b__0.c), (.bool y10), (.slice g_a__1.a a_.Numbers.length g_a__1.c), (.slice g_b__1.a b_.Numbers.length g_b__1.c), (.bool y11)] [4] [(4, [], .bool (cond (cond x9 y10 false) y11 false))] [fun wz => V.at1 ⟨b1, 0, none⟩ (.int .i64 a_.Err) wz, fun wz => V.at1 ⟨b4, 0, none⟩ (.int .i64 b_.Err) wz, fun wz => ((a_.Err == b_.Err) = true ∧ True → V.at1 ⟨b1, 1, none⟩ (.int .i64 a_.Num) wz), fun wz => ((a_.Err == b_.Err) = true ∧ True → V.at1 ⟨b4, 1, none⟩ (.int .i64 b_.Num) wz), fun wz => (x9 = true ∧ True → V.at1 ⟨b1, 2, none⟩ (.slice g_a__0.a a_.Texts.length g_a__0.c) wz), fun wz => (x9 = true ∧ True → V.at1 ⟨b4, 2, none⟩ (.slice g_b__0.a b_.Texts.length g_b__0.c) wz), fun wz => (x9 = true ∧ True → RetB Tryd.prog 60 ⟨[.slice g_a__0.a a_.Texts.length g_a__0.c, .slice g_b__0.a b_.Texts.length g_b__0.c]⟩ (.bool y10) wz), fun wz => ((cond x9 y10 false) = true ∧ True → V.at1 ⟨b1, 3, none⟩ (.slice g_a__1.a a_.Numbers.length g_a__1.c) wz), fun wz => ((cond x9 y10 false) = true ∧ True → V.at1 ⟨b4, 3, none⟩ (.slice g_b__1.a b_.Numbers.length g_b__1.c) wz), fun wz => ((cond x9 y10 false) = true ∧ True → RetB Tryd.prog 61 ⟨[.slice g_a__1.a a_.Numbers.length g_a__1.c, .slice g_b__1.a b_.Numbers.length g_b__1.c]⟩ (.bool y11) wz)] H8 (by subst hx9; kernel_rfl) ⟨((hS.bk 1 rfl).at1 rfl), ((hS.bk 0 rfl).at1 rfl), fun hg => (hS.bk 1 rfl).at1 rfl, fun hg => (hS.bk 0 rfl).at1 rfl, fun hg => (hS.bk 1 rfl).at1 rfl, fun hg => (hS.bk 0 rfl).at1 rfl, fun hg => slices_Equal_string_string_ok (g_s1 := g_a__0) (g_s2 := g_b__0) m _ _ _ (bT (hg.1) hy10) _ (s0im (s0im s0nil (hS.im 4 rfl)) (hS.im 2 rfl)), fun hg => (hS.bk 1 rfl).at1 rfl, fun hg => (hS.bk 0 rfl).at1 rfl, fun hg => slices_Equal_int_int_ok (g_s1 := g_a__1) (g_s2 := g_b__1) m _ _ _ (bT (hg.1) hy11) _ (s0im (s0im s0nil (hS.im 5 rfl)) (hS.im 3 rfl)), trivial⟩ fun _ wd12 H13 hb => ?_
 clear H8
 replace hS := hS.below hb
 clear hb
 replace hS : SH M X w [] _ := hS.sel [] rfl
 refine w_ret ?_
 obtain rfl := someE hm
 exact retR1 H13 rfl rfl ⟨_, rfl, rfl, (hS.sel [] rfl)⟩
theorem answer_same_ok {g_a__0 : Gh} {g_a__1 : Gh} {g_b__0 : Gh} {g_b__1 : Gh} (m : Nat) (a_ : TAnswer) (b_ : TAnswer) (r : Bool) (hm : answer_same m a_ b_ = some r) (w : World) (hL : S0 F0 [Ent.im tS a_.Texts g_a__0, Ent.im (tI .i64) a_.Numbers g_a__1, Ent.im tS b_.Texts g_b__0, Ent.im (tI .i64) b_.Numbers g_b__1] w ∧ fpl [Ent.im tS a_.Texts g_a__0, Ent.im (tI .i64) a_.Numbers g_a__1, Ent.im tS b_.Texts g_b__0, Ent.im (tI .i64) b_.Numbers g_b__1] = []) : RetB Tryd.prog 37 ⟨[.agg ⟨[.int .i64 a_.Err, .int .i64 a_.Num, .slice g_a__0.a a_.Texts.length g_a__0.c, .slice g_a__1.a a_.Numbers.length g_a__1.c]⟩, .agg ⟨[.int .i64 b_.Err, .int .i64 b_.Num, .slice g_b__0.a b_.Texts.length g_b__0.c, .slice g_b__1.a b_.Numbers.length g_b__1.c]⟩]⟩ (.bool r) w := retB_of hL (Tryd.call37 _) (fun w' h => answer_same_w F0 m   a_ b_ r hm w' h)

theorem answer_First_w {g_a_ : Gh} {g_b_ : Gh} (M : Av) (m : Nat) (a_ : List TAnswer) (b_ : List TAnswer) (r : Int × Int) (hm : answer_First m a_ b_ = some r) (w : World) (hS : S0 M [Ent.im tyAnswer a_ g_a_, Ent.im tyAnswer b_ g_b_] w) : Calls Tryd.prog 19 ⟨[.slice g_a_.a a_.length g_a_.c, .slice g_b_.a b_.length g_b_.c]⟩ w (fun e w' => ∃ v, e = .returned v ∧ v = .tuple ⟨[.int .i64 r.1, .int .i64 r.2]⟩ ∧ SH M (fpl [Ent.im tyAnswer a_ g_a_, Ent.im tyAnswer b_ g_b_]) w [] w') := by
 rw [answer_First] at hm
 have hS0 : SH M (fpl [Ent.im tyAnswer a_ g_a_, Ent.im tyAnswer b_ g_b_]) w [Ent.im tyAnswer a_ g_a_, Ent.im tyAnswer b_ g_b_] w := hS
 generalize hX : fpl [Ent.im tyAnswer a_ g_a_, Ent.im tyAnswer b_ g_b_] = X at hS0 ⊢
 clear hS hX
 have hS := hS0
 clear hS0
 refine calls_entryP Tryd.func19 rfl Tryd.ntmps19 rfl fun _ H => ?_
 refine s_reg [] [0, 1] [(0, [], .slice g_a_.a a_.length g_a_.c), (1, [], .slice g_b_.a b_.length g_b_.c)] [] H (by kernel_rfl) trivial fun _ wd1 H2 hb => ?_
 clear H
 replace hS := hS.below hb
 clear hb
 refine w_seq ?_
 obtain ⟨y3, hy3, hm⟩ := bindE hm
 refine s_reg [(.int .i64 y3)] [0, 1, 6] [(0, [], .slice g_a_.a a_.length g_a_.c), (1, [], .slice g_b_.a b_.length g_b_.c), (6, [], .int .i64 y3)] [fun wz => RetB Tryd.prog 36 ⟨[.slice g_a_.a a_.length g_a_.c]⟩ (.int .i64 y3) wz] H2 (by kernel_rfl) ⟨(answer_check_ok (g_l_ := g_a_) m _ _ hy3 _ (s0im s0nil (hS.im 0 rfl))), trivial⟩ fun _ wd4 H5 hb => ?_
 clear H2
 replace hS := hS.below hb
 clear hb
 refine s_reg [] [0, 1, 6, 13] [(0, [], .slice g_a_.a a_.length g_a_.c), (1, [], .slice g_b_.a b_.length g_b_.c), (6, [], .int .i64 y3), (13, [], .bool (y3 != 0))] [] H5 (by kernel_rfl) trivial fun _ wd6 H7 hb => ?_
 clear H5
 replace hS := hS.below hb
 clear hb
 refine w_if H7 rfl (fun hc => ?c49) (fun hc => ?_)
 case c49 =>
  replace hm := bT hc hm
  refine s_reg [] [4, 5] [(4, [], .int .i64 0), (5, [], .int .i64 y3)] [] H7 (by kernel_rfl) trivial fun _ wd8 H9 hb => ?_
  clear H7
  replace hS := hS.below hb
  clear hb
  replace hS : SH M X w [] _ := hS.sel [] rfl
  refine w_ret ?_
  obtain rfl := someE hm
  exact retR2 H9 rfl rfl rfl ⟨_, rfl, rfl, (hS.sel [] rfl)⟩
 replace hm := bF hc hm
 refine w_skip ?_
 refine w_seq ?_
 obtain ⟨y10, hy10, hm⟩ := bindE hm
 refine s_reg [(.int .i64 y10)] [0, 1, 7] [(0, [], .slice g_a_.a a_.length g_a_.c), (1, [], .slice g_b_.a b_.length g_b_.c), (7, [], .int .i64 y10)] [fun wz => RetB Tryd.prog 36 ⟨[.slice g_b_.a b_.length g_b_.c]⟩ (.int .i64 y10) wz] H7 (by kernel_rfl) ⟨(answer_check_ok (g_l_ := g_b_) m _ _ hy10 _ (s0im s0nil (hS.im 1 rfl))), trivial⟩ fun _ wd11 H12 hb => ?_
 clear H7
 replace hS := hS.below hb
 clear hb
 refine s_reg [] [0, 1, 7, 18] [(0, [], .slice g_a_.a a_.length g_a_.c), (1, [], .slice g_b_.a b_.length g_b_.c), (7, [], .int .i64 y10), (18, [], .bool (y10 != 0))] [] H12 (by kernel_rfl) trivial fun _ wd13 H14 hb => ?_
 clear H12
 replace hS := hS.below hb
 clear hb
 refine w_if H14 rfl (fun hc => ?c48) (fun hc => ?_)
 case c48 =>
  replace hm := bT hc hm
  refine s_reg [] [4, 5] [(4, [], .int .i64 0), (5, [], .int .i64 y10)] [] H14 (by kernel_rfl) trivial fun _ wd15 H16 hb => ?_
  clear H14
  replace hS := hS.below hb
  clear hb
  replace hS : SH M X w [] _ := hS.sel [] rfl
  refine w_ret ?_
  obtain rfl := someE hm
  exact retR2 H16 rfl rfl rfl ⟨_, rfl, rfl, (hS.sel [] rfl)⟩
 replace hm := bF hc hm
 refine w_skip ?_
 refine s_reg [] [0, 1, 8] [(0, [], .slice g_a_.a a_.length g_a_.c), (1, [], .slice g_b_.a b_.length g_b_.c), (8, [], .int .i64 (if ln b_ < ln a_ then ln b_ else ln a_))] [] H14 (by kernel_rfl) trivial fun _ wd17 H18 hb => ?_
 clear H14
 replace hS := hS.below hb
 clear hb
 obtain ⟨z19, hz, hm_z19⟩ := bindE hm
 refine w_cut (fun a' w' => ∃ s_z19 : Unit, z19 = Sum.inr s_z19 ∧ Fr 47 [(0, [], .slice g_a_.a a_.length g_a_.c), (1, [], .slice g_b_.a b_.length g_b_.c), (8, [], .int .i64 (if ln b_ < ln a_ then ln b_ else ln a_))] a' ∧ SH M X w [Ent.im tyAnswer a_ g_a_, Ent.im tyAnswer b_ g_b_] w') ?_ ?_
 ·replace hm := hz
  refine s_reg [] [0, 1, 8, 25, 26] [(0, [], .slice g_a_.a a_.length g_a_.c), (1, [], .slice g_b_.a b_.length g_b_.c), (8, [], .int .i64 (if ln b_ < ln a_ then ln b_ else ln a_)), (25, [], .int .i64 (if ln b_ < ln a_ then ln b_ else ln a_)), (26, [], .int .i64 0)] [] H18 (by kernel_rfl) trivial fun _ wd20 H21 hb => ?_
  clear H18
  replace hS := hS.below hb
  clear hb
  refine w_block ?_
  refine w_loop (fun kk a' w' => ∃ (v22 : Int), answer_First_L1 m a_ b_ kk v22 = some _ ∧ Fr 47 [(0, [], .slice g_a_.a a_.length g_a_.c), (1, [], .slice g_b_.a b_.length g_b_.c), (8, [], .int .i64 (if ln b_ < ln a_ then ln b_ else ln a_)), (25, [], .int .i64 (if ln b_ < ln a_ then ln b_ else ln a_)), (26, [], .int .i64 v22)] a' ∧ SH M X w [Ent.im tyAnswer a_ g_a_, Ent.im tyAnswer b_ g_b_] w') ⟨_, 0, hm, FrG.keep (ks := [0, 1, 8, 25, 26]) H21 (by kernel_rfl), hS⟩ ?_
  clear hm H21 hS
  rintro kk _ wd39 ⟨v22, hm, H, hS⟩
  cases kk with
  | zero => exact noneE hm
  | succ kk =>
   rw [answer_First_L1] at hm
   obtain ⟨x23, hx23, hm⟩ := letE hm
   refine s_reg [] [0, 1, 8, 25, 26, 27] [(0, [], .slice g_a_.a a_.length g_a_.c), (1, [], .slice g_b_.a b_.length g_b_.c), (8, [], .int .i64 (if ln b_ < ln a_ then ln b_ else ln a_)), (25, [], .int .i64 (if ln b_ < ln a_ then ln b_ else ln a_)), (26, [], .int .i64 v22), (27, [], .bool x23)] [] H (by subst hx23; kernel_rfl) trivial fun _ wd24 H25 hb => ?_
   clear H
   replace hS := hS.below hb
   clear hb
   refine w_seq ?_
   refine w_if H25 rfl (fun hc => ?_) (fun hc => ?c38)
   case c38 =>
    replace hm := bF hc hm
    refine w_exit rfl ?_
    obtain rfl := someE hm
    exact ⟨_, rfl, FrG.keep (ks := [0, 1, 8]) H25 (by kernel_rfl), hS⟩
   replace hm := bT hc hm
   refine w_skip ?_
   refine w_seq ?_
   refine w_block ?_
   refine s_reg [] [0, 1, 8, 9, 25, 26] [(0, [], .slice g_a_.a a_.length g_a_.c), (1, [], .slice g_b_.a b_.length g_b_.c), (8, [], .int .i64 (if ln b_ < ln a_ then ln b_ else ln a_)), (9, [], .int .i64 v22), (25, [], .int .i64 (if ln b_ < ln a_ then ln b_ else ln a_)), (26, [], .int .i64 v22)] [] H25 (by kernel_rfl) trivial fun _ wd26 H27 hb => ?_
   clear H25
   replace hS := hS.below hb
   clear hb
   obtain ⟨ho28, hm⟩ := chkE hm
   obtain ⟨ho29, hm⟩ := chkE hm
   obtain ⟨y30, hy30, hm⟩ := bindE hm
   refine s_draw [(.agg ⟨[.int .i64 ((gi a_ v22).Err), .int .i64 ((gi a_ v22).Num), .slice (g_a_.s (v22).toNat 0).a (((gi a_ v22).Texts).length) (g_a_.s (v22).toNat 0).c, .slice (g_a_.s (v22).toNat 1).a (((gi a_ v22).Numbers).length) (g_a_.s (v22).toNat 1).c]⟩), (.agg ⟨[.int .i64 ((gi b_ v22).Err), .int .i64 ((gi b_ v22).Num), .slice (g_b_.s (v22).toNat 0).a (((gi b_ v22).Texts).length) (g_b_.s (v22).toNat 0).c, .slice (g_b_.s (v22).toNat 1).a (((gi b_ v22).Numbers).length) (g_b_.s (v22).toNat 1).c]⟩), (.bool y30)] [0, 1, 8, 9, 25, 26, 38] [(0, [], .slice g_a_.a a_.length g_a_.c), (1, [], .slice g_b_.a b_.length g_b_.c), (8, [], .int .i64 (if ln b_ < ln a_ then ln b_ else ln a_)), (9, [], .int .i64 v22), (25, [], .int .i64 (if ln b_ < ln a_ then ln b_ else ln a_)), (26, [], .int .i64 v22), (38, [], .bool (!y30))] [fun _ => oka g_a_.a ∧ 0 ≤ v22 ∧ v22 < ln a_, fun wz => V.atN (ab g_a_.a) (ao g_a_.a + (v22).toNat * 4) [.int .i64 ((gi a_ v22).Err), .int .i64 ((gi a_ v22).Num), .slice (g_a_.s (v22).toNat 0).a (((gi a_ v22).Texts).length) (g_a_.s (v22).toNat 0).c, .slice (g_a_.s (v22).toNat 1).a (((gi a_ v22).Numbers).length) (g_a_.s (v22).toNat 1).c] 0 wz, fun _ => oka g_b_.a ∧ 0 ≤ v22 ∧ v22 < ln b_, fun wz => V.atN (ab g_b_.a) (ao g_b_.a + (v22).toNat * 4) [.int .i64 ((gi b_ v22).Err), .int .i64 ((gi b_ v22).Num), .slice (g_b_.s (v22).toNat 0).a (((gi b_ v22).Texts).length) (g_b_.s (v22).toNat 0).c, .slice (g_b_.s (v22).toNat 1).a (((gi b_ v22).Numbers).length) (g_b_.s (v22).toNat 1).c] 0 wz, fun wz => RetB Tryd.prog 37 ⟨[.agg ⟨[.int .i64 ((gi a_ v22).Err), .int .i64 ((gi a_ v22).Num), .slice (g_a_.s (v22).toNat 0).a (((gi a_ v22).Texts).length) (g_a_.s (v22).toNat 0).c, .slice (g_a_.s (v22).toNat 1).a (((gi a_ v22).Numbers).length) (g_a_.s (v22).toNat 1).c]⟩, .agg ⟨[.int .i64 ((gi b_ v22).Err), .int .i64 ((gi b_ v22).Num), .slice (g_b_.s (v22).toNat 0).a (((gi b_ v22).Texts).length) (g_b_.s (v22).toNat 0).c, .slice (g_b_.s (v22).toNat 1).a (((gi b_ v22).Numbers).length) (g_b_.s (v22).toNat 1).c]⟩]⟩ (.bool y30) wz] H27 (by kernel_rfl) (by kernel_rfl) (by kernel_rfl) ⟨((hS.im 0 rfl).oki ho28), ((hS.im 0 rfl).atA ho28 0 rfl), ((hS.im 1 rfl).oki ho29), ((hS.im 1 rfl).atA ho29 0 rfl), (answer_same_ok (g_a__0 := (g_a_.s (v22).toNat 0)) (g_a__1 := (g_a_.s (v22).toNat 1)) (g_b__0 := (g_b_.s (v22).toNat 0)) (g_b__1 := (g_b_.s (v22).toNat 1)) m _ _ _ hy30 _ (s0im (s0im (s0im (s0im s0nil (tyAnswer_i1 ((hS.im 1 rfl).el ho29))) (tyAnswer_i0 ((hS.im 1 rfl).el ho29))) (tyAnswer_i1 ((hS.im 0 rfl).el ho28))) (tyAnswer_i0 ((hS.im 0 rfl).el ho28)))), trivial⟩ fun _ wd31 H32 hb => ?_
   clear H27
   replace hS := hS.below hb
   clear hb
   refine w_if H32 rfl (fun hc => ?_) (fun hc => ?c37)
   case c37 =>
    replace hm := bF hc hm
    refine w_skip ?_
    refine w_reg [] [0, 1, 8, 25, 26] [(0, [], .slice g_a_.a a_.length g_a_.c), (1, [], .slice g_b_.a b_.length g_b_.c), (8, [], .int .i64 (if ln b_ < ln a_ then ln b_ else ln a_)), (25, [], .int .i64 (if ln b_ < ln a_ then ln b_ else ln a_)), (26, [], .int .i64 (w64 (v22 + 1)))] [] H32 (by kernel_rfl) trivial fun _ wd35 H36 hb => ?_
    clear H32
    replace hS := hS.below hb
    clear hb
    exact ⟨_, Nat.lt_succ_self _, w64 (v22 + 1), hm, FrG.keep (ks := [0, 1, 8, 25, 26]) H36 (by kernel_rfl), hS⟩
   replace hm := bT hc hm
   refine s_reg [] [4, 5] [(4, [], .int .i64 v22), (5, [], .int .i64 0)] [] H32 (by kernel_rfl) trivial fun _ wd33 H34 hb => ?_
   clear H32
   replace hS := hS.below hb
   clear hb
   refine w_ret ?_
   obtain rfl := someE hm
   have hm := hm_z19
   obtain rfl := someE hm
   exact retR2 H34 rfl rfl rfl ⟨_, rfl, rfl, (hS.sel [] rfl)⟩
 ·rintro _ wd47 ⟨s_z19, hz, H, hS⟩
  subst hz
  replace hm := sumR hm_z19
  refine w_seq ?_
  refine s_reg [] [8, 45] [(8, [], .int .i64 (if ln b_ < ln a_ then ln b_ else ln a_)), (45, [], .bool ((ln a_) == (ln b_)))] [] H (by kernel_rfl) trivial fun _ wd40 H41 hb => ?_
  clear H
  replace hS := hS.below hb
  clear hb
  replace hS : SH M X w [] _ := hS.sel [] rfl
  refine w_if H41 rfl (fun hc => ?c46) (fun hc => ?_)
  case c46 =>
   replace hm := bT hc hm
   refine s_reg [] [4, 5] [(4, [], .int .i64 0), (5, [], .int .i64 6)] [] H41 (by kernel_rfl) trivial fun _ wd42 H43 hb => ?_
   clear H41
   replace hS := hS.below hb
   clear hb
   refine w_ret ?_
   obtain rfl := someE hm
   exact retR2 H43 rfl rfl rfl ⟨_, rfl, rfl, (hS.sel [] rfl)⟩
  replace hm := bF hc hm
  refine w_skip ?_
  refine s_reg [] [4, 5] [(4, [], .int .i64 (if ln b_ < ln a_ then ln b_ else ln a_)), (5, [], .int .i64 0)] [] H41 (by kernel_rfl) trivial fun _ wd44 H45 hb => ?_
  clear H41
  replace hS := hS.below hb
  clear hb
  refine w_ret ?_
  obtain rfl := someE hm
  exact retR2 H45 rfl rfl rfl ⟨_, rfl, rfl, (hS.sel [] rfl)⟩
theorem answer_First_ok {g_a_ : Gh} {g_b_ : Gh} (m : Nat) (a_ : List TAnswer) (b_ : List TAnswer) (r : Int × Int) (hm : answer_First m a_ b_ = some r) (w : World) (hL : S0 F0 [Ent.im tyAnswer a_ g_a_, Ent.im tyAnswer b_ g_b_] w ∧ fpl [Ent.im tyAnswer a_ g_a_, Ent.im tyAnswer b_ g_b_] = []) : RetB Tryd.prog 19 ⟨[.slice g_a_.a a_.length g_a_.c, .slice g_b_.a b_.length g_b_.c]⟩ (.tuple ⟨[.int .i64 r.1, .int .i64 r.2]⟩) w := retB_of hL (Tryd.call19 _) (fun w' h => answer_First_w F0 m   a_ b_ r hm w' h)

theorem r40_SameAll_w {g_a_ : Gh} {g_b_ : Gh} (M : Av) (m : Nat) (a_ : List TAnswer) (b_ : List TAnswer) (r : Bool) (hm : r40_SameAll m a_ b_ = some r) (w : World) (hS : S0 M [Ent.im tyAnswer a_ g_a_, Ent.im tyAnswer b_ g_b_] w) : Calls Tryd.prog 20 ⟨[.slice g_a_.a a_.length g_a_.c, .slice g_b_.a b_.length g_b_.c]⟩ w (fun e w' => ∃ v, e = .returned v ∧ v = .bool r ∧ SH M (fpl [Ent.im tyAnswer a_ g_a_, Ent.im tyAnswer b_ g_b_]) w [] w') := by
 rw [r40_SameAll] at hm
 have hS0 : SH M (fpl [Ent.im tyAnswer a_ g_a_, Ent.im tyAnswer b_ g_b_]) w [Ent.im tyAnswer a_ g_a_, Ent.im tyAnswer b_ g_b_] w := hS
 generalize hX : fpl [Ent.im tyAnswer a_ g_a_, Ent.im tyAnswer b_ g_b_] = X at hS0 ⊢
 clear hS hX
 have hS := hS0
 clear hS0
 refine calls_entryP Tryd.func20 rfl Tryd.ntmps20 rfl fun _ H => ?_
 refine s_reg [] [0, 1] [(0, [], .slice g_a_.a a_.length g_a_.c), (1, [], .slice g_b_.a b_.length g_b_.c)] [] H (by kernel_rfl) trivial fun _ wd1 H2 hb => ?_
 clear H
 replace hS := hS.below hb
 clear hb
 refine w_seq ?_
 refine s_reg [] [0, 1, 10] [(0, [], .slice g_a_.a a_.length g_a_.c), (1, [], .slice g_b_.a b_.length g_b_.c), (10, [], .bool ((ln a_) != (ln b_)))] [] H2 (by kernel_rfl) trivial fun _ wd3 H4 hb => ?_
 clear H2
 replace hS := hS.below hb
 clear hb
 refine w_if H4 rfl (fun hc => ?c28) (fun hc => ?_)
 case c28 =>
  replace hm := bT hc hm
  refine s_reg [] [4] [(4, [], .bool false)] [] H4 (by kernel_rfl) trivial fun _ wd5 H6 hb => ?_
  clear H4
  replace hS := hS.below hb
  clear hb
  replace hS : SH M X w [] _ := hS.sel [] rfl
  refine w_ret ?_
  obtain rfl := someE hm
  exact retR1 H6 rfl rfl ⟨_, rfl, rfl, (hS.sel [] rfl)⟩
 replace hm := bF hc hm
 refine w_skip ?_
 obtain ⟨z7, hz, hm_z7⟩ := bindE hm
 refine w_cut (fun a' w' => ∃ s_z7 : Unit, z7 = Sum.inr s_z7 ∧ Fr 27 [] a' ∧ SH M X w [Ent.im tyAnswer a_ g_a_, Ent.im tyAnswer b_ g_b_] w') ?_ ?_
 ·replace hm := hz
  refine s_reg [] [0, 1, 5] [(0, [], .slice g_a_.a a_.length g_a_.c), (1, [], .slice g_b_.a b_.length g_b_.c), (5, [], .int .i64 0)] [] H4 (by kernel_rfl) trivial fun _ wd8 H9 hb => ?_
  clear H4
  replace hS := hS.below hb
  clear hb
  refine w_block ?_
  refine w_loop (fun kk a' w' => ∃ (v10 : Int), r40_SameAll_L1 m a_ b_ kk v10 = some _ ∧ Fr 27 [(0, [], .slice g_a_.a a_.length g_a_.c), (1, [], .slice g_b_.a b_.length g_b_.c), (5, [], .int .i64 v10)] a' ∧ SH M X w [Ent.im tyAnswer a_ g_a_, Ent.im tyAnswer b_ g_b_] w') ⟨_, 0, hm, FrG.keep (ks := [0, 1, 5]) H9 (by kernel_rfl), hS⟩ ?_
  clear hm H9 hS
  rintro kk _ wd24 ⟨v10, hm, H, hS⟩
  cases kk with
  | zero => exact noneE hm
  | succ kk =>
   rw [r40_SameAll_L1] at hm
   refine w_seq ?_
   refine s_reg [] [0, 1, 5, 14] [(0, [], .slice g_a_.a a_.length g_a_.c), (1, [], .slice g_b_.a b_.length g_b_.c), (5, [], .int .i64 v10), (14, [], .bool (decide (v10 < (ln a_))))] [] H (by kernel_rfl) trivial fun _ wd11 H12 hb => ?_
   clear H
   replace hS := hS.below hb
   clear hb
   refine w_if H12 rfl (fun hc => ?_) (fun hc => ?c23)
   case c23 =>
    replace hm := bF hc hm
    refine w_exit rfl ?_
    obtain rfl := someE hm
    exact ⟨_, rfl, FrG.keep (ks := []) H12 (by kernel_rfl), hS⟩
   replace hm := bT hc hm
   refine w_skip ?_
   refine w_seq ?_
   refine w_block ?_
   obtain ⟨ho13, hm⟩ := chkE hm
   obtain ⟨ho14, hm⟩ := chkE hm
   obtain ⟨y15, hy15, hm⟩ := bindE hm
   refine s_draw [(.agg ⟨[.int .i64 ((gi a_ v10).Err), .int .i64 ((gi a_ v10).Num), .slice (g_a_.s (v10).toNat 0).a (((gi a_ v10).Texts).length) (g_a_.s (v10).toNat 0).c, .slice (g_a_.s (v10).toNat 1).a (((gi a_ v10).Numbers).length) (g_a_.s (v10).toNat 1).c]⟩), (.agg ⟨[.int .i64 ((gi b_ v10).Err), .int .i64 ((gi b_ v10).Num), .slice (g_b_.s (v10).toNat 0).a (((gi b_ v10).Texts).length) (g_b_.s (v10).toNat 0).c, .slice (g_b_.s (v10).toNat 1).a (((gi b_ v10).Numbers).length) (g_b_.s (v10).toNat 1).c]⟩), (.bool y15)] [0, 1, 5, 26] [(0, [], .slice g_a_.a a_.length g_a_.c), (1, [], .slice g_b_.a b_.length g_b_.c), (5, [], .int .i64 v10), (26, [], .bool (!y15))] [fun _ => oka g_a_.a ∧ 0 ≤ v10 ∧ v10 < ln a_, fun wz => V.atN (ab g_a_.a) (ao g_a_.a + (v10).toNat * 4) [.int .i64 ((gi a_ v10).Err), .int .i64 ((gi a_ v10).Num), .slice (g_a_.s (v10).toNat 0).a (((gi a_ v10).Texts).length) (g_a_.s (v10).toNat 0).c, .slice (g_a_.s (v10).toNat 1).a (((gi a_ v10).Numbers).length) (g_a_.s (v10).toNat 1).c] 0 wz, fun _ => oka g_b_.a ∧ 0 ≤ v10 ∧ v10 < ln b_, fun wz => V.atN (ab g_b_.a) (ao g_b_.a + (v10).toNat * 4) [.int .i64 ((gi b_ v10).Err), .int .i64 ((gi b_ v10).Num), .slice (g_b_.s (v10).toNat 0).a (((gi b_ v10).Texts).length) (g_b_.s (v10).toNat 0).c, .slice (g_b_.s (v10).toNat 1).a (((gi b_ v10).Numbers).length) (g_b_.s (v10).toNat 1).c] 0 wz, fun wz => RetB Tryd.prog 15 ⟨[.agg ⟨[.int .i64 ((gi a_ v10).Err), .int .i64 ((gi a_ v10).Num), .slice (g_a_.s (v10).toNat 0).a (((gi a_ v10).Texts).length) (g_a_.s (v10).toNat 0).c, .slice (g_a_.s (v10).toNat 1).a (((gi a_ v10).Numbers).length) (g_a_.s (v10).toNat 1).c]⟩, .agg ⟨[.int .i64 ((gi b_ v10).Err), .int .i64 ((gi b_ v10).Num), .slice (g_b_.s (v10).toNat 0).a (((gi b_ v10).Texts).length) (g_b_.s (v10).toNat 0).c, .slice (g_b_.s (v10).toNat 1).a (((gi b_ v10).Numbers).length) (g_b_.s (v10).toNat 1).c]⟩]⟩ (.bool y15) wz] H12 (by kernel_rfl) (by kernel_rfl) (by kernel_rfl) ⟨((hS.im 0 rfl).oki ho13), ((hS.im 0 rfl).atA ho13 0 rfl), ((hS.im 1 rfl).oki ho14), ((hS.im 1 rfl).atA ho14 0 rfl), (r40_Same_ok (g_a__0 := (g_a_.s (v10).toNat 0)) (g_a__1 := (g_a_.s (v10).toNat 1)) (g_b__0 := (g_b_.s (v10).toNat 0)) (g_b__1 := (g_b_.s (v10).toNat 1)) m _ _ _ hy15 _ (s0im (s0im (s0im (s0im s0nil (tyAnswer_i1 ((hS.im 1 rfl).el ho14))) (tyAnswer_i0 ((hS.im 1 rfl).el ho14))) (tyAnswer_i1 ((hS.im 0 rfl).el ho13))) (tyAnswer_i0 ((hS.im 0 rfl).el ho13)))), trivial⟩ fun _ wd16 H17 hb => ?_
   clear H12
   replace hS := hS.below hb
   clear hb
   refine w_if H17 rfl (fun hc => ?_) (fun hc => ?c22)
   case c22 =>
    replace hm := bF hc hm
    refine w_skip ?_
    refine w_reg [] [0, 1, 5] [(0, [], .slice g_a_.a a_.length g_a_.c), (1, [], .slice g_b_.a b_.length g_b_.c), (5, [], .int .i64 (w64 (v10 + 1)))] [] H17 (by kernel_rfl) trivial fun _ wd20 H21 hb => ?_
    clear H17
    replace hS := hS.below hb
    clear hb
    exact ⟨_, Nat.lt_succ_self _, w64 (v10 + 1), hm, FrG.keep (ks := [0, 1, 5]) H21 (by kernel_rfl), hS⟩
   replace hm := bT hc hm
   refine s_reg [] [4] [(4, [], .bool false)] [] H17 (by kernel_rfl) trivial fun _ wd18 H19 hb => ?_
   clear H17
   replace hS := hS.below hb
   clear hb
   refine w_ret ?_
   obtain rfl := someE hm
   have hm := hm_z7
   obtain rfl := someE hm
   exact retR1 H19 rfl rfl ⟨_, rfl, rfl, (hS.sel [] rfl)⟩
 ·rintro _ wd27 ⟨s_z7, hz, H, hS⟩
  subst hz
  replace hm := sumR hm_z7
  replace hS : SH M X w [] _ := hS.sel [] rfl
  refine s_reg [] [4] [(4, [], .bool true)] [] H (by kernel_rfl) trivial fun _ wd25 H26 hb => ?_
  clear H
  replace hS := hS.below hb
  clear hb
  refine w_ret ?_
  obtain rfl := someE hm
  exact retR1 H26 rfl rfl ⟨_, rfl, rfl, (hS.sel [] rfl)⟩
theorem r40_SameAll_ok {g_a_ : Gh} {g_b_ : Gh} (m : Nat) (a_ : List TAnswer) (b_ : List TAnswer) (r : Bool) (hm : r40_SameAll m a_ b_ = some r) (w : World) (hL : S0 F0 [Ent.im tyAnswer a_ g_a_, Ent.im tyAnswer b_ g_b_] w ∧ fpl [Ent.im tyAnswer a_ g_a_, Ent.im tyAnswer b_ g_b_] = []) : RetB Tryd.prog 20 ⟨[.slice g_a_.a a_.length g_a_.c, .slice g_b_.a b_.length g_b_.c]⟩ (.bool r) w := retB_of hL (Tryd.call20 _) (fun w' h => r40_SameAll_w F0 m   a_ b_ r hm w' h)

theorem answer_Text_w {g_l_ : Gh} (M : Av) (m : Nat) (l_ : List TAnswer) (r : Str × Int) (hm : answer_Text m l_ = some r) (w : World) (hS : S0 M [Ent.im tyAnswer l_ g_l_, Ent.tab 1 (Lib.pow10Tab.map fun z => Value.int .u64 z)] w) : Calls Tryd.prog 21 ⟨[.slice g_l_.a l_.length g_l_.c]⟩ w (fun e w' => ∃ v, e = .returned v ∧ v = .tuple ⟨[.string ⟨⟨r.1⟩⟩, .int .i64 r.2]⟩ ∧ SH M (fpl [Ent.im tyAnswer l_ g_l_, Ent.tab 1 (Lib.pow10Tab.map fun z => Value.int .u64 z)]) w [] w') := by
 rw [answer_Text] at hm
 have hS0 : SH M (fpl [Ent.im tyAnswer l_ g_l_, Ent.tab 1 (Lib.pow10Tab.map fun z => Value.int .u64 z)]) w [Ent.im tyAnswer l_ g_l_, Ent.tab 1 (Lib.pow10Tab.map fun z => Value.int .u64 z)] w := hS
 generalize hX : fpl [Ent.im tyAnswer l_ g_l_, Ent.tab 1 (Lib.pow10Tab.map fun z => Value.int .u64 z)] = X at hS0 ⊢
 clear hS hX
 have hS := hS0
 clear hS0
 refine calls_entryP Tryd.func21 rfl Tryd.ntmps21 rfl fun _ H => ?_
 refine s_reg [] [0] [(0, [], .slice g_l_.a l_.length g_l_.c)] [] H (by kernel_rfl) trivial fun _ wd1 H2 hb => ?_
 clear H
 replace hS := hS.below hb
 clear hb
 refine w_seq ?_
 obtain ⟨y3, hy3, hm⟩ := bindE hm
 refine s_reg [(.int .i64 y3)] [0, 4] [(0, [], .slice g_l_.a l_.length g_l_.c), (4, [], .int .i64 y3)] [fun wz => RetB Tryd.prog 36 ⟨[.slice g_l_.a l_.length g_l_.c]⟩ (.int .i64 y3) wz] H2 (by kernel_rfl) ⟨(answer_check_ok (g_l_ := g_l_) m _ _ hy3 _ (s0im s0nil (hS.im 0 rfl))), trivial⟩ fun _ wd4 H5 hb => ?_
 clear H2
 replace hS := hS.below hb
 clear hb
 refine s_reg [] [0, 4, 13] [(0, [], .slice g_l_.a l_.length g_l_.c), (4, [], .int .i64 y3), (13, [], .bool (y3 != 0))] [] H5 (by kernel_rfl) trivial fun _ wd6 H7 hb => ?_
 clear H5
 replace hS := hS.below hb
 clear hb
 refine w_if H7 rfl (fun hc => ?c55) (fun hc => ?_)
 case c55 =>
  replace hm := bT hc hm
  refine s_reg [] [2, 3] [(2, [], .string ⟨⟨[]⟩⟩), (3, [], .int .i64 y3)] [] H7 (by kernel_rfl) trivial fun _ wd8 H9 hb => ?_
  clear H7
  replace hS := hS.below hb
  clear hb
  replace hS : SH M X w [Ent.tab 1 (Lib.pow10Tab.map fun z => Value.int .u64 z)] _ := hS.sel [1] rfl
  refine w_ret ?_
  obtain rfl := someE hm
  exact retR2 H9 rfl rfl rfl ⟨_, rfl, rfl, (hS.sel [] rfl)⟩
 replace hm := bF hc hm
 refine w_skip ?_
 refine w_seq ?_
 refine wl_start ?_
 have hd := hS.hand [] [0, 1] rfl rfl
 refine m_stp [5, 0] [(0, [], .slice g_l_.a l_.length g_l_.c)] H7 rfl rfl rfl rfl (o_allocB 5 (z := .agg ⟨[.pointer none, .slice none 0 0]⟩) hd (by kernel_rfl) rfl) (fun _ => rfl) fun _ wd11 v H12 hq => ?_
 clear H7 hd
 obtain ⟨b10, rfl, hq⟩ := hq
 replace hS : SH M X w [Ent.bld 70 5 b10 ([] : Str) (.nil), Ent.im tyAnswer l_ g_l_, Ent.tab 1 (Lib.pow10Tab.map fun z => Value.int .u64 z)] _ := hS.join [] [0, 1] rfl rfl hq
 clear hq
 refine wl_end rfl ?_
 obtain ⟨z13, hz, hm_z13⟩ := bindE hm
 refine w_cut (fun a' w' => ∃ s_z13 : Str, z13 = Sum.inr s_z13 ∧ ∃ (g49 : Gh), Fr 34 [(5, [], .pointer (some ⟨b10, 0, none⟩))] a' ∧ SH M X w [Ent.bld 70 5 b10 s_z13 g49, Ent.im tyAnswer l_ g_l_, Ent.tab 1 (Lib.pow10Tab.map fun z => Value.int .u64 z)] w') ?_ ?_
 ·replace hm := hz
  refine s_reg [] [5, 15, 16, 17] [(5, [], .pointer (some ⟨b10, 0, none⟩)), (15, [], .slice g_l_.a l_.length g_l_.c), (16, [], .int .i64 (ln l_)), (17, [], .int .i64 0)] [] H12 (by kernel_rfl) trivial fun _ wd14 H15 hb => ?_
  clear H12
  replace hS := hS.below hb
  clear hb
  refine w_block ?_
  refine w_loop (fun kk a' w' => ∃ (v16 : Int) (v17 : Str) (g18 : Gh), answer_Text_L1 m l_ kk v16 v17 = some _ ∧ Fr 34 [(5, [], .pointer (some ⟨b10, 0, none⟩)), (15, [], .slice g_l_.a l_.length g_l_.c), (16, [], .int .i64 (ln l_)), (17, [], .int .i64 v16)] a' ∧ SH M X w [Ent.bld 70 5 b10 v17 g18, Ent.im tyAnswer l_ g_l_, Ent.tab 1 (Lib.pow10Tab.map fun z => Value.int .u64 z)] w') ⟨_, 0, ([] : Str), Gh.nil, hm, FrG.keep (ks := [5, 15, 16, 17]) H15 (by kernel_rfl), hS⟩ ?_
  clear hm H15 hS
  rintro kk _ wd48 ⟨v16, v17, g18, hm, H, hS⟩
  cases kk with
  | zero => exact noneE hm
  | succ kk =>
   rw [answer_Text_L1] at hm
   refine s_reg [] [5, 15, 16, 17, 18] [(5, [], .pointer (some ⟨b10, 0, none⟩)), (15, [], .slice g_l_.a l_.length g_l_.c), (16, [], .int .i64 (ln l_)), (17, [], .int .i64 v16), (18, [], .bool (decide (v16 < (ln l_))))] [] H (by kernel_rfl) trivial fun _ wd19 H20 hb => ?_
   clear H
   replace hS := hS.below hb
   clear hb
   refine w_seq ?_
   refine w_if H20 rfl (fun hc => ?_) (fun hc => ?c47)
   case c47 =>
    replace hm := bF hc hm
    refine w_exit rfl ?_
    obtain rfl := someE hm
    exact ⟨_, rfl, g18, FrG.keep (ks := [5]) H20 (by kernel_rfl), hS⟩
   replace hm := bT hc hm
   refine w_skip ?_
   refine w_seq ?_
   refine w_block ?_
   refine w_seq ?_
   refine wl_start ?_
   obtain ⟨ho21, hm⟩ := chkE hm
   refine wl_batch 0 2 [(.agg ⟨[.int .i64 ((gi l_ v16).Err), .int .i64 ((gi l_ v16).Num), .slice (g_l_.s (v16).toNat 0).a (((gi l_ v16).Texts).length) (g_l_.s (v16).toNat 0).c, .slice (g_l_.s (v16).toNat 1).a (((gi l_ v16).Numbers).length) (g_l_.s (v16).toNat 1).c]⟩)] [5, 15, 16, 17, 20] [(5, [], .pointer (some ⟨b10, 0, none⟩)), (15, [], .slice g_l_.a l_.length g_l_.c), (16, [], .int .i64 (ln l_)), (17, [], .int .i64 v16), (20, [], .agg ⟨[.int .i64 ((gi l_ v16).Err), .int .i64 ((gi l_ v16).Num), .slice (g_l_.s (v16).toNat 0).a (((gi l_ v16).Texts).length) (g_l_.s (v16).toNat 0).c, .slice (g_l_.s (v16).toNat 1).a (((gi l_ v16).Numbers).length) (g_l_.s (v16).toNat 1).c]⟩)] [fun _ => oka g_l_.a ∧ 0 ≤ v16 ∧ v16 < ln l_, fun wz => V.atN (ab g_l_.a) (ao g_l_.a + (v16).toNat * 4) [.int .i64 ((gi l_ v16).Err), .int .i64 ((gi l_ v16).Num), .slice (g_l_.s (v16).toNat 0).a (((gi l_ v16).Texts).length) (g_l_.s (v16).toNat 0).c, .slice (g_l_.s (v16).toNat 1).a (((gi l_ v16).Numbers).length) (g_l_.s (v16).toNat 1).c] 0 wz] H20 (by decide) (by kernel_rfl) ⟨((hS.im 1 rfl).oki ho21), ((hS.im 1 rfl).atA ho21 0 rfl), trivial⟩ fun _ wd22 H23 hb => ?_
   clear H20
   replace hS := hS.below hb
   clear hb
   have hd := hS.hand [] [0, 1, 2] rfl rfl
   refine m_stp [7, 5, 15, 16, 17, 20] [(5, [], .pointer (some ⟨b10, 0, none⟩)), (15, [], .slice g_l_.a l_.length g_l_.c), (16, [], .int .i64 (ln l_)), (17, [], .int .i64 v16), (20, [], .agg ⟨[.int .i64 ((gi l_ v16).Err), .int .i64 ((gi l_ v16).Num), .slice (g_l_.s (v16).toNat 0).a (((gi l_ v16).Texts).length) (g_l_.s (v16).toNat 0).c, .slice (g_l_.s (v16).toNat 1).a (((gi l_ v16).Numbers).length) (g_l_.s (v16).toNat 1).c]⟩)] H23 rfl rfl rfl rfl (o_alloc [.int .i64 0, .int .i64 0, .slice none 0 0, .slice none 0 0] (z := .agg ⟨[.int .i64 0, .int .i64 0, .slice none 0 0, .slice none 0 0]⟩) hd (by kernel_rfl) rfl) (fun _ => rfl) fun _ wd25 v H26 hq => ?_
   clear H23 hd
   obtain ⟨b24, rfl, hq⟩ := hq
   replace hS : SH M X w [Ent.blk b24 [.int .i64 0, .int .i64 0, .slice none 0 0, .slice none 0 0], Ent.bld 70 5 b10 v17 g18, Ent.im tyAnswer l_ g_l_, Ent.tab 1 (Lib.pow10Tab.map fun z => Value.int .u64 z)] _ := hS.join [] [0, 1, 2] rfl rfl hq
   clear hq
   have hd := hS.hand [0] [1, 2, 3] rfl rfl
   refine m_stp0 [5, 7, 15, 16, 17] [(5, [], .pointer (some ⟨b10, 0, none⟩)), (7, [], .pointer (some ⟨b24, 0, none⟩)), (15, [], .slice g_l_.a l_.length g_l_.c), (16, [], .int .i64 (ln l_)), (17, [], .int .i64 v16)] H26 rfl rfl rfl (o_store [.int .i64 ((gi l_ v16).Err), .int .i64 ((gi l_ v16).Num), .slice (g_l_.s (v16).toNat 0).a (((gi l_ v16).Texts).length) (g_l_.s (v16).toNat 0).c, .slice (g_l_.s (v16).toNat 1).a (((gi l_ v16).Numbers).length) (g_l_.s (v16).toNat 1).c] H26 hd rfl rfl (by kernel_rfl) rfl rfl rfl) rfl fun _ wd27 H28 hq => ?_
   clear H26 hd
   obtain ⟨_, hq⟩ := hq
   replace hS : SH M X w [Ent.blk b24 [.int .i64 ((gi l_ v16).Err), .int .i64 ((gi l_ v16).Num), .slice (g_l_.s (v16).toNat 0).a (((gi l_ v16).Texts).length) (g_l_.s (v16).toNat 0).c, .slice (g_l_.s (v16).toNat 1).a (((gi l_ v16).Numbers).length) (g_l_.s (v16).toNat 1).c], Ent.bld 70 5 b10 v17 g18, Ent.im tyAnswer l_ g_l_, Ent.tab 1 (Lib.pow10Tab.map fun z => Value.int .u64 z)] _ := hS.join [0] [1, 2, 3] rfl rfl hq
   clear hq
   refine wl_end rfl ?_
   obtain ⟨y29, hy29, hm⟩ := bindE hm
   refine s_reg [(.agg ⟨[.int .i64 ((gi l_ v16).Err), .int .i64 ((gi l_ v16).Num), .slice (g_l_.s (v16).toNat 0).a (((gi l_ v16).Texts).length) (g_l_.s (v16).toNat 0).c, .slice (g_l_.s (v16).toNat 1).a (((gi l_ v16).Numbers).length) (g_l_.s (v16).toNat 1).c]⟩), (.tuple ⟨[.string ⟨⟨y29.1⟩⟩, .int .i64 y29.2]⟩)] [5, 8, 9, 15, 16, 17] [(5, [], .pointer (some ⟨b10, 0, none⟩)), (8, [], .string ⟨⟨y29.1⟩⟩), (9, [], .int .i64 y29.2), (15, [], .slice g_l_.a l_.length g_l_.c), (16, [], .int .i64 (ln l_)), (17, [], .int .i64 v16)] [fun wz => V.atN b24 0 [.int .i64 ((gi l_ v16).Err), .int .i64 ((gi l_ v16).Num), .slice (g_l_.s (v16).toNat 0).a (((gi l_ v16).Texts).length) (g_l_.s (v16).toNat 0).c, .slice (g_l_.s (v16).toNat 1).a (((gi l_ v16).Numbers).length) (g_l_.s (v16).toNat 1).c] 0 wz, fun wz => RetB Tryd.prog 9 ⟨[.agg ⟨[.int .i64 ((gi l_ v16).Err), .int .i64 ((gi l_ v16).Num), .slice (g_l_.s (v16).toNat 0).a (((gi l_ v16).Texts).length) (g_l_.s (v16).toNat 0).c, .slice (g_l_.s (v16).toNat 1).a (((gi l_ v16).Numbers).length) (g_l_.s (v16).toNat 1).c]⟩]⟩ (.tuple ⟨[.string ⟨⟨y29.1⟩⟩, .int .i64 y29.2]⟩) wz] H28 (by kernel_rfl) ⟨((hS.bk 0 rfl).atD rfl), (answer_Line_ok (g_a__0 := (g_l_.s (v16).toNat 0)) (g_a__1 := (g_l_.s (v16).toNat 1)) m _ _ hy29 _ (s0im (s0im (s0tab s0nil (hS.at 3 rfl)) (tyAnswer_i1 ((hS.im 2 rfl).el ho21))) (tyAnswer_i0 ((hS.im 2 rfl).el ho21)))), trivial⟩ fun _ wd30 H31 hb => ?_
   clear H28
   replace hS := hS.below hb
   clear hb
   replace hS : SH M X w [Ent.bld 70 5 b10 v17 g18, Ent.im tyAnswer l_ g_l_, Ent.tab 1 (Lib.pow10Tab.map fun z => Value.int .u64 z)] _ := hS.sel [1, 2, 3] rfl
   refine w_seq ?_
   refine s_reg [] [5, 8, 9, 15, 16, 17, 27] [(5, [], .pointer (some ⟨b10, 0, none⟩)), (8, [], .string ⟨⟨y29.1⟩⟩), (9, [], .int .i64 y29.2), (15, [], .slice g_l_.a l_.length g_l_.c), (16, [], .int .i64 (ln l_)), (17, [], .int .i64 v16), (27, [], .bool (y29.2 != 0))] [] H31 (by kernel_rfl) trivial fun _ wd32 H33 hb => ?_
   clear H31
   replace hS := hS.below hb
   clear hb
   refine w_if H33 rfl (fun hc => ?c46) (fun hc => ?_)
   case c46 =>
    replace hm := bT hc hm
    refine s_reg [] [2, 3] [(2, [], .string ⟨⟨[]⟩⟩), (3, [], .int .i64 y29.2)] [] H33 (by kernel_rfl) trivial fun _ wd34 H35 hb => ?_
    clear H33
    replace hS := hS.below hb
    clear hb
    refine w_ret ?_
    obtain rfl := someE hm
    have hm := hm_z13
    obtain rfl := someE hm
    exact retR2 H35 rfl rfl rfl ⟨_, rfl, rfl, (hS.sel [] rfl)⟩
   replace hm := bF hc hm
   refine w_skip ?_
   refine wl_start ?_
   obtain ⟨ho36, hm⟩ := chkE hm
   refine wl_batch 0 2 [] [5, 15, 16, 17, 30] [(5, [], .pointer (some ⟨b10, 0, none⟩)), (15, [], .slice g_l_.a l_.length g_l_.c), (16, [], .int .i64 (ln l_)), (17, [], .int .i64 v16), (30, [], .string ⟨⟨y29.1 ++ [10]⟩⟩)] [fun _ => ln y29.1 + ln [10] ≤ 9223372036854775807] H33 (by decide) (by kernel_rfl) ⟨ho36, trivial⟩ fun _ wd37 H38 hb => ?_
   clear H33
   replace hS := hS.below hb
   clear hb
   obtain ⟨ho39, hm⟩ := chkE hm
   obtain ⟨q40, hq40, hm⟩ := letE hm
   have hd := hS.hand [0] [1, 2] rfl rfl
   refine m_stp [31, 5, 15, 16, 17] [(5, [], .pointer (some ⟨b10, 0, none⟩)), (15, [], .slice g_l_.a l_.length g_l_.c), (16, [], .int .i64 (ln l_)), (17, [], .int .i64 v16)] H38 rfl rfl rfl rfl (o_callx H38 rfl rfl (bld_WS (y29.1 ++ [10]) ho39 hd)) (fun _ => rfl) fun _ wd41 v H42 hq => ?_
   clear H38 hd
   obtain ⟨g43, rfl, hq⟩ := hq
   rw [← hq40] at hq
   replace hS : SH M X w [Ent.bld 70 5 b10 q40 g43, Ent.im tyAnswer l_ g_l_, Ent.tab 1 (Lib.pow10Tab.map fun z => Value.int .u64 z)] _ := hS.join [0] [1, 2] rfl rfl hq
   clear hq
   refine wl_end rfl ?_
   refine w_reg [] [5, 15, 16, 17] [(5, [], .pointer (some ⟨b10, 0, none⟩)), (15, [], .slice g_l_.a l_.length g_l_.c), (16, [], .int .i64 (ln l_)), (17, [], .int .i64 (w64 (v16 + 1)))] [] H42 (by kernel_rfl) trivial fun _ wd44 H45 hb => ?_
   clear H42
   replace hS := hS.below hb
   clear hb
   exact ⟨_, Nat.lt_succ_self _, w64 (v16 + 1), q40, g43, hm, FrG.keep (ks := [5, 15, 16, 17]) H45 (by kernel_rfl), hS⟩
 ·rintro _ wd54 ⟨s_z13, hz, g49, H, hS⟩
  subst hz
  replace hm := sumR hm_z13
  replace hS : SH M X w [Ent.bld 70 5 b10 s_z13 g49, Ent.tab 1 (Lib.pow10Tab.map fun z => Value.int .u64 z)] _ := hS.sel [0, 2] rfl
  refine w_seq ?_
  refine wl_start ?_
  have hd := hS.hand [0] [1] rfl rfl
  refine m_stp [33] [] H rfl rfl rfl rfl (o_callx H rfl rfl (bld_St hd)) (fun _ => rfl) fun _ wd50 v H51 hq => ?_
  clear H hd
  obtain ⟨rfl, hq⟩ := hq
  replace hS : SH M X w [Ent.tab 1 (Lib.pow10Tab.map fun z => Value.int .u64 z)] _ := hS.join [0] [1] rfl rfl hq
  clear hq
  refine wl_batch 1 3 [] [2, 3] [(2, [], .string ⟨⟨s_z13⟩⟩), (3, [], .int .i64 0)] [] H51 (by decide) (by kernel_rfl) trivial fun _ wd52 H53 hb => ?_
  clear H51
  replace hS := hS.below hb
  clear hb
  refine wl_end rfl ?_
  refine w_ret ?_
  obtain rfl := someE hm
  exact retR2 H53 rfl rfl rfl ⟨_, rfl, rfl, (hS.sel [] rfl)⟩
theorem answer_Text_ok {g_l_ : Gh} (m : Nat) (l_ : List TAnswer) (r : Str × Int) (hm : answer_Text m l_ = some r) (w : World) (hL : S0 F0 [Ent.im tyAnswer l_ g_l_, Ent.tab 1 (Lib.pow10Tab.map fun z => Value.int .u64 z)] w ∧ fpl [Ent.im tyAnswer l_ g_l_, Ent.tab 1 (Lib.pow10Tab.map fun z => Value.int .u64 z)] = []) : RetB Tryd.prog 21 ⟨[.slice g_l_.a l_.length g_l_.c]⟩ (.tuple ⟨[.string ⟨⟨r.1⟩⟩, .int .i64 r.2]⟩) w := retB_of hL (Tryd.call21 _) (fun w' h => answer_Text_w F0 m   l_ r hm w' h)

theorem law40_AnswerFirst_w {g_l_ : Gh} {g_m_ : Gh} (M : Av) (m : Nat) (l_ : List TAnswer) (m_ : List TAnswer) (r : Bool) (hm : law40_AnswerFirst m l_ m_ = some r) (w : World) (hS : S0 M [Ent.im tyAnswer l_ g_l_, Ent.im tyAnswer m_ g_m_, Ent.tab 1 (Lib.pow10Tab.map fun z => Value.int .u64 z), Ent.gifc 2, Ent.gifc 3] w) : Calls Tryd.prog 5 ⟨[.slice g_l_.a l_.length g_l_.c, .slice g_m_.a m_.length g_m_.c]⟩ w (fun e w' => ∃ v, e = .returned v ∧ v = .bool r ∧ SH M (fpl [Ent.im tyAnswer l_ g_l_, Ent.im tyAnswer m_ g_m_, Ent.tab 1 (Lib.pow10Tab.map fun z => Value.int .u64 z), Ent.gifc 2, Ent.gifc 3]) w [] w') := by
 rw [law40_AnswerFirst] at hm
 have hS0 : SH M (fpl [Ent.im tyAnswer l_ g_l_, Ent.im tyAnswer m_ g_m_, Ent.tab 1 (Lib.pow10Tab.map fun z => Value.int .u64 z), Ent.gifc 2, Ent.gifc 3]) w [Ent.im tyAnswer l_ g_l_, Ent.im tyAnswer m_ g_m_, Ent.tab 1 (Lib.pow10Tab.map fun z => Value.int .u64 z), Ent.gifc 2, Ent.gifc 3] w := hS
 generalize hX : fpl [Ent.im tyAnswer l_ g_l_, Ent.im tyAnswer m_ g_m_, Ent.tab 1 (Lib.pow10Tab.map fun z => Value.int .u64 z), Ent.gifc 2, Ent.gifc 3] = X at hS0 ⊢
 clear hS hX
 have hS := hS0
 clear hS0
 refine calls_entryP Tryd.func5 rfl Tryd.ntmps5 rfl fun _ H => ?_
 refine s_reg [] [0, 1] [(0, [], .slice g_l_.a l_.length g_l_.c), (1, [], .slice g_m_.a m_.length g_m_.c)] [] H (by kernel_rfl) trivial fun _ wd1 H2 hb => ?_
 clear H
 replace hS := hS.below hb
 clear hb
 obtain ⟨y3, hy3, hm⟩ := bindE hm
 refine s_reg [(.bool y3)] [0, 1, 5] [(0, [], .slice g_l_.a l_.length g_l_.c), (1, [], .slice g_m_.a m_.length g_m_.c), (5, [], .bool y3)] [fun wz => RetB Tryd.prog 16 ⟨[]⟩ (.bool y3) wz] H2 (by kernel_rfl) ⟨(law40_alive_ok m _ hy3 _ (s0tab (s0gf (s0gf s0nil (hS.at 4 rfl)) (hS.at 3 rfl)) (hS.at 2 rfl))), trivial⟩ fun _ wd4 H5 hb => ?_
 clear H2
 replace hS := hS.below hb
 clear hb
 refine w_seq ?_
 obtain ⟨y6, hy6, hm⟩ := bindE hm
 obtain ⟨y7, hy7, hm⟩ := bindE hm
 obtain ⟨y8, hy8, hm⟩ := bindE hm
 obtain ⟨y9, hy9, hm⟩ := bindE hm
 obtain ⟨x10, hx10, hm⟩ := letE hm
 refine s_reg [(.bool y6), (.bool y7), (.int .i64 y8), (.int .i64 y9)] [0, 1, 5, 36] [(0, [], .slice g_l_.a l_.length g_l_.c), (1, [], .slice g_m_.a m_.length g_m_.c), (5, [], .bool y3), (36, [], .bool (cond x10 true (!y3)))] [fun wz => RetB Tryd.prog 17 ⟨[.slice g_l_.a l_.length g_l_.c]⟩ (.bool y6) wz, fun wz => (y6 = false ∧ True → RetB Tryd.prog 17 ⟨[.slice g_m_.a m_.length g_m_.c]⟩ (.bool y7) wz), fun wz => ((cond y6 true y7) = false ∧ True → RetB Tryd.prog 18 ⟨[.slice g_l_.a l_.length g_l_.c]⟩ (.int .i64 y8) wz), fun wz => ((cond (cond y6 true y7) true (y8 != 0)) = false ∧ True → RetB Tryd.prog 18 ⟨[.slice g_m_.a m_.length g_m_.c]⟩ (.int .i64 y9) wz)] H5 (by subst hx10; kernel_rfl) ⟨(r40_Great_ok (g_l_ := g_l_) m _ _ hy6 _ (s0im s0nil (hS.im 0 rfl))), fun hg => r40_Great_ok (g_l_ := g_m_) m _ _ (bF (hg.1) hy7) _ (s0im s0nil (hS.im 1 rfl)), fun hg => r40_Log_ok (g_l_ := g_l_) m _ _ (bF (hg.1) hy8) _ (s0im s0nil (hS.im 0 rfl)), fun hg => r40_Log_ok (g_l_ := g_m_) m _ _ (bF (hg.1) hy9) _ (s0im s0nil (hS.im 1 rfl)), trivial⟩ fun _ wd11 H12 hb => ?_
 clear H5
 replace hS := hS.below hb
 clear hb
 refine w_if H12 rfl (fun hc => ?c82) (fun hc => ?_)
 case c82 =>
  replace hm := bT hc hm
  refine s_reg [] [4] [(4, [], .bool y3)] [] H12 (by kernel_rfl) trivial fun _ wd13 H14 hb => ?_
  clear H12
  replace hS := hS.below hb
  clear hb
  replace hS : SH M X w [Ent.tab 1 (Lib.pow10Tab.map fun z => Value.int .u64 z), Ent.gifc 2, Ent.gifc 3] _ := hS.sel [2, 3, 4] rfl
  refine w_ret ?_
  obtain rfl := someE hm
  exact retR1 H14 rfl rfl ⟨_, rfl, rfl, (hS.sel [] rfl)⟩
 replace hm := bF hc hm
 refine w_skip ?_
 obtain ⟨y15, hy15, hm⟩ := bindE hm
 refine s_reg [(.tuple ⟨[.int .i64 y15.1, .int .i64 y15.2]⟩)] [0, 1, 5, 6, 7] [(0, [], .slice g_l_.a l_.length g_l_.c), (1, [], .slice g_m_.a m_.length g_m_.c), (5, [], .bool y3), (6, [], .int .i64 y15.1), (7, [], .int .i64 y15.2)] [fun wz => RetB Tryd.prog 19 ⟨[.slice g_l_.a l_.length g_l_.c, .slice g_m_.a m_.length g_m_.c]⟩ (.tuple ⟨[.int .i64 y15.1, .int .i64 y15.2]⟩) wz] H12 (by kernel_rfl) ⟨(answer_First_ok (g_a_ := g_l_) (g_b_ := g_m_) m _ _ _ hy15 _ (s0im (s0im s0nil (hS.im 1 rfl)) (hS.im 0 rfl))), trivial⟩ fun _ wd16 H17 hb => ?_
 clear H12
 replace hS := hS.below hb
 clear hb
 obtain ⟨y18, hy18, hm⟩ := bindE hm
 refine s_reg [(.tuple ⟨[.int .i64 y18.1, .int .i64 y18.2]⟩)] [0, 1, 5, 6, 7, 9] [(0, [], .slice g_l_.a l_.length g_l_.c), (1, [], .slice g_m_.a m_.length g_m_.c), (5, [], .bool y3), (6, [], .int .i64 y15.1), (7, [], .int .i64 y15.2), (9, [], .int .i64 y18.2)] [fun wz => RetB Tryd.prog 19 ⟨[.slice g_l_.a l_.length g_l_.c, .slice g_l_.a l_.length g_l_.c]⟩ (.tuple ⟨[.int .i64 y18.1, .int .i64 y18.2]⟩) wz] H17 (by kernel_rfl) ⟨(answer_First_ok (g_a_ := g_l_) (g_b_ := g_l_) m _ _ _ hy18 _ (s0im (s0im s0nil (hS.im 0 rfl)) (hS.im 0 rfl))), trivial⟩ fun _ wd19 H20 hb => ?_
 clear H17
 replace hS := hS.below hb
 clear hb
 obtain ⟨y21, hy21, hm⟩ := bindE hm
 refine s_reg [(.tuple ⟨[.int .i64 y21.1, .int .i64 y21.2]⟩)] [0, 1, 5, 6, 7, 9, 10, 11] [(0, [], .slice g_l_.a l_.length g_l_.c), (1, [], .slice g_m_.a m_.length g_m_.c), (5, [], .bool y3), (6, [], .int .i64 y15.1), (7, [], .int .i64 y15.2), (9, [], .int .i64 y18.2), (10, [], .int .i64 y21.1), (11, [], .int .i64 y21.2)] [fun wz => RetB Tryd.prog 19 ⟨[.slice g_m_.a m_.length g_m_.c, .slice g_l_.a l_.length g_l_.c]⟩ (.tuple ⟨[.int .i64 y21.1, .int .i64 y21.2]⟩) wz] H20 (by kernel_rfl) ⟨(answer_First_ok (g_a_ := g_m_) (g_b_ := g_l_) m _ _ _ hy21 _ (s0im (s0im s0nil (hS.im 0 rfl)) (hS.im 1 rfl))), trivial⟩ fun _ wd22 H23 hb => ?_
 clear H20
 replace hS := hS.below hb
 clear hb
 refine w_seq ?_
 obtain ⟨x24, hx24, hm⟩ := letE hm
 refine s_reg [] [0, 1, 5, 6, 7, 67] [(0, [], .slice g_l_.a l_.length g_l_.c), (1, [], .slice g_m_.a m_.length g_m_.c), (5, [], .bool y3), (6, [], .int .i64 y15.1), (7, [], .int .i64 y15.2), (67, [], .bool x24)] [] H23 (by subst hx24; kernel_rfl) trivial fun _ wd25 H26 hb => ?_
 clear H23
 replace hS := hS.below hb
 clear hb
 refine w_if H26 rfl (fun hc => ?c81) (fun hc => ?_)
 case c81 =>
  replace hm := bT hc hm
  refine s_reg [] [4] [(4, [], .bool false)] [] H26 (by kernel_rfl) trivial fun _ wd27 H28 hb => ?_
  clear H26
  replace hS := hS.below hb
  clear hb
  replace hS : SH M X w [Ent.tab 1 (Lib.pow10Tab.map fun z => Value.int .u64 z), Ent.gifc 2, Ent.gifc 3] _ := hS.sel [2, 3, 4] rfl
  refine w_ret ?_
  obtain rfl := someE hm
  exact retR1 H28 rfl rfl ⟨_, rfl, rfl, (hS.sel [] rfl)⟩
 replace hm := bF hc hm
 refine w_skip ?_
 refine w_seq ?_
 refine s_reg [] [0, 1, 5, 6, 7, 69] [(0, [], .slice g_l_.a l_.length g_l_.c), (1, [], .slice g_m_.a m_.length g_m_.c), (5, [], .bool y3), (6, [], .int .i64 y15.1), (7, [], .int .i64 y15.2), (69, [], .bool (y15.2 != 0))] [] H26 (by kernel_rfl) trivial fun _ wd29 H30 hb => ?_
 clear H26
 replace hS := hS.below hb
 clear hb
 refine w_if H30 rfl (fun hc => ?c80) (fun hc => ?_)
 case c80 =>
  replace hm := bT hc hm
  obtain ⟨y31, hy31, hm⟩ := bindE hm
  obtain ⟨x32, hx32, hm⟩ := letE hm
  refine s_reg [(.bool y31)] [4] [(4, [], .bool x32)] [fun wz => ((cond y3 (y15.2 == 6) false) = true ∧ True → RetB Tryd.prog 20 ⟨[.slice g_l_.a l_.length g_l_.c, .slice g_m_.a m_.length g_m_.c]⟩ (.bool y31) wz)] H30 (by subst hx32; kernel_rfl) ⟨fun hg => r40_SameAll_ok (g_a_ := g_l_) (g_b_ := g_m_) m _ _ _ (bT (hg.1) hy31) _ (s0im (s0im s0nil (hS.im 1 rfl)) (hS.im 0 rfl)), trivial⟩ fun _ wd33 H34 hb => ?_
  clear H30
  replace hS := hS.below hb
  clear hb
  replace hS : SH M X w [Ent.tab 1 (Lib.pow10Tab.map fun z => Value.int .u64 z), Ent.gifc 2, Ent.gifc 3] _ := hS.sel [2, 3, 4] rfl
  refine w_ret ?_
  obtain rfl := someE hm
  exact retR1 H34 rfl rfl ⟨_, rfl, rfl, (hS.sel [] rfl)⟩
 replace hm := bF hc hm
 refine w_skip ?_
 refine w_seq ?_
 obtain ⟨x35, hx35, hm⟩ := letE hm
 refine s_reg [] [0, 1, 5, 6, 93] [(0, [], .slice g_l_.a l_.length g_l_.c), (1, [], .slice g_m_.a m_.length g_m_.c), (5, [], .bool y3), (6, [], .int .i64 y15.1), (93, [], .bool (cond x35 true (decide ((ln m_) < y15.1))))] [] H30 (by subst hx35; kernel_rfl) trivial fun _ wd36 H37 hb => ?_
 clear H30
 replace hS := hS.below hb
 clear hb
 refine w_if H37 rfl (fun hc => ?c79) (fun hc => ?_)
 case c79 =>
  replace hm := bT hc hm
  refine s_reg [] [4] [(4, [], .bool false)] [] H37 (by kernel_rfl) trivial fun _ wd38 H39 hb => ?_
  clear H37
  replace hS := hS.below hb
  clear hb
  replace hS : SH M X w [Ent.tab 1 (Lib.pow10Tab.map fun z => Value.int .u64 z), Ent.gifc 2, Ent.gifc 3] _ := hS.sel [2, 3, 4] rfl
  refine w_ret ?_
  obtain rfl := someE hm
  exact retR1 H39 rfl rfl ⟨_, rfl, rfl, (hS.sel [] rfl)⟩
 replace hm := bF hc hm
 refine w_skip ?_
 refine w_seq ?_
 refine wl_start ?_
 refine wl_batch 0 2 [] [0, 1, 5, 6, 95, 96] [(0, [], .slice g_l_.a l_.length g_l_.c), (1, [], .slice g_m_.a m_.length g_m_.c), (5, [], .bool y3), (6, [], .int .i64 y15.1), (95, [], .slice g_l_.a l_.length g_l_.c), (96, [], .int .i64 y15.1)] [] H37 (by decide) (by kernel_rfl) trivial fun _ wd40 H41 hb => ?_
 clear H37
 replace hS := hS.below hb
 clear hb
 obtain ⟨ho42, hm⟩ := chkE hm
 obtain ⟨q43, hq43, hm⟩ := letE hm
 have hd := hS.hand [0] [0, 1, 2, 3, 4] rfl rfl
 refine m_stp [97, 0, 1, 5, 6] [(0, [], .slice g_l_.a l_.length g_l_.c), (1, [], .slice g_m_.a m_.length g_m_.c), (5, [], .bool y3), (6, [], .int .i64 y15.1)] H41 rfl rfl rfl rfl (o_sub (T := tyAnswer) (E := 26) (g := g_l_) (q := l_) (0 : Int) y15.1 .none (.some (.int .i64 y15.1)) H41 hd (hd.im 0 rfl) rfl rfl rfl rfl rfl rfl (.inl ⟨rfl, rfl⟩) (.inr ⟨_, rfl⟩) (by kernel_rfl) (by kernel_rfl) ho42) (fun _ => rfl) fun _ wd44 v H45 hq => ?_
 clear H41 hd
 obtain ⟨g46, rfl, hq⟩ := hq
 rw [← hq43] at hq
 rw [← hq43] at H45
 replace hS : SH M X w [Ent.im tyAnswer q43 g46, Ent.im tyAnswer l_ g_l_, Ent.im tyAnswer l_ g_l_, Ent.im tyAnswer m_ g_m_, Ent.tab 1 (Lib.pow10Tab.map fun z => Value.int .u64 z), Ent.gifc 2, Ent.gifc 3] _ := hS.join [0] [0, 1, 2, 3, 4] rfl rfl hq
 clear hq
 obtain ⟨y48, hy48, hm⟩ := bindE hm
 refine wl_batch 3 9 [(.tuple ⟨[.string ⟨⟨y48.1⟩⟩, .int .i64 y48.2]⟩)] [0, 1, 5, 6, 12, 13] [(0, [], .slice g_l_.a l_.length g_l_.c), (1, [], .slice g_m_.a m_.length g_m_.c), (5, [], .bool y3), (6, [], .int .i64 y15.1), (12, [], .string ⟨⟨y48.1⟩⟩), (13, [], .int .i64 y48.2)] [fun wz => RetB Tryd.prog 21 ⟨[.slice g46.a q43.length g46.c]⟩ (.tuple ⟨[.string ⟨⟨y48.1⟩⟩, .int .i64 y48.2]⟩) wz] H45 (by decide) (by kernel_rfl) ⟨(answer_Text_ok (g_l_ := g46) m _ _ hy48 _ (s0im (s0tab s0nil (hS.at 4 rfl)) (hS.im 0 rfl))), trivial⟩ fun _ wd49 H50 hb => ?_
 clear H45
 replace hS := hS.below hb
 clear hb
 refine wl_end rfl ?_
 replace hS : SH M X w [Ent.im tyAnswer l_ g_l_, Ent.im tyAnswer m_ g_m_, Ent.tab 1 (Lib.pow10Tab.map fun z => Value.int .u64 z), Ent.gifc 2, Ent.gifc 3] _ := hS.sel [1, 3, 4, 5, 6] rfl
 refine w_seq ?_
 refine wl_start ?_
 refine wl_batch 0 2 [] [0, 1, 5, 6, 12, 13, 102, 103] [(0, [], .slice g_l_.a l_.length g_l_.c), (1, [], .slice g_m_.a m_.length g_m_.c), (5, [], .bool y3), (6, [], .int .i64 y15.1), (12, [], .string ⟨⟨y48.1⟩⟩), (13, [], .int .i64 y48.2), (102, [], .slice g_m_.a m_.length g_m_.c), (103, [], .int .i64 y15.1)] [] H50 (by decide) (by kernel_rfl) trivial fun _ wd51 H52 hb => ?_
 clear H50
 replace hS := hS.below hb
 clear hb
 obtain ⟨ho53, hm⟩ := chkE hm
 obtain ⟨q54, hq54, hm⟩ := letE hm
 have hd := hS.hand [1] [0, 1, 2, 3, 4] rfl rfl
 refine m_stp [104, 0, 1, 5, 6, 12, 13] [(0, [], .slice g_l_.a l_.length g_l_.c), (1, [], .slice g_m_.a m_.length g_m_.c), (5, [], .bool y3), (6, [], .int .i64 y15.1), (12, [], .string ⟨⟨y48.1⟩⟩), (13, [], .int .i64 y48.2)] H52 rfl rfl rfl rfl (o_sub (T := tyAnswer) (E := 26) (g := g_m_) (q := m_) (0 : Int) y15.1 .none (.some (.int .i64 y15.1)) H52 hd (hd.im 0 rfl) rfl rfl rfl rfl rfl rfl (.inl ⟨rfl, rfl⟩) (.inr ⟨_, rfl⟩) (by kernel_rfl) (by kernel_rfl) ho53) (fun _ => rfl) fun _ wd55 v H56 hq => ?_
 clear H52 hd
 obtain ⟨g57, rfl, hq⟩ := hq
 rw [← hq54] at hq
 rw [← hq54] at H56
 replace hS : SH M X w [Ent.im tyAnswer q54 g57, Ent.im tyAnswer m_ g_m_, Ent.im tyAnswer l_ g_l_, Ent.im tyAnswer m_ g_m_, Ent.tab 1 (Lib.pow10Tab.map fun z => Value.int .u64 z), Ent.gifc 2, Ent.gifc 3] _ := hS.join [1] [0, 1, 2, 3, 4] rfl rfl hq
 clear hq
 obtain ⟨y59, hy59, hm⟩ := bindE hm
 refine wl_batch 3 9 [(.tuple ⟨[.string ⟨⟨y59.1⟩⟩, .int .i64 y59.2]⟩)] [0, 1, 5, 6, 12, 13, 14, 15] [(0, [], .slice g_l_.a l_.length g_l_.c), (1, [], .slice g_m_.a m_.length g_m_.c), (5, [], .bool y3), (6, [], .int .i64 y15.1), (12, [], .string ⟨⟨y48.1⟩⟩), (13, [], .int .i64 y48.2), (14, [], .string ⟨⟨y59.1⟩⟩), (15, [], .int .i64 y59.2)] [fun wz => RetB Tryd.prog 21 ⟨[.slice g57.a q54.length g57.c]⟩ (.tuple ⟨[.string ⟨⟨y59.1⟩⟩, .int .i64 y59.2]⟩) wz] H56 (by decide) (by kernel_rfl) ⟨(answer_Text_ok (g_l_ := g57) m _ _ hy59 _ (s0im (s0tab s0nil (hS.at 4 rfl)) (hS.im 0 rfl))), trivial⟩ fun _ wd60 H61 hb => ?_
 clear H56
 replace hS := hS.below hb
 clear hb
 refine wl_end rfl ?_
 replace hS : SH M X w [Ent.im tyAnswer m_ g_m_, Ent.im tyAnswer l_ g_l_, Ent.tab 1 (Lib.pow10Tab.map fun z => Value.int .u64 z), Ent.gifc 2, Ent.gifc 3] _ := hS.sel [1, 2, 4, 5, 6] rfl
 refine w_seq ?_
 obtain ⟨x62, hx62, hm⟩ := letE hm
 refine s_reg [] [0, 1, 5, 6, 118] [(0, [], .slice g_l_.a l_.length g_l_.c), (1, [], .slice g_m_.a m_.length g_m_.c), (5, [], .bool y3), (6, [], .int .i64 y15.1), (118, [], .bool x62)] [] H61 (by subst hx62; kernel_rfl) trivial fun _ wd63 H64 hb => ?_
 clear H61
 replace hS := hS.below hb
 clear hb
 refine w_if H64 rfl (fun hc => ?c78) (fun hc => ?_)
 case c78 =>
  replace hm := bT hc hm
  refine s_reg [] [4] [(4, [], .bool false)] [] H64 (by kernel_rfl) trivial fun _ wd65 H66 hb => ?_
  clear H64
  replace hS := hS.below hb
  clear hb
  replace hS : SH M X w [Ent.tab 1 (Lib.pow10Tab.map fun z => Value.int .u64 z), Ent.gifc 2, Ent.gifc 3] _ := hS.sel [2, 3, 4] rfl
  refine w_ret ?_
  obtain rfl := someE hm
  exact retR1 H66 rfl rfl ⟨_, rfl, rfl, (hS.sel [] rfl)⟩
 replace hm := bF hc hm
 refine w_skip ?_
 refine w_seq ?_
 obtain ⟨x67, hx67, hm⟩ := letE hm
 refine s_reg [] [0, 1, 5, 6, 128] [(0, [], .slice g_l_.a l_.length g_l_.c), (1, [], .slice g_m_.a m_.length g_m_.c), (5, [], .bool y3), (6, [], .int .i64 y15.1), (128, [], .bool x67)] [] H64 (by subst hx67; kernel_rfl) trivial fun _ wd68 H69 hb => ?_
 clear H64
 replace hS := hS.below hb
 clear hb
 refine w_if H69 rfl (fun hc => ?c77) (fun hc => ?_)
 case c77 =>
  replace hm := bT hc hm
  refine s_reg [] [4] [(4, [], .bool (cond y3 ((ln l_) != (ln m_)) false))] [] H69 (by kernel_rfl) trivial fun _ wd70 H71 hb => ?_
  clear H69
  replace hS := hS.below hb
  clear hb
  replace hS : SH M X w [Ent.tab 1 (Lib.pow10Tab.map fun z => Value.int .u64 z), Ent.gifc 2, Ent.gifc 3] _ := hS.sel [2, 3, 4] rfl
  refine w_ret ?_
  obtain rfl := someE hm
  exact retR1 H71 rfl rfl ⟨_, rfl, rfl, (hS.sel [] rfl)⟩
 replace hm := bF hc hm
 refine w_skip ?_
 obtain ⟨ho72, hm⟩ := chkE hm
 obtain ⟨ho73, hm⟩ := chkE hm
 obtain ⟨y74, hy74, hm⟩ := bindE hm
 refine s_draw [(.agg ⟨[.int .i64 ((gi l_ y15.1).Err), .int .i64 ((gi l_ y15.1).Num), .slice (g_l_.s (y15.1).toNat 0).a (((gi l_ y15.1).Texts).length) (g_l_.s (y15.1).toNat 0).c, .slice (g_l_.s (y15.1).toNat 1).a (((gi l_ y15.1).Numbers).length) (g_l_.s (y15.1).toNat 1).c]⟩), (.agg ⟨[.int .i64 ((gi m_ y15.1).Err), .int .i64 ((gi m_ y15.1).Num), .slice (g_m_.s (y15.1).toNat 0).a (((gi m_ y15.1).Texts).length) (g_m_.s (y15.1).toNat 0).c, .slice (g_m_.s (y15.1).toNat 1).a (((gi m_ y15.1).Numbers).length) (g_m_.s (y15.1).toNat 1).c]⟩), (.bool y74)] [4] [(4, [], .bool (cond y3 (!y74) false))] [fun _ => (y3 = true ∧ True → oka g_l_.a ∧ 0 ≤ y15.1 ∧ y15.1 < ln l_), fun wz => (y3 = true ∧ True → V.atN (ab g_l_.a) (ao g_l_.a + (y15.1).toNat * 4) [.int .i64 ((gi l_ y15.1).Err), .int .i64 ((gi l_ y15.1).Num), .slice (g_l_.s (y15.1).toNat 0).a (((gi l_ y15.1).Texts).length) (g_l_.s (y15.1).toNat 0).c, .slice (g_l_.s (y15.1).toNat 1).a (((gi l_ y15.1).Numbers).length) (g_l_.s (y15.1).toNat 1).c] 0 wz), fun _ => (y3 = true ∧ True → oka g_m_.a ∧ 0 ≤ y15.1 ∧ y15.1 < ln m_), fun wz => (y3 = true ∧ True → V.atN (ab g_m_.a) (ao g_m_.a + (y15.1).toNat * 4) [.int .i64 ((gi m_ y15.1).Err), .int .i64 ((gi m_ y15.1).Num), .slice (g_m_.s (y15.1).toNat 0).a (((gi m_ y15.1).Texts).length) (g_m_.s (y15.1).toNat 0).c, .slice (g_m_.s (y15.1).toNat 1).a (((gi m_ y15.1).Numbers).length) (g_m_.s (y15.1).toNat 1).c] 0 wz), fun wz => (y3 = true ∧ True → RetB Tryd.prog 15 ⟨[.agg ⟨[.int .i64 ((gi l_ y15.1).Err), .int .i64 ((gi l_ y15.1).Num), .slice (g_l_.s (y15.1).toNat 0).a (((gi l_ y15.1).Texts).length) (g_l_.s (y15.1).toNat 0).c, .slice (g_l_.s (y15.1).toNat 1).a (((gi l_ y15.1).Numbers).length) (g_l_.s (y15.1).toNat 1).c]⟩, .agg ⟨[.int .i64 ((gi m_ y15.1).Err), .int .i64 ((gi m_ y15.1).Num), .slice (g_m_.s (y15.1).toNat 0).a (((gi m_ y15.1).Texts).length) (g_m_.s (y15.1).toNat 0).c, .slice (g_m_.s (y15.1).toNat 1).a (((gi m_ y15.1).Numbers).length) (g_m_.s (y15.1).toNat 1).c]⟩]⟩ (.bool y74) wz)] H69 (by kernel_rfl) (by kernel_rfl) (by kernel_rfl) ⟨fun hg => (hS.im 1 rfl).oki (ho72 hg.1), fun hg => (hS.im 1 rfl).atA (ho72 hg.1) 0 rfl, fun hg => (hS.im 0 rfl).oki (ho73 hg.1), fun hg => (hS.im 0 rfl).atA (ho73 hg.1) 0 rfl, fun hg => r40_Same_ok (g_a__0 := (g_l_.s (y15.1).toNat 0)) (g_a__1 := (g_l_.s (y15.1).toNat 1)) (g_b__0 := (g_m_.s (y15.1).toNat 0)) (g_b__1 := (g_m_.s (y15.1).toNat 1)) m _ _ _ (bT (hg.1) hy74) _ (s0im (s0im (s0im (s0im s0nil (tyAnswer_i1 ((hS.im 0 rfl).el (ho73 hg.1)))) (tyAnswer_i0 ((hS.im 0 rfl).el (ho73 hg.1)))) (tyAnswer_i1 ((hS.im 1 rfl).el (ho72 hg.1)))) (tyAnswer_i0 ((hS.im 1 rfl).el (ho72 hg.1)))), trivial⟩ fun _ wd75 H76 hb => ?_
 clear H69
 replace hS := hS.below hb
 clear hb
 replace hS : SH M X w [Ent.tab 1 (Lib.pow10Tab.map fun z => Value.int .u64 z), Ent.gifc 2, Ent.gifc 3] _ := hS.sel [2, 3, 4] rfl
 refine w_ret ?_
 obtain rfl := someE hm
 exact retR1 H76 rfl rfl ⟨_, rfl, rfl, (hS.sel [] rfl)⟩
theorem law40_AnswerFirst_ok {g_l_ : Gh} {g_m_ : Gh} (m : Nat) (l_ : List TAnswer) (m_ : List TAnswer) (r : Bool) (hm : law40_AnswerFirst m l_ m_ = some r) (w : World) (hL : S0 F0 [Ent.im tyAnswer l_ g_l_, Ent.im tyAnswer m_ g_m_, Ent.tab 1 (Lib.pow10Tab.map fun z => Value.int .u64 z), Ent.gifc 2, Ent.gifc 3] w ∧ fpl [Ent.im tyAnswer l_ g_l_, Ent.im tyAnswer m_ g_m_, Ent.tab 1 (Lib.pow10Tab.map fun z => Value.int .u64 z), Ent.gifc 2, Ent.gifc 3] = []) : RetB Tryd.prog 5 ⟨[.slice g_l_.a l_.length g_l_.c, .slice g_m_.a m_.length g_m_.c]⟩ (.bool r) w := retB_of hL (Tryd.call5 _) (fun w' h => law40_AnswerFirst_w F0 m   l_ m_ r hm w' h)

end Go.Proofs.YtipafpkdkhnjmaaDoor
