/-
  What the Go functions compute, as Lean functions, and that a call returns just that. Printed by a program.
-/
import Derived.Test.YtipafpkdkhnjmaaDoorRows
import Derived.Test.YtipafpkdkhnjmaaDoorA
import Derived.Test.YtipafpkdkhnjmaaDoorIA
import Derived.Test.YtipafpkdkhnjmaaDoorM
import Derived.Test.YtipafpkdkhnjmaaDoorW40Oa
set_option linter.unusedVariables false
set_option maxRecDepth 20000
set_option maxHeartbeats 4000000
namespace Go.Proofs.YtipafpkdkhnjmaaDoor
open Go.V Go.RowKit

theorem r40_Same_w {g_a__0 : Gh} {g_a__1 : Gh} {g_b__0 : Gh} {g_b__1 : Gh} (M : Av) (m : Nat) (a_ : TAnswer) (b_ : TAnswer) (r : Bool) (hm : r40_Same m a_ b_ = some r) (w : World) (hS : S0 M [Ent.im tS a_.Texts g_a__0, Ent.im (tI .i64) a_.Numbers g_a__1, Ent.im tS b_.Texts g_b__0, Ent.im (tI .i64) b_.Numbers g_b__1] w) : Calls Tryd.prog 15 ⟨[.agg ⟨[.int .i64 a_.Err, .int .i64 a_.Num, .slice g_a__0.a a_.Texts.length g_a__0.c, .slice g_a__1.a a_.Numbers.length g_a__1.c]⟩, .agg ⟨[.int .i64 b_.Err, .int .i64 b_.Num, .slice g_b__0.a b_.Texts.length g_b__0.c, .slice g_b__1.a b_.Numbers.length g_b__1.c]⟩]⟩ w (fun e w' => ∃ v, e = .returned v ∧ v = .bool r ∧ SH M (fpl [Ent.im tS a_.Texts g_a__0, Ent.im (tI .i64) a_.Numbers g_a__1, Ent.im tS b_.Texts g_b__0, Ent.im (tI .i64) b_.Numbers g_b__1]) w [] w') := by
 rw [r40_Same] at hm
 have hS0 : SH M (fpl [Ent.im tS a_.Texts g_a__0, Ent.im (tI .i64) a_.Numbers g_a__1, Ent.im tS b_.Texts g_b__0, Ent.im (tI .i64) b_.Numbers g_b__1]) w [Ent.im tS a_.Texts g_a__0, Ent.im (tI .i64) a_.Numbers g_a__1, Ent.im tS b_.Texts g_b__0, Ent.im (tI .i64) b_.Numbers g_b__1] w := hS
 generalize hX : fpl [Ent.im tS a_.Texts g_a__0, Ent.im (tI .i64) a_.Numbers g_a__1, Ent.im tS b_.Texts g_b__0, Ent.im (tI .i64) b_.Numbers g_b__1] = X at hS0 ⊢
 clear hS hX
 have hS := hS0
 clear hS0
 refine calls_entryP Tryd.func15 rfl Tryd.ntmps15 rfl fun _ H => ?_
 refine w_seq ?_
 refine wl_start ?_
 have hd := hS.hand [] [0, 1, 2, 3] rfl rfl
 refine m_stp [2, 1] [(1, [], .agg ⟨[.int .i64 b_.Err, .int .i64 b_.Num, .slice g_b__0.a b_.Texts.length g_b__0.c, .slice g_b__1.a b_.Numbers.length g_b__1.c]⟩)] H rfl rfl rfl rfl (o_box [.int .i64 a_.Err, .int .i64 a_.Num, .slice g_a__0.a a_.Texts.length g_a__0.c, .slice g_a__1.a a_.Numbers.length g_a__1.c] H hd rfl rfl) (fun _ => rfl) fun _ wd2 v H3 hq => ?_
 clear H hd
 obtain ⟨b1, rfl, hq⟩ := hq
 replace hS : SH M X w [Ent.blk b1 [.int .i64 a_.Err, .int .i64 a_.Num, .slice g_a__0.a a_.Texts.length g_a__0.c, .slice g_a__1.a a_.Numbers.length g_a__1.c], Ent.im tS a_.Texts g_a__0, Ent.im (tI .i64) a_.Numbers g_a__1, Ent.im tS b_.Texts g_b__0, Ent.im (tI .i64) b_.Numbers g_b__1] _ := hS.join [] [0, 1, 2, 3] rfl rfl hq
 clear hq
 have hd := hS.hand [] [0, 1, 2, 3, 4] rfl rfl
 refine m_stp [3, 2] [(2, [], .pointer (some ⟨b1, 0, none⟩))] H3 rfl rfl rfl rfl (o_box [.int .i64 b_.Err, .int .i64 b_.Num, .slice g_b__0.a b_.Texts.length g_b__0.c, .slice g_b__1.a b_.Numbers.length g_b__1.c] H3 hd rfl rfl) (fun _ => rfl) fun _ wd5 v H6 hq => ?_
 clear H3 hd
 obtain ⟨b4, rfl, hq⟩ := hq
 replace hS : SH M X w [Ent.blk b4 [.int .i64 b_.Err, .int .i64 b_.Num, .slice g_b__0.a b_.Texts.length g_b__0.c, .slice g_b__1.a b_.Numbers.length g_b__1.c], Ent.blk b1 [.int .i64 a_.Err, .int .i64 a_.Num, .slice g_a__0.a a_.Texts.length g_a__0.c, .slice g_a__1.a a_.Numbers.length g_a__1.c], Ent.im tS a_.Texts g_a__0, Ent.im (tI .i64) a_.Numbers g_a__1, Ent.im tS b_.Texts g_b__0, Ent.im (tI .i64) b_.Numbers g_b__1] _ := hS.join [] [0, 1, 2, 3, 4] rfl rfl hq
 clear hq
 refine wl_batch 2 3 [] [2, 3] [(2, [], .pointer (some ⟨b1, 0, none⟩)), (3, [], .pointer (some ⟨b4, 0, none⟩))] [] H6 (by decide) (by kernel_rfl) trivial fun _ wd7 H8 hb => ?_
 clear H6
 replace hS := hS.below hb
 clear hb
 refine wl_end rfl ?_
 refine w_seq ?_
 obtain ⟨x9, hx9, hm⟩ := letE hm
 obtain ⟨x10, hx10, hm⟩ := letE hm
 obtain ⟨x11, hx11, hm⟩ := letE hm
 refine s_reg [(.int .i64 a_.Err), (.int .i64 b_.Err), (.int .i64 a_.Num), (.int .i64 b_.Num), (.slice g_a__0.a a_.Texts.length g_a__0.c), (.slice g_b__0.a b_.Texts.length g_b__0.c), (.slice g_a__1.a a_.Numbers.length g_a__1.c), (.slice g_b__1.a b_.Numbers.length g_b__1.c)] [2, 3, 36] [(2, [], .pointer (some ⟨b1, 0, none⟩)), (3, [], .pointer (some ⟨b4, 0, none⟩)), (36, [], .bool x11)] [fun wz => V.at1 ⟨b1, 0, none⟩ (.int .i64 a_.Err) wz, fun wz => V.at1 ⟨b4, 0, none⟩ (.int .i64 b_.Err) wz, fun wz => ((a_.Err != b_.Err) = false ∧ True → V.at1 ⟨b1, 1, none⟩ (.int .i64 a_.Num) wz), fun wz => ((a_.Err != b_.Err) = false ∧ True → V.at1 ⟨b4, 1, none⟩ (.int .i64 b_.Num) wz), fun wz => (x9 = false ∧ True → V.at1 ⟨b1, 2, none⟩ (.slice g_a__0.a a_.Texts.length g_a__0.c) wz), fun wz => (x9 = false ∧ True → V.at1 ⟨b4, 2, none⟩ (.slice g_b__0.a b_.Texts.length g_b__0.c) wz), fun wz => (x10 = false ∧ True → V.at1 ⟨b1, 3, none⟩ (.slice g_a__1.a a_.Numbers.length g_a__1.c) wz), fun wz => (x10 = false ∧ True → V.at1 ⟨b4, 3, none⟩ (.slice g_b__1.a b_.Numbers.length g_b__1.c) wz)] H8 (by subst hx9 hx10 hx11; kernel_rfl) ⟨((hS.bk 1 rfl).at1 rfl), ((hS.bk 0 rfl).at1 rfl), fun hg => (hS.bk 1 rfl).at1 rfl, fun hg => (hS.bk 0 rfl).at1 rfl, fun hg => (hS.bk 1 rfl).at1 rfl, fun hg => (hS.bk 0 rfl).at1 rfl, fun hg => (hS.bk 1 rfl).at1 rfl, fun hg => (hS.bk 0 rfl).at1 rfl, trivial⟩ fun _ wd12 H13 hb => ?_
 clear H8
 replace hS := hS.below hb
 clear hb
 refine w_if H13 rfl (fun hc => ?c56) (fun hc => ?_)
 case c56 =>
  replace hm := bT hc hm
  refine s_reg [] [4] [(4, [], .bool false)] [] H13 (by kernel_rfl) trivial fun _ wd14 H15 hb => ?_
  clear H13
  replace hS := hS.below hb
  clear hb
  replace hS : SH M X w [] _ := hS.sel [] rfl
  refine w_ret ?_
  obtain rfl := someE hm
  exact retR1 H15 rfl rfl ⟨_, rfl, rfl, (hS.sel [] rfl)⟩
 replace hm := bF hc hm
 refine w_skip ?_
 obtain ⟨z16, hz, hm_z16⟩ := bindE hm
 refine w_cut (fun a' w' => ∃ s_z16 : Unit, z16 = Sum.inr s_z16 ∧ Fr 73 [(2, [], .pointer (some ⟨b1, 0, none⟩)), (3, [], .pointer (some ⟨b4, 0, none⟩))] a' ∧ SH M X w [Ent.blk b4 [.int .i64 b_.Err, .int .i64 b_.Num, .slice g_b__0.a b_.Texts.length g_b__0.c, .slice g_b__1.a b_.Numbers.length g_b__1.c], Ent.blk b1 [.int .i64 a_.Err, .int .i64 a_.Num, .slice g_a__0.a a_.Texts.length g_a__0.c, .slice g_a__1.a a_.Numbers.length g_a__1.c], Ent.im tS a_.Texts g_a__0, Ent.im (tI .i64) a_.Numbers g_a__1, Ent.im tS b_.Texts g_b__0, Ent.im (tI .i64) b_.Numbers g_b__1] w') ?_ ?_
 ·replace hm := hz
  refine s_reg [] [2, 3, 5] [(2, [], .pointer (some ⟨b1, 0, none⟩)), (3, [], .pointer (some ⟨b4, 0, none⟩)), (5, [], .int .i64 0)] [] H13 (by kernel_rfl) trivial fun _ wd17 H18 hb => ?_
  clear H13
  replace hS := hS.below hb
  clear hb
  refine w_block ?_
  refine w_loop (fun kk a' w' => ∃ (v19 : Int), r40_Same_L1 m a_ b_ kk v19 = some _ ∧ Fr 73 [(2, [], .pointer (some ⟨b1, 0, none⟩)), (3, [], .pointer (some ⟨b4, 0, none⟩)), (5, [], .int .i64 v19)] a' ∧ SH M X w [Ent.blk b4 [.int .i64 b_.Err, .int .i64 b_.Num, .slice g_b__0.a b_.Texts.length g_b__0.c, .slice g_b__1.a b_.Numbers.length g_b__1.c], Ent.blk b1 [.int .i64 a_.Err, .int .i64 a_.Num, .slice g_a__0.a a_.Texts.length g_a__0.c, .slice g_a__1.a a_.Numbers.length g_a__1.c], Ent.im tS a_.Texts g_a__0, Ent.im (tI .i64) a_.Numbers g_a__1, Ent.im tS b_.Texts g_b__0, Ent.im (tI .i64) b_.Numbers g_b__1] w') ⟨_, 0, hm, FrG.keep (ks := [2, 3, 5]) H18 (by kernel_rfl), hS⟩ ?_
  clear hm H18 hS
  rintro kk _ wd33 ⟨v19, hm, H, hS⟩
  cases kk with
  | zero => exact noneE hm
  | succ kk =>
   rw [r40_Same_L1] at hm
   refine w_seq ?_
   refine s_reg [(.slice g_a__0.a a_.Texts.length g_a__0.c)] [2, 3, 5, 41] [(2, [], .pointer (some ⟨b1, 0, none⟩)), (3, [], .pointer (some ⟨b4, 0, none⟩)), (5, [], .int .i64 v19), (41, [], .bool (decide (v19 < (ln a_.Texts))))] [fun wz => V.at1 ⟨b1, 2, none⟩ (.slice g_a__0.a a_.Texts.length g_a__0.c) wz] H (by kernel_rfl) ⟨((hS.bk 1 rfl).at1 rfl), trivial⟩ fun _ wd20 H21 hb => ?_
   clear H
   replace hS := hS.below hb
   clear hb
   refine w_if H21 rfl (fun hc => ?_) (fun hc => ?c32)
   case c32 =>
    replace hm := bF hc hm
    refine w_exit rfl ?_
    obtain rfl := someE hm
    exact ⟨_, rfl, FrG.keep (ks := [2, 3]) H21 (by kernel_rfl), hS⟩
   replace hm := bT hc hm
   refine w_skip ?_
   refine w_seq ?_
   refine w_block ?_
   obtain ⟨ho22, hm⟩ := chkE hm
   obtain ⟨ho23, hm⟩ := chkE hm
   obtain ⟨x24, hx24, hm⟩ := letE hm
   refine s_draw [(.slice g_a__0.a a_.Texts.length g_a__0.c), (.string ⟨⟨(gi a_.Texts v19)⟩⟩), (.slice g_b__0.a b_.Texts.length g_b__0.c), (.string ⟨⟨(gi b_.Texts v19)⟩⟩)] [2, 3, 5, 54] [(2, [], .pointer (some ⟨b1, 0, none⟩)), (3, [], .pointer (some ⟨b4, 0, none⟩)), (5, [], .int .i64 v19), (54, [], .bool x24)] [fun wz => V.at1 ⟨b1, 2, none⟩ (.slice g_a__0.a a_.Texts.length g_a__0.c) wz, fun _ => oka g_a__0.a ∧ 0 ≤ v19 ∧ v19 < ln a_.Texts, fun wz => V.at1 ⟨ab g_a__0.a, ao g_a__0.a + (v19).toNat * 1, none⟩ (.string ⟨⟨(gi a_.Texts v19)⟩⟩) wz, fun wz => V.at1 ⟨b4, 2, none⟩ (.slice g_b__0.a b_.Texts.length g_b__0.c) wz, fun _ => oka g_b__0.a ∧ 0 ≤ v19 ∧ v19 < ln b_.Texts, fun wz => V.at1 ⟨ab g_b__0.a, ao g_b__0.a + (v19).toNat * 1, none⟩ (.string ⟨⟨(gi b_.Texts v19)⟩⟩) wz] H21 (by kernel_rfl) (by kernel_rfl) (by subst hx24; kernel_rfl) ⟨((hS.bk 1 rfl).at1 rfl), ((hS.im 2 rfl).oki ho22), ((hS.im 2 rfl).at1 ho22 0 rfl), ((hS.bk 0 rfl).at1 rfl), ((hS.im 4 rfl).oki ho23), ((hS.im 4 rfl).at1 ho23 0 rfl), trivial⟩ fun _ wd25 H26 hb => ?_
   clear H21
   replace hS := hS.below hb
   clear hb
   refine w_if H26 rfl (fun hc => ?_) (fun hc => ?c31)
   case c31 =>
    replace hm := bF hc hm
    refine w_skip ?_
    refine w_reg [] [2, 3, 5] [(2, [], .pointer (some ⟨b1, 0, none⟩)), (3, [], .pointer (some ⟨b4, 0, none⟩)), (5, [], .int .i64 (w64 (v19 + 1)))] [] H26 (by kernel_rfl) trivial fun _ wd29 H30 hb => ?_
    clear H26
    replace hS := hS.below hb
    clear hb
    exact ⟨_, Nat.lt_succ_self _, w64 (v19 + 1), hm, FrG.keep (ks := [2, 3, 5]) H30 (by kernel_rfl), hS⟩
   replace hm := bT hc hm
   refine s_reg [] [4] [(4, [], .bool false)] [] H26 (by kernel_rfl) trivial fun _ wd27 H28 hb => ?_
   clear H26
   replace hS := hS.below hb
   clear hb
   refine w_ret ?_
   obtain rfl := someE hm
   have hm := hm_z16
   obtain rfl := someE hm
   exact retR1 H28 rfl rfl ⟨_, rfl, rfl, (hS.sel [] rfl)⟩
 ·rintro _ wd55 ⟨s_z16, hz, H, hS⟩
  subst hz
  replace hm := sumR hm_z16
  obtain ⟨z34, hz, hm_z34⟩ := bindE hm
  refine w_cut (fun a' w' => ∃ s_z34 : Unit, z34 = Sum.inr s_z34 ∧ Fr 73 [] a' ∧ SH M X w [Ent.blk b4 [.int .i64 b_.Err, .int .i64 b_.Num, .slice g_b__0.a b_.Texts.length g_b__0.c, .slice g_b__1.a b_.Numbers.length g_b__1.c], Ent.blk b1 [.int .i64 a_.Err, .int .i64 a_.Num, .slice g_a__0.a a_.Texts.length g_a__0.c, .slice g_a__1.a a_.Numbers.length g_a__1.c], Ent.im tS a_.Texts g_a__0, Ent.im (tI .i64) a_.Numbers g_a__1, Ent.im tS b_.Texts g_b__0, Ent.im (tI .i64) b_.Numbers g_b__1] w') ?_ ?_
  ·replace hm := hz
   refine s_reg [] [2, 3, 6] [(2, [], .pointer (some ⟨b1, 0, none⟩)), (3, [], .pointer (some ⟨b4, 0, none⟩)), (6, [], .int .i64 0)] [] H (by kernel_rfl) trivial fun _ wd35 H36 hb => ?_
   clear H
   replace hS := hS.below hb
   clear hb
   refine w_block ?_
   refine w_loop (fun kk a' w' => ∃ (v37 : Int), r40_Same_L2 m a_ b_ kk v37 = some _ ∧ Fr 73 [(2, [], .pointer (some ⟨b1, 0, none⟩)), (3, [], .pointer (some ⟨b4, 0, none⟩)), (6, [], .int .i64 v37)] a' ∧ SH M X w [Ent.blk b4 [.int .i64 b_.Err, .int .i64 b_.Num, .slice g_b__0.a b_.Texts.length g_b__0.c, .slice g_b__1.a b_.Numbers.length g_b__1.c], Ent.blk b1 [.int .i64 a_.Err, .int .i64 a_.Num, .slice g_a__0.a a_.Texts.length g_a__0.c, .slice g_a__1.a a_.Numbers.length g_a__1.c], Ent.im tS a_.Texts g_a__0, Ent.im (tI .i64) a_.Numbers g_a__1, Ent.im tS b_.Texts g_b__0, Ent.im (tI .i64) b_.Numbers g_b__1] w') ⟨_, 0, hm, FrG.keep (ks := [2, 3, 6]) H36 (by kernel_rfl), hS⟩ ?_
   clear hm H36 hS
   rintro kk _ wd51 ⟨v37, hm, H, hS⟩
   cases kk with
   | zero => exact noneE hm
   | succ kk =>
    rw [r40_Same_L2] at hm
    refine w_seq ?_
    refine s_reg [(.slice g_a__1.a a_.Numbers.length g_a__1.c)] [2, 3, 6, 59] [(2, [], .pointer (some ⟨b1, 0, none⟩)), (3, [], .pointer (some ⟨b4, 0, none⟩)), (6, [], .int .i64 v37), (59, [], .bool (decide (v37 < (ln a_.Numbers))))] [fun wz => V.at1 ⟨b1, 3, none⟩ (.slice g_a__1.a a_.Numbers.length g_a__1.c) wz] H (by kernel_rfl) ⟨((hS.bk 1 rfl).at1 rfl), trivial⟩ fun _ wd38 H39 hb => ?_
    clear H
    replace hS := hS.below hb
    clear hb
    refine w_if H39 rfl (fun hc => ?_) (fun hc => ?c50)
    case c50 =>
     replace hm := bF hc hm
     refine w_exit rfl ?_
     obtain rfl := someE hm
     exact ⟨_, rfl, FrG.keep (ks := []) H39 (by kernel_rfl), hS⟩
    replace hm := bT hc hm
    refine w_skip ?_
    refine w_seq ?_
    refine w_block ?_
    obtain ⟨ho40, hm⟩ := chkE hm
    obtain ⟨ho41, hm⟩ := chkE hm
    obtain ⟨x42, hx42, hm⟩ := letE hm
    refine s_draw [(.slice g_a__1.a a_.Numbers.length g_a__1.c), (.int .i64 (gi a_.Numbers v37)), (.slice g_b__1.a b_.Numbers.length g_b__1.c), (.int .i64 (gi b_.Numbers v37))] [2, 3, 6, 72] [(2, [], .pointer (some ⟨b1, 0, none⟩)), (3, [], .pointer (some ⟨b4, 0, none⟩)), (6, [], .int .i64 v37), (72, [], .bool x42)] [fun wz => V.at1 ⟨b1, 3, none⟩ (.slice g_a__1.a a_.Numbers.length g_a__1.c) wz, fun _ => oka g_a__1.a ∧ 0 ≤ v37 ∧ v37 < ln a_.Numbers, fun wz => V.at1 ⟨ab g_a__1.a, ao g_a__1.a + (v37).toNat * 1, none⟩ (.int .i64 (gi a_.Numbers v37)) wz, fun wz => V.at1 ⟨b4, 3, none⟩ (.slice g_b__1.a b_.Numbers.length g_b__1.c) wz, fun _ => oka g_b__1.a ∧ 0 ≤ v37 ∧ v37 < ln b_.Numbers, fun wz => V.at1 ⟨ab g_b__1.a, ao g_b__1.a + (v37).toNat * 1, none⟩ (.int .i64 (gi b_.Numbers v37)) wz] H39 (by kernel_rfl) (by kernel_rfl) (by subst hx42; kernel_rfl) ⟨((hS.bk 1 rfl).at1 rfl), ((hS.im 3 rfl).oki ho40), ((hS.im 3 rfl).at1 ho40 0 rfl), ((hS.bk 0 rfl).at1 rfl), ((hS.im 5 rfl).oki ho41), ((hS.im 5 rfl).at1 ho41 0 rfl), trivial⟩ fun _ wd43 H44 hb => ?_
    clear H39
    replace hS := hS.below hb
    clear hb
    refine w_if H44 rfl (fun hc => ?_) (fun hc => ?c49)
    case c49 =>
     replace hm := bF hc hm
     refine w_skip ?_
     refine w_reg [] [2, 3, 6] [(2, [], .pointer (some ⟨b1, 0, none⟩)), (3, [], .pointer (some ⟨b4, 0, none⟩)), (6, [], .int .i64 (w64 (v37 + 1)))] [] H44 (by kernel_rfl) trivial fun _ wd47 H48 hb => ?_
     clear H44
     replace hS := hS.below hb
     clear hb
     exact ⟨_, Nat.lt_succ_self _, w64 (v37 + 1), hm, FrG.keep (ks := [2, 3, 6]) H48 (by kernel_rfl), hS⟩
    replace hm := bT hc hm
    refine s_reg [] [4] [(4, [], .bool false)] [] H44 (by kernel_rfl) trivial fun _ wd45 H46 hb => ?_
    clear H44
    replace hS := hS.below hb
    clear hb
    refine w_ret ?_
    obtain rfl := someE hm
    have hm := hm_z34
    obtain rfl := someE hm
    exact retR1 H46 rfl rfl ⟨_, rfl, rfl, (hS.sel [] rfl)⟩
  ·rintro _ wd54 ⟨s_z34, hz, H, hS⟩
   subst hz
   replace hm := sumR hm_z34
   replace hS : SH M X w [] _ := hS.sel [] rfl
   refine s_reg [] [4] [(4, [], .bool true)] [] H (by kernel_rfl) trivial fun _ wd52 H53 hb => ?_
   clear H
   replace hS := hS.below hb
   clear hb
   refine w_ret ?_
   obtain rfl := someE hm
   exact retR1 H53 rfl rfl ⟨_, rfl, rfl, (hS.sel [] rfl)⟩
theorem r40_Same_ok {g_a__0 : Gh} {g_a__1 : Gh} {g_b__0 : Gh} {g_b__1 : Gh} (m : Nat) (a_ : TAnswer) (b_ : TAnswer) (r : Bool) (hm : r40_Same m a_ b_ = some r) (w : World) (hL : S0 F0 [Ent.im tS a_.Texts g_a__0, Ent.im (tI .i64) a_.Numbers g_a__1, Ent.im tS b_.Texts g_b__0, Ent.im (tI .i64) b_.Numbers g_b__1] w ∧ fpl [Ent.im tS a_.Texts g_a__0, Ent.im (tI .i64) a_.Numbers g_a__1, Ent.im tS b_.Texts g_b__0, Ent.im (tI .i64) b_.Numbers g_b__1] = []) : RetB Tryd.prog 15 ⟨[.agg ⟨[.int .i64 a_.Err, .int .i64 a_.Num, .slice g_a__0.a a_.Texts.length g_a__0.c, .slice g_a__1.a a_.Numbers.length g_a__1.c]⟩, .agg ⟨[.int .i64 b_.Err, .int .i64 b_.Num, .slice g_b__0.a b_.Texts.length g_b__0.c, .slice g_b__1.a b_.Numbers.length g_b__1.c]⟩]⟩ (.bool r) w := retB_of hL (Tryd.call15 _) (fun w' h => r40_Same_w F0 m   a_ b_ r hm w' h)

theorem law40_is_w {g_a__0 : Gh} {g_a__1 : Gh} (M : Av) (m : Nat) (a_ : TAnswer) (want : Str) (r : Bool) (hm : law40_is m a_ want = some r) (w : World) (hS : S0 M [Ent.im tS a_.Texts g_a__0, Ent.im (tI .i64) a_.Numbers g_a__1, Ent.tab 1 (Lib.pow10Tab.map fun z => Value.int .u64 z), Ent.gifc 2, Ent.gifc 3] w) : Calls Tryd.prog 24 ⟨[.agg ⟨[.int .i64 a_.Err, .int .i64 a_.Num, .slice g_a__0.a a_.Texts.length g_a__0.c, .slice g_a__1.a a_.Numbers.length g_a__1.c]⟩, .string ⟨⟨want⟩⟩]⟩ w (fun e w' => ∃ v, e = .returned v ∧ v = .bool r ∧ SH M (fpl [Ent.im tS a_.Texts g_a__0, Ent.im (tI .i64) a_.Numbers g_a__1, Ent.tab 1 (Lib.pow10Tab.map fun z => Value.int .u64 z), Ent.gifc 2, Ent.gifc 3]) w [] w') := by
 rw [law40_is] at hm
 have hS0 : SH M (fpl [Ent.im tS a_.Texts g_a__0, Ent.im (tI .i64) a_.Numbers g_a__1, Ent.tab 1 (Lib.pow10Tab.map fun z => Value.int .u64 z), Ent.gifc 2, Ent.gifc 3]) w [Ent.im tS a_.Texts g_a__0, Ent.im (tI .i64) a_.Numbers g_a__1, Ent.tab 1 (Lib.pow10Tab.map fun z => Value.int .u64 z), Ent.gifc 2, Ent.gifc 3] w := hS
 generalize hX : fpl [Ent.im tS a_.Texts g_a__0, Ent.im (tI .i64) a_.Numbers g_a__1, Ent.tab 1 (Lib.pow10Tab.map fun z => Value.int .u64 z), Ent.gifc 2, Ent.gifc 3] = X at hS0 ⊢
 clear hS hX
 have hS := hS0
 clear hS0
 refine calls_entryP Tryd.func24 rfl Tryd.ntmps24 rfl fun _ H => ?_
 refine w_seq ?_
 refine wl_start ?_
 have hd := hS.hand [] [0, 1, 2, 3, 4] rfl rfl
 refine m_stp [2, 1] [(1, [], .string ⟨⟨want⟩⟩)] H rfl rfl rfl rfl (o_box [.int .i64 a_.Err, .int .i64 a_.Num, .slice g_a__0.a a_.Texts.length g_a__0.c, .slice g_a__1.a a_.Numbers.length g_a__1.c] H hd rfl rfl) (fun _ => rfl) fun _ wd2 v H3 hq => ?_
 clear H hd
 obtain ⟨b1, rfl, hq⟩ := hq
 replace hS : SH M X w [Ent.blk b1 [.int .i64 a_.Err, .int .i64 a_.Num, .slice g_a__0.a a_.Texts.length g_a__0.c, .slice g_a__1.a a_.Numbers.length g_a__1.c], Ent.im tS a_.Texts g_a__0, Ent.im (tI .i64) a_.Numbers g_a__1, Ent.tab 1 (Lib.pow10Tab.map fun z => Value.int .u64 z), Ent.gifc 2, Ent.gifc 3] _ := hS.join [] [0, 1, 2, 3, 4] rfl rfl hq
 clear hq
 refine wl_batch 1 2 [] [1, 2] [(1, [], .string ⟨⟨want⟩⟩), (2, [], .pointer (some ⟨b1, 0, none⟩))] [] H3 (by decide) (by kernel_rfl) trivial fun _ wd4 H5 hb => ?_
 clear H3
 replace hS := hS.below hb
 clear hb
 refine wl_end rfl ?_
 obtain ⟨y6, hy6, hm⟩ := bindE hm
 refine s_reg [(.agg ⟨[.int .i64 a_.Err, .int .i64 a_.Num, .slice g_a__0.a a_.Texts.length g_a__0.c, .slice g_a__1.a a_.Numbers.length g_a__1.c]⟩), (.tuple ⟨[.string ⟨⟨y6.1⟩⟩, .int .i64 y6.2]⟩)] [1, 2, 5, 6] [(1, [], .string ⟨⟨want⟩⟩), (2, [], .pointer (some ⟨b1, 0, none⟩)), (5, [], .string ⟨⟨y6.1⟩⟩), (6, [], .int .i64 y6.2)] [fun wz => V.atN b1 0 [.int .i64 a_.Err, .int .i64 a_.Num, .slice g_a__0.a a_.Texts.length g_a__0.c, .slice g_a__1.a a_.Numbers.length g_a__1.c] 0 wz, fun wz => RetB Tryd.prog 9 ⟨[.agg ⟨[.int .i64 a_.Err, .int .i64 a_.Num, .slice g_a__0.a a_.Texts.length g_a__0.c, .slice g_a__1.a a_.Numbers.length g_a__1.c]⟩]⟩ (.tuple ⟨[.string ⟨⟨y6.1⟩⟩, .int .i64 y6.2]⟩) wz] H5 (by kernel_rfl) ⟨((hS.bk 0 rfl).atD rfl), (answer_Line_ok (g_a__0 := g_a__0) (g_a__1 := g_a__1) m _ _ hy6 _ (s0im (s0im (s0tab s0nil (hS.at 3 rfl)) (hS.im 2 rfl)) (hS.im 1 rfl))), trivial⟩ fun _ wd7 H8 hb => ?_
 clear H5
 replace hS := hS.below hb
 clear hb
 refine w_seq ?_
 refine wl_start ?_
 refine wl_batch 0 1 [] [1, 2, 5, 6, 15] [(1, [], .string ⟨⟨want⟩⟩), (2, [], .pointer (some ⟨b1, 0, none⟩)), (5, [], .string ⟨⟨y6.1⟩⟩), (6, [], .int .i64 y6.2), (15, [], .string ⟨⟨want⟩⟩)] [] H8 (by decide) (by kernel_rfl) trivial fun _ wd9 H10 hb => ?_
 clear H8
 replace hS := hS.below hb
 clear hb
 obtain ⟨y11, hy11, hm⟩ := bindE hm
 have hd := hS.hand [4, 5, 3] [0, 1, 2, 3, 4, 5] rfl rfl
 refine m_stp [16, 1, 2, 5, 6] [(1, [], .string ⟨⟨want⟩⟩), (2, [], .pointer (some ⟨b1, 0, none⟩)), (5, [], .string ⟨⟨y6.1⟩⟩), (6, [], .int .i64 y6.2)] H10 rfl rfl rfl rfl (o_callx H10 rfl rfl (answer_ReadLine_ok m _ _ hy11 _ _ hd)) (fun _ => rfl) fun _ wd16 v H17 hq => ?_
 clear H10 hd
 obtain ⟨g12, g14, rfl, hq⟩ := hq
 replace hS : SH M X w [Ent.im tS y11.1.Texts g12, Ent.own 3 (tI .i64) y11.1.Numbers g14, Ent.blk b1 [.int .i64 a_.Err, .int .i64 a_.Num, .slice g_a__0.a a_.Texts.length g_a__0.c, .slice g_a__1.a a_.Numbers.length g_a__1.c], Ent.im tS a_.Texts g_a__0, Ent.im (tI .i64) a_.Numbers g_a__1, Ent.tab 1 (Lib.pow10Tab.map fun z => Value.int .u64 z), Ent.gifc 2, Ent.gifc 3] _ := hS.join [4, 5, 3] [0, 1, 2, 3, 4, 5] rfl rfl hq
 clear hq
 refine wl_batch 2 5 [] [1, 2, 5, 6, 17, 18] [(1, [], .string ⟨⟨want⟩⟩), (2, [], .pointer (some ⟨b1, 0, none⟩)), (5, [], .string ⟨⟨y6.1⟩⟩), (6, [], .int .i64 y6.2), (17, [], .agg ⟨[.int .i64 y11.1.Err, .int .i64 y11.1.Num, .slice g12.a y11.1.Texts.length g12.c, .slice g14.a y11.1.Numbers.length g14.c]⟩), (18, [], .int .i64 y11.2)] [] H17 (by decide) (by kernel_rfl) trivial fun _ wd18 H19 hb => ?_
 clear H17
 replace hS := hS.below hb
 clear hb
 have hd := hS.hand [] [0, 1, 2, 3, 4, 5, 6, 7] rfl rfl
 refine m_stp [7, 1, 2, 5, 6, 17, 18] [(1, [], .string ⟨⟨want⟩⟩), (2, [], .pointer (some ⟨b1, 0, none⟩)), (5, [], .string ⟨⟨y6.1⟩⟩), (6, [], .int .i64 y6.2), (17, [], .agg ⟨[.int .i64 y11.1.Err, .int .i64 y11.1.Num, .slice g12.a y11.1.Texts.length g12.c, .slice g14.a y11.1.Numbers.length g14.c]⟩), (18, [], .int .i64 y11.2)] H19 rfl rfl rfl rfl (o_alloc [.int .i64 0, .int .i64 0, .slice none 0 0, .slice none 0 0] (z := .agg ⟨[.int .i64 0, .int .i64 0, .slice none 0 0, .slice none 0 0]⟩) hd (by kernel_rfl) rfl) (fun _ => rfl) fun _ wd21 v H22 hq => ?_
 clear H19 hd
 obtain ⟨b20, rfl, hq⟩ := hq
 replace hS : SH M X w [Ent.blk b20 [.int .i64 0, .int .i64 0, .slice none 0 0, .slice none 0 0], Ent.im tS y11.1.Texts g12, Ent.own 3 (tI .i64) y11.1.Numbers g14, Ent.blk b1 [.int .i64 a_.Err, .int .i64 a_.Num, .slice g_a__0.a a_.Texts.length g_a__0.c, .slice g_a__1.a a_.Numbers.length g_a__1.c], Ent.im tS a_.Texts g_a__0, Ent.im (tI .i64) a_.Numbers g_a__1, Ent.tab 1 (Lib.pow10Tab.map fun z => Value.int .u64 z), Ent.gifc 2, Ent.gifc 3] _ := hS.join [] [0, 1, 2, 3, 4, 5, 6, 7] rfl rfl hq
 clear hq
 have hd := hS.hand [0] [1, 2, 3, 4, 5, 6, 7, 8] rfl rfl
 refine m_stp0 [1, 2, 5, 6, 7, 18] [(1, [], .string ⟨⟨want⟩⟩), (2, [], .pointer (some ⟨b1, 0, none⟩)), (5, [], .string ⟨⟨y6.1⟩⟩), (6, [], .int .i64 y6.2), (7, [], .pointer (some ⟨b20, 0, none⟩)), (18, [], .int .i64 y11.2)] H22 rfl rfl rfl (o_store [.int .i64 y11.1.Err, .int .i64 y11.1.Num, .slice g12.a y11.1.Texts.length g12.c, .slice g14.a y11.1.Numbers.length g14.c] H22 hd rfl rfl (by kernel_rfl) rfl rfl rfl) rfl fun _ wd23 H24 hq => ?_
 clear H22 hd
 obtain ⟨_, hq⟩ := hq
 replace hS : SH M X w [Ent.blk b20 [.int .i64 y11.1.Err, .int .i64 y11.1.Num, .slice g12.a y11.1.Texts.length g12.c, .slice g14.a y11.1.Numbers.length g14.c], Ent.im tS y11.1.Texts g12, Ent.own 3 (tI .i64) y11.1.Numbers g14, Ent.blk b1 [.int .i64 a_.Err, .int .i64 a_.Num, .slice g_a__0.a a_.Texts.length g_a__0.c, .slice g_a__1.a a_.Numbers.length g_a__1.c], Ent.im tS a_.Texts g_a__0, Ent.im (tI .i64) a_.Numbers g_a__1, Ent.tab 1 (Lib.pow10Tab.map fun z => Value.int .u64 z), Ent.gifc 2, Ent.gifc 3] _ := hS.join [0] [1, 2, 3, 4, 5, 6, 7, 8] rfl rfl hq
 clear hq
 refine wl_batch 7 8 [] [1, 2, 5, 6, 7, 8] [(1, [], .string ⟨⟨want⟩⟩), (2, [], .pointer (some ⟨b1, 0, none⟩)), (5, [], .string ⟨⟨y6.1⟩⟩), (6, [], .int .i64 y6.2), (7, [], .pointer (some ⟨b20, 0, none⟩)), (8, [], .int .i64 y11.2)] [] H24 (by decide) (by kernel_rfl) trivial fun _ wd25 H26 hb => ?_
 clear H24
 replace hS := hS.below hb
 clear hb
 refine wl_end rfl ?_
 obtain ⟨x27, hx27, hm⟩ := letE hm
 obtain ⟨y28, hy28, hm⟩ := bindE hm
 refine s_reg [(.agg ⟨[.int .i64 a_.Err, .int .i64 a_.Num, .slice g_a__0.a a_.Texts.length g_a__0.c, .slice g_a__1.a a_.Numbers.length g_a__1.c]⟩), (.agg ⟨[.int .i64 y11.1.Err, .int .i64 y11.1.Num, .slice g12.a y11.1.Texts.length g12.c, .slice g14.a y11.1.Numbers.length g14.c]⟩), (.bool y28)] [4] [(4, [], .bool (cond x27 y28 false))] [fun wz => (x27 = true ∧ True → V.atN b1 0 [.int .i64 a_.Err, .int .i64 a_.Num, .slice g_a__0.a a_.Texts.length g_a__0.c, .slice g_a__1.a a_.Numbers.length g_a__1.c] 0 wz), fun wz => (x27 = true ∧ True → V.atN b20 0 [.int .i64 y11.1.Err, .int .i64 y11.1.Num, .slice g12.a y11.1.Texts.length g12.c, .slice g14.a y11.1.Numbers.length g14.c] 0 wz), fun wz => (x27 = true ∧ True → RetB Tryd.prog 15 ⟨[.agg ⟨[.int .i64 a_.Err, .int .i64 a_.Num, .slice g_a__0.a a_.Texts.length g_a__0.c, .slice g_a__1.a a_.Numbers.length g_a__1.c]⟩, .agg ⟨[.int .i64 y11.1.Err, .int .i64 y11.1.Num, .slice g12.a y11.1.Texts.length g12.c, .slice g14.a y11.1.Numbers.length g14.c]⟩]⟩ (.bool y28) wz)] H26 (by subst hx27; kernel_rfl) ⟨fun hg => (hS.bk 3 rfl).atD rfl, fun hg => (hS.bk 0 rfl).atD rfl, fun hg => r40_Same_ok (g_a__0 := g_a__0) (g_a__1 := g_a__1) (g_b__0 := g12) (g_b__1 := g14) m _ _ _ (bT (hg.1) hy28) _ (s0im (s0im (s0im (s0im s0nil (hS.osl 2 rfl)) (hS.im 1 rfl)) (hS.im 5 rfl)) (hS.im 4 rfl)), trivial⟩ fun _ wd29 H30 hb => ?_
 clear H26
 replace hS := hS.below hb
 clear hb
 replace hS : SH M X w [Ent.tab 1 (Lib.pow10Tab.map fun z => Value.int .u64 z), Ent.gifc 2, Ent.gifc 3] _ := hS.sel [6, 7, 8] rfl
 refine w_ret ?_
 obtain rfl := someE hm
 exact retR1 H30 rfl rfl ⟨_, rfl, rfl, (hS.sel [] rfl)⟩
theorem law40_is_ok {g_a__0 : Gh} {g_a__1 : Gh} (m : Nat) (a_ : TAnswer) (want : Str) (r : Bool) (hm : law40_is m a_ want = some r) (w : World) (hL : S0 F0 [Ent.im tS a_.Texts g_a__0, Ent.im (tI .i64) a_.Numbers g_a__1, Ent.tab 1 (Lib.pow10Tab.map fun z => Value.int .u64 z), Ent.gifc 2, Ent.gifc 3] w ∧ fpl [Ent.im tS a_.Texts g_a__0, Ent.im (tI .i64) a_.Numbers g_a__1, Ent.tab 1 (Lib.pow10Tab.map fun z => Value.int .u64 z), Ent.gifc 2, Ent.gifc 3] = []) : RetB Tryd.prog 24 ⟨[.agg ⟨[.int .i64 a_.Err, .int .i64 a_.Num, .slice g_a__0.a a_.Texts.length g_a__0.c, .slice g_a__1.a a_.Numbers.length g_a__1.c]⟩, .string ⟨⟨want⟩⟩]⟩ (.bool r) w := retB_of hL (Tryd.call24 _) (fun w' h => law40_is_w F0 m   a_ want r hm w' h)

theorem law40_none_w  (M : Av) (m : Nat) (s : Str) (r : Bool) (hm : law40_none m s = some r) (w : World) (hS : S0 M [Ent.gifc 2, Ent.gifc 3, Ent.tab 1 (Lib.pow10Tab.map fun z => Value.int .u64 z)] w) : Calls Tryd.prog 26 ⟨[.string ⟨⟨s⟩⟩]⟩ w (fun e w' => ∃ v, e = .returned v ∧ v = .bool r ∧ SH M (fpl [Ent.gifc 2, Ent.gifc 3, Ent.tab 1 (Lib.pow10Tab.map fun z => Value.int .u64 z)]) w [] w') := by
 rw [law40_none] at hm
 have hS0 : SH M (fpl [Ent.gifc 2, Ent.gifc 3, Ent.tab 1 (Lib.pow10Tab.map fun z => Value.int .u64 z)]) w [Ent.gifc 2, Ent.gifc 3, Ent.tab 1 (Lib.pow10Tab.map fun z => Value.int .u64 z)] w := hS
 generalize hX : fpl [Ent.gifc 2, Ent.gifc 3, Ent.tab 1 (Lib.pow10Tab.map fun z => Value.int .u64 z)] = X at hS0 ⊢
 clear hS hX
 have hS := hS0
 clear hS0
 refine calls_entryP Tryd.func26 rfl Tryd.ntmps26 rfl fun _ H => ?_
 refine s_reg [] [0] [(0, [], .string ⟨⟨s⟩⟩)] [] H (by kernel_rfl) trivial fun _ wd1 H2 hb => ?_
 clear H
 replace hS := hS.below hb
 clear hb
 refine w_seq ?_
 refine wl_start ?_
 refine wl_batch 0 1 [] [6] [(6, [], .string ⟨⟨s⟩⟩)] [] H2 (by decide) (by kernel_rfl) trivial fun _ wd3 H4 hb => ?_
 clear H2
 replace hS := hS.below hb
 clear hb
 obtain ⟨y5, hy5, hm⟩ := bindE hm
 have hd := hS.hand [0, 1, 2] [0, 1, 2] rfl rfl
 refine m_stp [7] [] H4 rfl rfl rfl rfl (o_callx H4 rfl rfl (answer_ReadLine_ok m _ _ hy5 _ _ hd)) (fun _ => rfl) fun _ wd10 v H11 hq => ?_
 clear H4 hd
 obtain ⟨g6, g8, rfl, hq⟩ := hq
 replace hS : SH M X w [Ent.im tS y5.1.Texts g6, Ent.own 3 (tI .i64) y5.1.Numbers g8, Ent.gifc 2, Ent.gifc 3, Ent.tab 1 (Lib.pow10Tab.map fun z => Value.int .u64 z)] _ := hS.join [0, 1, 2] [0, 1, 2] rfl rfl hq
 clear hq
 refine wl_batch 2 5 [] [8, 9] [(8, [], .agg ⟨[.int .i64 y5.1.Err, .int .i64 y5.1.Num, .slice g6.a y5.1.Texts.length g6.c, .slice g8.a y5.1.Numbers.length g8.c]⟩), (9, [], .int .i64 y5.2)] [] H11 (by decide) (by kernel_rfl) trivial fun _ wd12 H13 hb => ?_
 clear H11
 replace hS := hS.below hb
 clear hb
 have hd := hS.hand [] [0, 1, 2, 3, 4] rfl rfl
 refine m_stp [3, 8, 9] [(8, [], .agg ⟨[.int .i64 y5.1.Err, .int .i64 y5.1.Num, .slice g6.a y5.1.Texts.length g6.c, .slice g8.a y5.1.Numbers.length g8.c]⟩), (9, [], .int .i64 y5.2)] H13 rfl rfl rfl rfl (o_alloc [.int .i64 0, .int .i64 0, .slice none 0 0, .slice none 0 0] (z := .agg ⟨[.int .i64 0, .int .i64 0, .slice none 0 0, .slice none 0 0]⟩) hd (by kernel_rfl) rfl) (fun _ => rfl) fun _ wd15 v H16 hq => ?_
 clear H13 hd
 obtain ⟨b14, rfl, hq⟩ := hq
 replace hS : SH M X w [Ent.blk b14 [.int .i64 0, .int .i64 0, .slice none 0 0, .slice none 0 0], Ent.im tS y5.1.Texts g6, Ent.own 3 (tI .i64) y5.1.Numbers g8, Ent.gifc 2, Ent.gifc 3, Ent.tab 1 (Lib.pow10Tab.map fun z => Value.int .u64 z)] _ := hS.join [] [0, 1, 2, 3, 4] rfl rfl hq
 clear hq
 have hd := hS.hand [0] [1, 2, 3, 4, 5] rfl rfl
 refine m_stp0 [3, 9] [(3, [], .pointer (some ⟨b14, 0, none⟩)), (9, [], .int .i64 y5.2)] H16 rfl rfl rfl (o_store [.int .i64 y5.1.Err, .int .i64 y5.1.Num, .slice g6.a y5.1.Texts.length g6.c, .slice g8.a y5.1.Numbers.length g8.c] H16 hd rfl rfl (by kernel_rfl) rfl rfl rfl) rfl fun _ wd17 H18 hq => ?_
 clear H16 hd
 obtain ⟨_, hq⟩ := hq
 replace hS : SH M X w [Ent.blk b14 [.int .i64 y5.1.Err, .int .i64 y5.1.Num, .slice g6.a y5.1.Texts.length g6.c, .slice g8.a y5.1.Numbers.length g8.c], Ent.im tS y5.1.Texts g6, Ent.own 3 (tI .i64) y5.1.Numbers g8, Ent.gifc 2, Ent.gifc 3, Ent.tab 1 (Lib.pow10Tab.map fun z => Value.int .u64 z)] _ := hS.join [0] [1, 2, 3, 4, 5] rfl rfl hq
 clear hq
 refine wl_batch 7 8 [] [3, 4] [(3, [], .pointer (some ⟨b14, 0, none⟩)), (4, [], .int .i64 y5.2)] [] H18 (by decide) (by kernel_rfl) trivial fun _ wd19 H20 hb => ?_
 clear H18
 replace hS := hS.below hb
 clear hb
 refine wl_end rfl ?_
 obtain ⟨y21, hy21, hm⟩ := bindE hm
 refine s_reg [(.agg ⟨[.int .i64 y5.1.Err, .int .i64 y5.1.Num, .slice g6.a y5.1.Texts.length g6.c, .slice g8.a y5.1.Numbers.length g8.c]⟩), (.bool y21)] [2] [(2, [], .bool (cond (y5.2 == 12) y21 false))] [fun wz => ((y5.2 == 12) = true ∧ True → V.atN b14 0 [.int .i64 y5.1.Err, .int .i64 y5.1.Num, .slice g6.a y5.1.Texts.length g6.c, .slice g8.a y5.1.Numbers.length g8.c] 0 wz), fun wz => ((y5.2 == 12) = true ∧ True → RetB Tryd.prog 15 ⟨[.agg ⟨[.int .i64 y5.1.Err, .int .i64 y5.1.Num, .slice g6.a y5.1.Texts.length g6.c, .slice g8.a y5.1.Numbers.length g8.c]⟩, .agg ⟨[.int .i64 0, .int .i64 0, .slice none 0 0, .slice none 0 0]⟩]⟩ (.bool y21) wz)] H20 (by kernel_rfl) ⟨fun hg => (hS.bk 0 rfl).atD rfl, fun hg => r40_Same_ok (g_a__0 := g6) (g_a__1 := g8) (g_b__0 := Gh.nil) (g_b__1 := Gh.nil) m _ _ _ (bT (hg.1) hy21) _ (s0im (s0im (s0im (s0im s0nil (SlG.nil (M := F0) (g := Gh.nil))) (SlG.nil (M := F0) (g := Gh.nil))) (hS.osl 2 rfl)) (hS.im 1 rfl)), trivial⟩ fun _ wd22 H23 hb => ?_
 clear H20
 replace hS := hS.below hb
 clear hb
 replace hS : SH M X w [Ent.gifc 2, Ent.gifc 3, Ent.tab 1 (Lib.pow10Tab.map fun z => Value.int .u64 z)] _ := hS.sel [3, 4, 5] rfl
 refine w_ret ?_
 obtain rfl := someE hm
 exact retR1 H23 rfl rfl ⟨_, rfl, rfl, (hS.sel [] rfl)⟩
theorem law40_none_ok  (m : Nat) (s : Str) (r : Bool) (hm : law40_none m s = some r) (w : World) (hL : S0 F0 [Ent.gifc 2, Ent.gifc 3, Ent.tab 1 (Lib.pow10Tab.map fun z => Value.int .u64 z)] w ∧ fpl [Ent.gifc 2, Ent.gifc 3, Ent.tab 1 (Lib.pow10Tab.map fun z => Value.int .u64 z)] = []) : RetB Tryd.prog 26 ⟨[.string ⟨⟨s⟩⟩]⟩ (.bool r) w := retB_of hL (Tryd.call26 _) (fun w' h => law40_none_w F0 m   s r hm w' h)

theorem law40_alive_w  (M : Av) (m : Nat)  (r : Bool) (hm : law40_alive m = some r) (w : World) (hS : S0 M [Ent.tab 1 (Lib.pow10Tab.map fun z => Value.int .u64 z), Ent.gifc 2, Ent.gifc 3] w) : Calls Tryd.prog 16 ⟨[]⟩ w (fun e w' => ∃ v, e = .returned v ∧ v = .bool r ∧ SH M (fpl [Ent.tab 1 (Lib.pow10Tab.map fun z => Value.int .u64 z), Ent.gifc 2, Ent.gifc 3]) w [] w') := by
 rw [law40_alive] at hm
 have hS0 : SH M (fpl [Ent.tab 1 (Lib.pow10Tab.map fun z => Value.int .u64 z), Ent.gifc 2, Ent.gifc 3]) w [Ent.tab 1 (Lib.pow10Tab.map fun z => Value.int .u64 z), Ent.gifc 2, Ent.gifc 3] w := hS
 generalize hX : fpl [Ent.tab 1 (Lib.pow10Tab.map fun z => Value.int .u64 z), Ent.gifc 2, Ent.gifc 3] = X at hS0 ⊢
 clear hS hX
 have hS := hS0
 clear hS0
 refine calls_entryP Tryd.func16 rfl Tryd.ntmps16 rfl fun _ H => ?_
 refine s_reg [] [] [] [] H (by kernel_rfl) trivial fun _ wd1 H2 hb => ?_
 clear H
 replace hS := hS.below hb
 clear hb
 obtain ⟨z3, hz, hm⟩ := bindE hm
 refine w_cut (fun a' w' => Fr 20 [(0, [], .bool z3)] a' ∧ SH M X w [Ent.tab 1 (Lib.pow10Tab.map fun z => Value.int .u64 z), Ent.gifc 2, Ent.gifc 3] w') ?_ ?_
 ·replace hm := hz
  refine wl_start ?_
  obtain ⟨y4, hy4, hm⟩ := bindE hm
  obtain ⟨x5, hx5, hm⟩ := letE hm
  refine wl_batch 0 3 [(.bool y4)] [3] [(3, [], .bool x5)] [fun wz => RetB Tryd.prog 24 ⟨[.agg ⟨[.int .i64 6, .int .i64 0, .slice none 0 0, .slice none 0 0]⟩, .string ⟨⟨[54, 32, 48, 32, 91, 93, 32, 91, 93]⟩⟩]⟩ (.bool y4) wz] H2 (by decide) (by subst hx5; kernel_rfl) ⟨(law40_is_ok (g_a__0 := Gh.nil) (g_a__1 := Gh.nil) m _ _ _ hy4 _ (s0im (s0im (s0tab (s0gf (s0gf s0nil (hS.at 2 rfl)) (hS.at 1 rfl)) (hS.at 0 rfl)) (SlG.nil (M := F0) (g := Gh.nil))) (SlG.nil (M := F0) (g := Gh.nil)))), trivial⟩ fun _ wd6 H7 hb => ?_
  clear H2
  replace hS := hS.below hb
  clear hb
  cases x5
  case false =>
   replace hm := bF rfl hm
   refine m_skipG 3 [4, 3] [(4, [], undef), (3, [], .bool false)] H7 rfl rfl rfl rfl rfl rfl fun _ H40 => ?_
   clear H7
   refine m_skipG 3 [5, 3, 4] [(5, [], undef), (3, [], .bool false), (4, [], undef)] H40 rfl rfl rfl rfl rfl rfl fun _ H41 => ?_
   clear H40
   refine m_skipG 3 [6, 3] [(6, [], undef), (3, [], .bool false)] H41 rfl rfl rfl rfl rfl rfl fun _ H42 => ?_
   clear H41
   refine m_skipG 3 [7, 3] [(7, [], undef), (3, [], .bool false)] H42 rfl rfl rfl rfl rfl rfl fun _ H43 => ?_
   clear H42
   refine wl_batch 7 9 [] [9] [(9, [], .bool false)] [] H43 (by decide) (by kernel_rfl) trivial fun _ wd44 H45 hb => ?_
   clear H43
   replace hS := hS.below hb
   clear hb
   refine m_skipG 9 [10, 9] [(10, [], undef), (9, [], .bool false)] H45 rfl rfl rfl rfl rfl rfl fun _ H46 => ?_
   clear H45
   refine m_skipG 9 [11, 9] [(11, [], undef), (9, [], .bool false)] H46 rfl rfl rfl rfl rfl rfl fun _ H47 => ?_
   clear H46
   refine m_skipG 9 [12, 9] [(12, [], undef), (9, [], .bool false)] H47 rfl rfl rfl rfl rfl rfl fun _ H48 => ?_
   clear H47
   refine wl_batch 12 14 [] [14] [(14, [], .bool false)] [] H48 (by decide) (by kernel_rfl) trivial fun _ wd49 H50 hb => ?_
   clear H48
   replace hS := hS.below hb
   clear hb
   refine m_skipG 14 [15, 14] [(15, [], undef), (14, [], .bool false)] H50 rfl rfl rfl rfl rfl rfl fun _ H51 => ?_
   clear H50
   refine wl_batch 15 17 [] [17] [(17, [], .bool false)] [] H51 (by decide) (by kernel_rfl) trivial fun _ wd52 H53 hb => ?_
   clear H51
   replace hS := hS.below hb
   clear hb
   refine m_skipG 17 [18, 17] [(18, [], undef), (17, [], .bool false)] H53 rfl rfl rfl rfl rfl rfl fun _ H54 => ?_
   clear H53
   refine wl_batch 18 20 [] [0] [(0, [], .bool false)] [] H54 (by decide) (by kernel_rfl) trivial fun _ wd55 H56 hb => ?_
   clear H54
   replace hS := hS.below hb
   clear hb
   refine wl_end rfl ?_
   obtain rfl := someE hm
   exact ⟨FrG.keep (ks := [0]) H56 (by kernel_rfl), hS⟩
  replace hm := bT rfl hm
  have hd := hS.hand [] [0, 1, 2] rfl rfl
  refine m_stpG 3 [4, 3] [(3, [], .bool true)] H7 rfl rfl rfl rfl (o_lit (T := tS) (E := 9) (zv := .string ⟨⟨[]⟩⟩) [.string ⟨⟨[97]⟩⟩, .string ⟨⟨[]⟩⟩] ([[97], []] : List Str) [gL [], gL []] _ H7 hd rfl (by kernel_rfl) (by kernel_rfl) (by kernel_rfl) (by kernel_rfl) (by kernel_rfl) (by kernel_rfl) (by kernel_rfl) rfl (InnL.cons trivial (InnL.cons trivial InnL.nil))) (fun _ => rfl) fun _ wd10 v H11 hq => ?_
  clear H7 hd
  obtain ⟨g8, rfl, hq⟩ := hq
  replace hS : SH M X w [Ent.own 9 tS ([[97], []] : List Str) g8, Ent.tab 1 (Lib.pow10Tab.map fun z => Value.int .u64 z), Ent.gifc 2, Ent.gifc 3] _ := hS.join [] [0, 1, 2] rfl rfl hq
  clear hq
  have hd := hS.hand [] [0, 1, 2, 3] rfl rfl
  refine m_stpG 3 [5, 3, 4] [(3, [], .bool true), (4, [], .slice g8.a 2 g8.c)] H11 rfl rfl rfl rfl (o_lit (T := (tI .i64)) (E := 3) (zv := .int .i64 0) [.int .i64 7, .int .i64 (-1)] ([7, (-1)] : List Int) [gL [], gL []] _ H11 hd rfl (by kernel_rfl) (by kernel_rfl) (by kernel_rfl) (by kernel_rfl) (by kernel_rfl) (by kernel_rfl) (by kernel_rfl) rfl (InnL.cons trivial (InnL.cons trivial InnL.nil))) (fun _ => rfl) fun _ wd14 v H15 hq => ?_
  clear H11 hd
  obtain ⟨g12, rfl, hq⟩ := hq
  replace hS : SH M X w [Ent.own 3 (tI .i64) ([7, (-1)] : List Int) g12, Ent.own 9 tS ([[97], []] : List Str) g8, Ent.tab 1 (Lib.pow10Tab.map fun z => Value.int .u64 z), Ent.gifc 2, Ent.gifc 3] _ := hS.join [] [0, 1, 2, 3] rfl rfl hq
  clear hq
  obtain ⟨y16, hy16, hm⟩ := bindE hm
  obtain ⟨x17, hx17, hm⟩ := letE hm
  refine wl_batch 5 9 [(.bool y16)] [9] [(9, [], .bool x17)] [fun wz => (true = true ∧ True → RetB Tryd.prog 24 ⟨[.agg ⟨[.int .i64 0, .int .i64 2, .slice g8.a 2 g8.c, .slice g12.a 2 g12.c]⟩, .string ⟨⟨[48, 32, 50, 32, 91, 34, 97, 34, 44, 32, 34, 34, 93, 32, 91, 55, 44, 32, 45, 49, 93]⟩⟩]⟩ (.bool y16) wz)] H15 (by decide) (by subst hx17; kernel_rfl) ⟨fun hg => law40_is_ok (g_a__0 := g8) (g_a__1 := g12) m _ _ _ hy16 _ (s0im (s0im (s0tab (s0gf (s0gf s0nil (hS.at 4 rfl)) (hS.at 3 rfl)) (hS.at 2 rfl)) (hS.osl 0 rfl)) (hS.osl 1 rfl)), trivial⟩ fun _ wd18 H19 hb => ?_
  clear H15
  replace hS := hS.below hb
  clear hb
  cases x17
  case true =>
   replace hm := bT rfl hm
   have hd := hS.hand [] [0, 1, 2, 3, 4] rfl rfl
   refine m_stpG 9 [10, 9] [(9, [], .bool true)] H19 rfl rfl rfl rfl (o_lit (T := tS) (E := 9) (zv := .string ⟨⟨[]⟩⟩) [.string ⟨⟨[34, 10, 128]⟩⟩] ([[34, 10, 128]] : List Str) [gL []] _ H19 hd rfl (by kernel_rfl) (by kernel_rfl) (by kernel_rfl) (by kernel_rfl) (by kernel_rfl) (by kernel_rfl) (by kernel_rfl) rfl (InnL.cons trivial InnL.nil)) (fun _ => rfl) fun _ wd22 v H23 hq => ?_
   clear H19 hd
   obtain ⟨g20, rfl, hq⟩ := hq
   replace hS : SH M X w [Ent.own 9 tS ([[34, 10, 128]] : List Str) g20, Ent.own 3 (tI .i64) ([7, (-1)] : List Int) g12, Ent.own 9 tS ([[97], []] : List Str) g8, Ent.tab 1 (Lib.pow10Tab.map fun z => Value.int .u64 z), Ent.gifc 2, Ent.gifc 3] _ := hS.join [] [0, 1, 2, 3, 4] rfl rfl hq
   clear hq
   obtain ⟨y24, hy24, hm⟩ := bindE hm
   obtain ⟨y25, hy25, hm⟩ := bindE hm
   obtain ⟨y26, hy26, hm⟩ := bindE hm
   refine wl_batch 10 20 [(.bool y24), (.bool y25), (.bool y26)] [0] [(0, [], .bool (cond (cond y24 y25 false) y26 false))] [fun wz => (true = true ∧ True → RetB Tryd.prog 24 ⟨[.agg ⟨[.int .i64 0, .int .i64 0, .slice g20.a 1 g20.c, .slice none 0 0]⟩, .string ⟨⟨[48, 32, 48, 32, 91, 34, 92, 34, 92, 110, 92, 120, 56, 48, 34, 93, 32, 91, 93]⟩⟩]⟩ (.bool y24) wz), fun wz => (y24 = true ∧ True → RetB Tryd.prog 26 ⟨[.string ⟨⟨[48, 32, 48, 32, 91, 32, 93, 32, 91, 93]⟩⟩]⟩ (.bool y25) wz), fun wz => ((cond y24 y25 false) = true ∧ True → RetB Tryd.prog 26 ⟨[.string ⟨⟨[48, 32, 48, 48, 32, 91, 93, 32, 91, 93]⟩⟩]⟩ (.bool y26) wz)] H23 (by decide) (by kernel_rfl) ⟨fun hg => law40_is_ok (g_a__0 := g20) (g_a__1 := Gh.nil) m _ _ _ hy24 _ (s0im (s0im (s0tab (s0gf (s0gf s0nil (hS.at 5 rfl)) (hS.at 4 rfl)) (hS.at 3 rfl)) (SlG.nil (M := F0) (g := Gh.nil))) (hS.osl 0 rfl)), fun hg => law40_none_ok m _ _ (bT (hg.1) hy25) _ (s0gf (s0gf (s0tab s0nil (hS.at 3 rfl)) (hS.at 5 rfl)) (hS.at 4 rfl)), fun hg => law40_none_ok m _ _ (bT (hg.1) hy26) _ (s0gf (s0gf (s0tab s0nil (hS.at 3 rfl)) (hS.at 5 rfl)) (hS.at 4 rfl)), trivial⟩ fun _ wd27 H28 hb => ?_
   clear H23
   replace hS := hS.below hb
   clear hb
   refine wl_end rfl ?_
   replace hS : SH M X w [Ent.tab 1 (Lib.pow10Tab.map fun z => Value.int .u64 z), Ent.gifc 2, Ent.gifc 3] _ := hS.sel [3, 4, 5] rfl
   obtain rfl := someE hm
   exact ⟨FrG.keep (ks := [0]) H28 (by kernel_rfl), hS⟩
  replace hm := bF rfl hm
  refine m_skipG 9 [10, 9] [(10, [], undef), (9, [], .bool false)] H19 rfl rfl rfl rfl rfl rfl fun _ H29 => ?_
  clear H19
  refine m_skipG 9 [11, 9] [(11, [], undef), (9, [], .bool false)] H29 rfl rfl rfl rfl rfl rfl fun _ H30 => ?_
  clear H29
  refine m_skipG 9 [12, 9] [(12, [], undef), (9, [], .bool false)] H30 rfl rfl rfl rfl rfl rfl fun _ H31 => ?_
  clear H30
  refine wl_batch 12 14 [] [14] [(14, [], .bool false)] [] H31 (by decide) (by kernel_rfl) trivial fun _ wd32 H33 hb => ?_
  clear H31
  replace hS := hS.below hb
  clear hb
  refine m_skipG 14 [15, 14] [(15, [], undef), (14, [], .bool false)] H33 rfl rfl rfl rfl rfl rfl fun _ H34 => ?_
  clear H33
  refine wl_batch 15 17 [] [17] [(17, [], .bool false)] [] H34 (by decide) (by kernel_rfl) trivial fun _ wd35 H36 hb => ?_
  clear H34
  replace hS := hS.below hb
  clear hb
  refine m_skipG 17 [18, 17] [(18, [], undef), (17, [], .bool false)] H36 rfl rfl rfl rfl rfl rfl fun _ H37 => ?_
  clear H36
  refine wl_batch 18 20 [] [0] [(0, [], .bool false)] [] H37 (by decide) (by kernel_rfl) trivial fun _ wd38 H39 hb => ?_
  clear H37
  replace hS := hS.below hb
  clear hb
  refine wl_end rfl ?_
  replace hS : SH M X w [Ent.tab 1 (Lib.pow10Tab.map fun z => Value.int .u64 z), Ent.gifc 2, Ent.gifc 3] _ := hS.sel [2, 3, 4] rfl
  obtain rfl := someE hm
  exact ⟨FrG.keep (ks := [0]) H39 (by kernel_rfl), hS⟩
 ·rintro _ wd57 ⟨H, hS⟩
  refine w_ret ?_
  obtain rfl := someE hm
  exact retR1 H rfl rfl ⟨_, rfl, rfl, (hS.sel [] rfl)⟩
theorem law40_alive_ok  (m : Nat)  (r : Bool) (hm : law40_alive m = some r) (w : World) (hL : S0 F0 [Ent.tab 1 (Lib.pow10Tab.map fun z => Value.int .u64 z), Ent.gifc 2, Ent.gifc 3] w ∧ fpl [Ent.tab 1 (Lib.pow10Tab.map fun z => Value.int .u64 z), Ent.gifc 2, Ent.gifc 3] = []) : RetB Tryd.prog 16 ⟨[]⟩ (.bool r) w := retB_of hL (Tryd.call16 _) (fun w' h => law40_alive_w F0 m    r hm w' h)

theorem r40_Big_w {g_a__0 : Gh} {g_a__1 : Gh} (M : Av) (m : Nat) (a_ : TAnswer) (r : Bool) (hm : r40_Big m a_ = some r) (w : World) (hS : S0 M [Ent.im tS a_.Texts g_a__0, Ent.im (tI .i64) a_.Numbers g_a__1] w) : Calls Tryd.prog 8 ⟨[.agg ⟨[.int .i64 a_.Err, .int .i64 a_.Num, .slice g_a__0.a a_.Texts.length g_a__0.c, .slice g_a__1.a a_.Numbers.length g_a__1.c]⟩]⟩ w (fun e w' => ∃ v, e = .returned v ∧ v = .bool r ∧ SH M (fpl [Ent.im tS a_.Texts g_a__0, Ent.im (tI .i64) a_.Numbers g_a__1]) w [] w') := by
 rw [r40_Big] at hm
 have hS0 : SH M (fpl [Ent.im tS a_.Texts g_a__0, Ent.im (tI .i64) a_.Numbers g_a__1]) w [Ent.im tS a_.Texts g_a__0, Ent.im (tI .i64) a_.Numbers g_a__1] w := hS
 generalize hX : fpl [Ent.im tS a_.Texts g_a__0, Ent.im (tI .i64) a_.Numbers g_a__1] = X at hS0 ⊢
 clear hS hX
 have hS := hS0
 clear hS0
 refine calls_entryP Tryd.func8 rfl Tryd.ntmps8 rfl fun _ H => ?_
 refine w_seq ?_
 refine wl_start ?_
 have hd := hS.hand [] [0, 1] rfl rfl
 refine m_stp [1] [] H rfl rfl rfl rfl (o_box [.int .i64 a_.Err, .int .i64 a_.Num, .slice g_a__0.a a_.Texts.length g_a__0.c, .slice g_a__1.a a_.Numbers.length g_a__1.c] H hd rfl rfl) (fun _ => rfl) fun _ wd2 v H3 hq => ?_
 clear H hd
 obtain ⟨b1, rfl, hq⟩ := hq
 replace hS : SH M X w [Ent.blk b1 [.int .i64 a_.Err, .int .i64 a_.Num, .slice g_a__0.a a_.Texts.length g_a__0.c, .slice g_a__1.a a_.Numbers.length g_a__1.c], Ent.im tS a_.Texts g_a__0, Ent.im (tI .i64) a_.Numbers g_a__1] _ := hS.join [] [0, 1] rfl rfl hq
 clear hq
 refine wl_batch 1 2 [] [1] [(1, [], .pointer (some ⟨b1, 0, none⟩))] [] H3 (by decide) (by kernel_rfl) trivial fun _ wd4 H5 hb => ?_
 clear H3
 replace hS := hS.below hb
 clear hb
 refine wl_end rfl ?_
 refine w_seq ?_
 obtain ⟨x6, hx6, hm⟩ := letE hm
 refine s_reg [(.slice g_a__0.a a_.Texts.length g_a__0.c), (.slice g_a__1.a a_.Numbers.length g_a__1.c)] [1, 14] [(1, [], .pointer (some ⟨b1, 0, none⟩)), (14, [], .bool x6)] [fun wz => V.at1 ⟨b1, 2, none⟩ (.slice g_a__0.a a_.Texts.length g_a__0.c) wz, fun wz => ((decide (70 < (ln a_.Texts))) = false ∧ True → V.at1 ⟨b1, 3, none⟩ (.slice g_a__1.a a_.Numbers.length g_a__1.c) wz)] H5 (by subst hx6; kernel_rfl) ⟨((hS.bk 0 rfl).at1 rfl), fun hg => (hS.bk 0 rfl).at1 rfl, trivial⟩ fun _ wd7 H8 hb => ?_
 clear H5
 replace hS := hS.below hb
 clear hb
 refine w_if H8 rfl (fun hc => ?c31) (fun hc => ?_)
 case c31 =>
  replace hm := bT hc hm
  refine s_reg [] [2] [(2, [], .bool true)] [] H8 (by kernel_rfl) trivial fun _ wd9 H10 hb => ?_
  clear H8
  replace hS := hS.below hb
  clear hb
  replace hS : SH M X w [] _ := hS.sel [] rfl
  refine w_ret ?_
  obtain rfl := someE hm
  exact retR1 H10 rfl rfl ⟨_, rfl, rfl, (hS.sel [] rfl)⟩
 replace hm := bF hc hm
 refine w_skip ?_
 refine s_reg [] [1, 3] [(1, [], .pointer (some ⟨b1, 0, none⟩)), (3, [], .int .i64 0)] [] H8 (by kernel_rfl) trivial fun _ wd11 H12 hb => ?_
 clear H8
 replace hS := hS.below hb
 clear hb
 obtain ⟨z13, hz, hm⟩ := bindE hm
 refine w_cut (fun a' w' => Fr 40 [(3, [], .int .i64 z13)] a' ∧ SH M X w [Ent.blk b1 [.int .i64 a_.Err, .int .i64 a_.Num, .slice g_a__0.a a_.Texts.length g_a__0.c, .slice g_a__1.a a_.Numbers.length g_a__1.c], Ent.im tS a_.Texts g_a__0, Ent.im (tI .i64) a_.Numbers g_a__1] w') ?_ ?_
 ·replace hm := hz
  refine s_reg [] [1, 3, 4] [(1, [], .pointer (some ⟨b1, 0, none⟩)), (3, [], .int .i64 0), (4, [], .int .i64 0)] [] H12 (by kernel_rfl) trivial fun _ wd14 H15 hb => ?_
  clear H12
  replace hS := hS.below hb
  clear hb
  refine w_block ?_
  refine w_loop (fun kk a' w' => ∃ (v16 : Int) (v17 : Int), r40_Big_L1 m a_ kk v16 v17 = some _ ∧ Fr 40 [(1, [], .pointer (some ⟨b1, 0, none⟩)), (3, [], .int .i64 v16), (4, [], .int .i64 v17)] a' ∧ SH M X w [Ent.blk b1 [.int .i64 a_.Err, .int .i64 a_.Num, .slice g_a__0.a a_.Texts.length g_a__0.c, .slice g_a__1.a a_.Numbers.length g_a__1.c], Ent.im tS a_.Texts g_a__0, Ent.im (tI .i64) a_.Numbers g_a__1] w') ⟨_, 0, 0, hm, FrG.keep (ks := [1, 3, 4]) H15 (by kernel_rfl), hS⟩ ?_
  clear hm H15 hS
  rintro kk _ wd26 ⟨v16, v17, hm, H, hS⟩
  cases kk with
  | zero => exact noneE hm
  | succ kk =>
   rw [r40_Big_L1] at hm
   refine w_seq ?_
   refine s_reg [(.slice g_a__0.a a_.Texts.length g_a__0.c)] [1, 3, 4, 19] [(1, [], .pointer (some ⟨b1, 0, none⟩)), (3, [], .int .i64 v16), (4, [], .int .i64 v17), (19, [], .bool (decide (v17 < (ln a_.Texts))))] [fun wz => V.at1 ⟨b1, 2, none⟩ (.slice g_a__0.a a_.Texts.length g_a__0.c) wz] H (by kernel_rfl) ⟨((hS.bk 0 rfl).at1 rfl), trivial⟩ fun _ wd18 H19 hb => ?_
   clear H
   replace hS := hS.below hb
   clear hb
   refine w_if H19 rfl (fun hc => ?_) (fun hc => ?c25)
   case c25 =>
    replace hm := bF hc hm
    refine w_exit rfl ?_
    obtain rfl := someE hm
    exact ⟨FrG.keep (ks := [3]) H19 (by kernel_rfl), hS⟩
   replace hm := bT hc hm
   refine w_skip ?_
   refine w_seq ?_
   refine w_block ?_
   obtain ⟨ho20, hm⟩ := chkE hm
   refine w_reg [(.slice g_a__0.a a_.Texts.length g_a__0.c), (.string ⟨⟨(gi a_.Texts v17)⟩⟩)] [1, 3, 4] [(1, [], .pointer (some ⟨b1, 0, none⟩)), (3, [], .int .i64 (w64 (v16 + (ln (gi a_.Texts v17))))), (4, [], .int .i64 v17)] [fun wz => V.at1 ⟨b1, 2, none⟩ (.slice g_a__0.a a_.Texts.length g_a__0.c) wz, fun _ => oka g_a__0.a ∧ 0 ≤ v17 ∧ v17 < ln a_.Texts, fun wz => V.at1 ⟨ab g_a__0.a, ao g_a__0.a + (v17).toNat * 1, none⟩ (.string ⟨⟨(gi a_.Texts v17)⟩⟩) wz] H19 (by kernel_rfl) ⟨((hS.bk 0 rfl).at1 rfl), ((hS.im 1 rfl).oki ho20), ((hS.im 1 rfl).at1 ho20 0 rfl), trivial⟩ fun _ wd21 H22 hb => ?_
   clear H19
   replace hS := hS.below hb
   clear hb
   refine w_reg [] [1, 3, 4] [(1, [], .pointer (some ⟨b1, 0, none⟩)), (3, [], .int .i64 (w64 (v16 + (ln (gi a_.Texts v17))))), (4, [], .int .i64 (w64 (v17 + 1)))] [] H22 (by kernel_rfl) trivial fun _ wd23 H24 hb => ?_
   clear H22
   replace hS := hS.below hb
   clear hb
   exact ⟨_, Nat.lt_succ_self _, w64 (v16 + (ln (gi a_.Texts v17))), w64 (v17 + 1), hm, FrG.keep (ks := [1, 3, 4]) H24 (by kernel_rfl), hS⟩
 ·rintro _ wd30 ⟨H, hS⟩
  replace hS : SH M X w [] _ := hS.sel [] rfl
  obtain ⟨x27, hx27, hm⟩ := letE hm
  refine s_reg [] [2] [(2, [], .bool (cond x27 true (decide (20100 < z13))))] [] H (by subst hx27; kernel_rfl) trivial fun _ wd28 H29 hb => ?_
  clear H
  replace hS := hS.below hb
  clear hb
  refine w_ret ?_
  obtain rfl := someE hm
  exact retR1 H29 rfl rfl ⟨_, rfl, rfl, (hS.sel [] rfl)⟩
theorem r40_Big_ok {g_a__0 : Gh} {g_a__1 : Gh} (m : Nat) (a_ : TAnswer) (r : Bool) (hm : r40_Big m a_ = some r) (w : World) (hL : S0 F0 [Ent.im tS a_.Texts g_a__0, Ent.im (tI .i64) a_.Numbers g_a__1] w ∧ fpl [Ent.im tS a_.Texts g_a__0, Ent.im (tI .i64) a_.Numbers g_a__1] = []) : RetB Tryd.prog 8 ⟨[.agg ⟨[.int .i64 a_.Err, .int .i64 a_.Num, .slice g_a__0.a a_.Texts.length g_a__0.c, .slice g_a__1.a a_.Numbers.length g_a__1.c]⟩]⟩ (.bool r) w := retB_of hL (Tryd.call8 _) (fun w' h => r40_Big_w F0 m   a_ r hm w' h)

theorem law40_AnswerOne_w {g_a__0 : Gh} {g_a__1 : Gh} {g_b__0 : Gh} {g_b__1 : Gh} (M : Av) (m : Nat) (a_ : TAnswer) (b_ : TAnswer) (r : Bool) (hm : law40_AnswerOne m a_ b_ = some r) (w : World) (hS : S0 M [Ent.im tS a_.Texts g_a__0, Ent.im (tI .i64) a_.Numbers g_a__1, Ent.im tS b_.Texts g_b__0, Ent.im (tI .i64) b_.Numbers g_b__1, Ent.tab 1 (Lib.pow10Tab.map fun z => Value.int .u64 z), Ent.gifc 2, Ent.gifc 3] w) : Calls Tryd.prog 4 ⟨[.agg ⟨[.int .i64 a_.Err, .int .i64 a_.Num, .slice g_a__0.a a_.Texts.length g_a__0.c, .slice g_a__1.a a_.Numbers.length g_a__1.c]⟩, .agg ⟨[.int .i64 b_.Err, .int .i64 b_.Num, .slice g_b__0.a b_.Texts.length g_b__0.c, .slice g_b__1.a b_.Numbers.length g_b__1.c]⟩]⟩ w (fun e w' => ∃ v, e = .returned v ∧ v = .bool r ∧ SH M (fpl [Ent.im tS a_.Texts g_a__0, Ent.im (tI .i64) a_.Numbers g_a__1, Ent.im tS b_.Texts g_b__0, Ent.im (tI .i64) b_.Numbers g_b__1, Ent.tab 1 (Lib.pow10Tab.map fun z => Value.int .u64 z), Ent.gifc 2, Ent.gifc 3]) w [] w') := by
 rw [law40_AnswerOne] at hm
 have hS0 : SH M (fpl [Ent.im tS a_.Texts g_a__0, Ent.im (tI .i64) a_.Numbers g_a__1, Ent.im tS b_.Texts g_b__0, Ent.im (tI .i64) b_.Numbers g_b__1, Ent.tab 1 (Lib.pow10Tab.map fun z => Value.int .u64 z), Ent.gifc 2, Ent.gifc 3]) w [Ent.im tS a_.Texts g_a__0, Ent.im (tI .i64) a_.Numbers g_a__1, Ent.im tS b_.Texts g_b__0, Ent.im (tI .i64) b_.Numbers g_b__1, Ent.tab 1 (Lib.pow10Tab.map fun z => Value.int .u64 z), Ent.gifc 2, Ent.gifc 3] w := hS
 generalize hX : fpl [Ent.im tS a_.Texts g_a__0, Ent.im (tI .i64) a_.Numbers g_a__1, Ent.im tS b_.Texts g_b__0, Ent.im (tI .i64) b_.Numbers g_b__1, Ent.tab 1 (Lib.pow10Tab.map fun z => Value.int .u64 z), Ent.gifc 2, Ent.gifc 3] = X at hS0 ⊢
 clear hS hX
 have hS := hS0
 clear hS0
 refine calls_entryP Tryd.func4 rfl Tryd.ntmps4 rfl fun _ H => ?_
 refine w_seq ?_
 refine wl_start ?_
 have hd := hS.hand [] [0, 1, 2, 3, 4, 5, 6] rfl rfl
 refine m_stp [2, 1] [(1, [], .agg ⟨[.int .i64 b_.Err, .int .i64 b_.Num, .slice g_b__0.a b_.Texts.length g_b__0.c, .slice g_b__1.a b_.Numbers.length g_b__1.c]⟩)] H rfl rfl rfl rfl (o_box [.int .i64 a_.Err, .int .i64 a_.Num, .slice g_a__0.a a_.Texts.length g_a__0.c, .slice g_a__1.a a_.Numbers.length g_a__1.c] H hd rfl rfl) (fun _ => rfl) fun _ wd2 v H3 hq => ?_
 clear H hd
 obtain ⟨b1, rfl, hq⟩ := hq
 replace hS : SH M X w [Ent.blk b1 [.int .i64 a_.Err, .int .i64 a_.Num, .slice g_a__0.a a_.Texts.length g_a__0.c, .slice g_a__1.a a_.Numbers.length g_a__1.c], Ent.im tS a_.Texts g_a__0, Ent.im (tI .i64) a_.Numbers g_a__1, Ent.im tS b_.Texts g_b__0, Ent.im (tI .i64) b_.Numbers g_b__1, Ent.tab 1 (Lib.pow10Tab.map fun z => Value.int .u64 z), Ent.gifc 2, Ent.gifc 3] _ := hS.join [] [0, 1, 2, 3, 4, 5, 6] rfl rfl hq
 clear hq
 have hd := hS.hand [] [0, 1, 2, 3, 4, 5, 6, 7] rfl rfl
 refine m_stp [3, 2] [(2, [], .pointer (some ⟨b1, 0, none⟩))] H3 rfl rfl rfl rfl (o_box [.int .i64 b_.Err, .int .i64 b_.Num, .slice g_b__0.a b_.Texts.length g_b__0.c, .slice g_b__1.a b_.Numbers.length g_b__1.c] H3 hd rfl rfl) (fun _ => rfl) fun _ wd5 v H6 hq => ?_
 clear H3 hd
 obtain ⟨b4, rfl, hq⟩ := hq
 replace hS : SH M X w [Ent.blk b4 [.int .i64 b_.Err, .int .i64 b_.Num, .slice g_b__0.a b_.Texts.length g_b__0.c, .slice g_b__1.a b_.Numbers.length g_b__1.c], Ent.blk b1 [.int .i64 a_.Err, .int .i64 a_.Num, .slice g_a__0.a a_.Texts.length g_a__0.c, .slice g_a__1.a a_.Numbers.length g_a__1.c], Ent.im tS a_.Texts g_a__0, Ent.im (tI .i64) a_.Numbers g_a__1, Ent.im tS b_.Texts g_b__0, Ent.im (tI .i64) b_.Numbers g_b__1, Ent.tab 1 (Lib.pow10Tab.map fun z => Value.int .u64 z), Ent.gifc 2, Ent.gifc 3] _ := hS.join [] [0, 1, 2, 3, 4, 5, 6, 7] rfl rfl hq
 clear hq
 refine wl_batch 2 3 [] [2, 3] [(2, [], .pointer (some ⟨b1, 0, none⟩)), (3, [], .pointer (some ⟨b4, 0, none⟩))] [] H6 (by decide) (by kernel_rfl) trivial fun _ wd7 H8 hb => ?_
 clear H6
 replace hS := hS.below hb
 clear hb
 refine wl_end rfl ?_
 obtain ⟨y9, hy9, hm⟩ := bindE hm
 refine s_reg [(.bool y9)] [2, 3, 5] [(2, [], .pointer (some ⟨b1, 0, none⟩)), (3, [], .pointer (some ⟨b4, 0, none⟩)), (5, [], .bool y9)] [fun wz => RetB Tryd.prog 16 ⟨[]⟩ (.bool y9) wz] H8 (by kernel_rfl) ⟨(law40_alive_ok m _ hy9 _ (s0tab (s0gf (s0gf s0nil (hS.at 8 rfl)) (hS.at 7 rfl)) (hS.at 6 rfl))), trivial⟩ fun _ wd10 H11 hb => ?_
 clear H8
 replace hS := hS.below hb
 clear hb
 refine w_seq ?_
 obtain ⟨y12, hy12, hm⟩ := bindE hm
 obtain ⟨y13, hy13, hm⟩ := bindE hm
 refine s_reg [(.agg ⟨[.int .i64 a_.Err, .int .i64 a_.Num, .slice g_a__0.a a_.Texts.length g_a__0.c, .slice g_a__1.a a_.Numbers.length g_a__1.c]⟩), (.bool y12), (.agg ⟨[.int .i64 b_.Err, .int .i64 b_.Num, .slice g_b__0.a b_.Texts.length g_b__0.c, .slice g_b__1.a b_.Numbers.length g_b__1.c]⟩), (.bool y13)] [2, 3, 5, 23] [(2, [], .pointer (some ⟨b1, 0, none⟩)), (3, [], .pointer (some ⟨b4, 0, none⟩)), (5, [], .bool y9), (23, [], .bool (cond (cond y12 true y13) true (!y9)))] [fun wz => V.atN b1 0 [.int .i64 a_.Err, .int .i64 a_.Num, .slice g_a__0.a a_.Texts.length g_a__0.c, .slice g_a__1.a a_.Numbers.length g_a__1.c] 0 wz, fun wz => RetB Tryd.prog 8 ⟨[.agg ⟨[.int .i64 a_.Err, .int .i64 a_.Num, .slice g_a__0.a a_.Texts.length g_a__0.c, .slice g_a__1.a a_.Numbers.length g_a__1.c]⟩]⟩ (.bool y12) wz, fun wz => (y12 = false ∧ True → V.atN b4 0 [.int .i64 b_.Err, .int .i64 b_.Num, .slice g_b__0.a b_.Texts.length g_b__0.c, .slice g_b__1.a b_.Numbers.length g_b__1.c] 0 wz), fun wz => (y12 = false ∧ True → RetB Tryd.prog 8 ⟨[.agg ⟨[.int .i64 b_.Err, .int .i64 b_.Num, .slice g_b__0.a b_.Texts.length g_b__0.c, .slice g_b__1.a b_.Numbers.length g_b__1.c]⟩]⟩ (.bool y13) wz)] H11 (by kernel_rfl) ⟨((hS.bk 1 rfl).atD rfl), (r40_Big_ok (g_a__0 := g_a__0) (g_a__1 := g_a__1) m _ _ hy12 _ (s0im (s0im s0nil (hS.im 3 rfl)) (hS.im 2 rfl))), fun hg => (hS.bk 0 rfl).atD rfl, fun hg => r40_Big_ok (g_a__0 := g_b__0) (g_a__1 := g_b__1) m _ _ (bF (hg.1) hy13) _ (s0im (s0im s0nil (hS.im 5 rfl)) (hS.im 4 rfl)), trivial⟩ fun _ wd14 H15 hb => ?_
 clear H11
 replace hS := hS.below hb
 clear hb
 refine w_if H15 rfl (fun hc => ?c73) (fun hc => ?_)
 case c73 =>
  replace hm := bT hc hm
  refine s_reg [] [4] [(4, [], .bool y9)] [] H15 (by kernel_rfl) trivial fun _ wd16 H17 hb => ?_
  clear H15
  replace hS := hS.below hb
  clear hb
  replace hS : SH M X w [Ent.tab 1 (Lib.pow10Tab.map fun z => Value.int .u64 z), Ent.gifc 2, Ent.gifc 3] _ := hS.sel [6, 7, 8] rfl
  refine w_ret ?_
  obtain rfl := someE hm
  exact retR1 H17 rfl rfl ⟨_, rfl, rfl, (hS.sel [] rfl)⟩
 replace hm := bF hc hm
 refine w_skip ?_
 obtain ⟨y18, hy18, hm⟩ := bindE hm
 refine s_reg [(.agg ⟨[.int .i64 a_.Err, .int .i64 a_.Num, .slice g_a__0.a a_.Texts.length g_a__0.c, .slice g_a__1.a a_.Numbers.length g_a__1.c]⟩), (.tuple ⟨[.string ⟨⟨y18.1⟩⟩, .int .i64 y18.2]⟩)] [2, 3, 5, 6, 7] [(2, [], .pointer (some ⟨b1, 0, none⟩)), (3, [], .pointer (some ⟨b4, 0, none⟩)), (5, [], .bool y9), (6, [], .string ⟨⟨y18.1⟩⟩), (7, [], .int .i64 y18.2)] [fun wz => V.atN b1 0 [.int .i64 a_.Err, .int .i64 a_.Num, .slice g_a__0.a a_.Texts.length g_a__0.c, .slice g_a__1.a a_.Numbers.length g_a__1.c] 0 wz, fun wz => RetB Tryd.prog 9 ⟨[.agg ⟨[.int .i64 a_.Err, .int .i64 a_.Num, .slice g_a__0.a a_.Texts.length g_a__0.c, .slice g_a__1.a a_.Numbers.length g_a__1.c]⟩]⟩ (.tuple ⟨[.string ⟨⟨y18.1⟩⟩, .int .i64 y18.2]⟩) wz] H15 (by kernel_rfl) ⟨((hS.bk 1 rfl).atD rfl), (answer_Line_ok (g_a__0 := g_a__0) (g_a__1 := g_a__1) m _ _ hy18 _ (s0im (s0im (s0tab s0nil (hS.at 6 rfl)) (hS.im 3 rfl)) (hS.im 2 rfl))), trivial⟩ fun _ wd19 H20 hb => ?_
 clear H15
 replace hS := hS.below hb
 clear hb
 obtain ⟨y21, hy21, hm⟩ := bindE hm
 refine s_reg [(.agg ⟨[.int .i64 b_.Err, .int .i64 b_.Num, .slice g_b__0.a b_.Texts.length g_b__0.c, .slice g_b__1.a b_.Numbers.length g_b__1.c]⟩), (.tuple ⟨[.string ⟨⟨y21.1⟩⟩, .int .i64 y21.2]⟩)] [2, 3, 5, 6, 7, 8, 9] [(2, [], .pointer (some ⟨b1, 0, none⟩)), (3, [], .pointer (some ⟨b4, 0, none⟩)), (5, [], .bool y9), (6, [], .string ⟨⟨y18.1⟩⟩), (7, [], .int .i64 y18.2), (8, [], .string ⟨⟨y21.1⟩⟩), (9, [], .int .i64 y21.2)] [fun wz => V.atN b4 0 [.int .i64 b_.Err, .int .i64 b_.Num, .slice g_b__0.a b_.Texts.length g_b__0.c, .slice g_b__1.a b_.Numbers.length g_b__1.c] 0 wz, fun wz => RetB Tryd.prog 9 ⟨[.agg ⟨[.int .i64 b_.Err, .int .i64 b_.Num, .slice g_b__0.a b_.Texts.length g_b__0.c, .slice g_b__1.a b_.Numbers.length g_b__1.c]⟩]⟩ (.tuple ⟨[.string ⟨⟨y21.1⟩⟩, .int .i64 y21.2]⟩) wz] H20 (by kernel_rfl) ⟨((hS.bk 0 rfl).atD rfl), (answer_Line_ok (g_a__0 := g_b__0) (g_a__1 := g_b__1) m _ _ hy21 _ (s0im (s0im (s0tab s0nil (hS.at 6 rfl)) (hS.im 5 rfl)) (hS.im 4 rfl))), trivial⟩ fun _ wd22 H23 hb => ?_
 clear H20
 replace hS := hS.below hb
 clear hb
 refine w_seq ?_
 refine s_reg [] [2, 3, 5, 6, 7, 8, 9, 40] [(2, [], .pointer (some ⟨b1, 0, none⟩)), (3, [], .pointer (some ⟨b4, 0, none⟩)), (5, [], .bool y9), (6, [], .string ⟨⟨y18.1⟩⟩), (7, [], .int .i64 y18.2), (8, [], .string ⟨⟨y21.1⟩⟩), (9, [], .int .i64 y21.2), (40, [], .bool (cond (y18.2 != 0) true (y21.2 != 0)))] [] H23 (by kernel_rfl) trivial fun _ wd24 H25 hb => ?_
 clear H23
 replace hS := hS.below hb
 clear hb
 refine w_if H25 rfl (fun hc => ?c72) (fun hc => ?_)
 case c72 =>
  replace hm := bT hc hm
  obtain ⟨x26, hx26, hm⟩ := letE hm
  obtain ⟨x27, hx27, hm⟩ := letE hm
  refine s_reg [] [4] [(4, [], .bool x27)] [] H25 (by subst hx26 hx27; kernel_rfl) trivial fun _ wd28 H29 hb => ?_
  clear H25
  replace hS := hS.below hb
  clear hb
  replace hS : SH M X w [Ent.tab 1 (Lib.pow10Tab.map fun z => Value.int .u64 z), Ent.gifc 2, Ent.gifc 3] _ := hS.sel [6, 7, 8] rfl
  refine w_ret ?_
  obtain rfl := someE hm
  exact retR1 H29 rfl rfl ⟨_, rfl, rfl, (hS.sel [] rfl)⟩
 replace hm := bF hc hm
 refine w_skip ?_
 obtain ⟨z30, hz, hm_z30⟩ := bindE hm
 refine w_cut (fun a' w' => ∃ s_z30 : Unit, z30 = Sum.inr s_z30 ∧ Fr 103 [(2, [], .pointer (some ⟨b1, 0, none⟩)), (3, [], .pointer (some ⟨b4, 0, none⟩)), (5, [], .bool y9), (6, [], .string ⟨⟨y18.1⟩⟩), (8, [], .string ⟨⟨y21.1⟩⟩)] a' ∧ SH M X w [Ent.blk b4 [.int .i64 b_.Err, .int .i64 b_.Num, .slice g_b__0.a b_.Texts.length g_b__0.c, .slice g_b__1.a b_.Numbers.length g_b__1.c], Ent.blk b1 [.int .i64 a_.Err, .int .i64 a_.Num, .slice g_a__0.a a_.Texts.length g_a__0.c, .slice g_a__1.a a_.Numbers.length g_a__1.c], Ent.im tS a_.Texts g_a__0, Ent.im (tI .i64) a_.Numbers g_a__1, Ent.im tS b_.Texts g_b__0, Ent.im (tI .i64) b_.Numbers g_b__1, Ent.tab 1 (Lib.pow10Tab.map fun z => Value.int .u64 z), Ent.gifc 2, Ent.gifc 3] w') ?_ ?_
 ·replace hm := hz
  refine s_reg [] [2, 3, 5, 6, 8, 10] [(2, [], .pointer (some ⟨b1, 0, none⟩)), (3, [], .pointer (some ⟨b4, 0, none⟩)), (5, [], .bool y9), (6, [], .string ⟨⟨y18.1⟩⟩), (8, [], .string ⟨⟨y21.1⟩⟩), (10, [], .int .i64 0)] [] H25 (by kernel_rfl) trivial fun _ wd31 H32 hb => ?_
  clear H25
  replace hS := hS.below hb
  clear hb
  refine w_block ?_
  refine w_loop (fun kk a' w' => ∃ (v33 : Int), law40_AnswerOne_L1 m y18 kk v33 = some _ ∧ Fr 103 [(2, [], .pointer (some ⟨b1, 0, none⟩)), (3, [], .pointer (some ⟨b4, 0, none⟩)), (5, [], .bool y9), (6, [], .string ⟨⟨y18.1⟩⟩), (8, [], .string ⟨⟨y21.1⟩⟩), (10, [], .int .i64 v33)] a' ∧ SH M X w [Ent.blk b4 [.int .i64 b_.Err, .int .i64 b_.Num, .slice g_b__0.a b_.Texts.length g_b__0.c, .slice g_b__1.a b_.Numbers.length g_b__1.c], Ent.blk b1 [.int .i64 a_.Err, .int .i64 a_.Num, .slice g_a__0.a a_.Texts.length g_a__0.c, .slice g_a__1.a a_.Numbers.length g_a__1.c], Ent.im tS a_.Texts g_a__0, Ent.im (tI .i64) a_.Numbers g_a__1, Ent.im tS b_.Texts g_b__0, Ent.im (tI .i64) b_.Numbers g_b__1, Ent.tab 1 (Lib.pow10Tab.map fun z => Value.int .u64 z), Ent.gifc 2, Ent.gifc 3] w') ⟨_, 0, hm, FrG.keep (ks := [2, 3, 5, 6, 8, 10]) H32 (by kernel_rfl), hS⟩ ?_
  clear hm H32 hS
  rintro kk _ wd46 ⟨v33, hm, H, hS⟩
  cases kk with
  | zero => exact noneE hm
  | succ kk =>
   rw [law40_AnswerOne_L1] at hm
   refine w_seq ?_
   refine s_reg [] [2, 3, 5, 6, 8, 10, 61] [(2, [], .pointer (some ⟨b1, 0, none⟩)), (3, [], .pointer (some ⟨b4, 0, none⟩)), (5, [], .bool y9), (6, [], .string ⟨⟨y18.1⟩⟩), (8, [], .string ⟨⟨y21.1⟩⟩), (10, [], .int .i64 v33), (61, [], .bool (decide (v33 < (ln y18.1))))] [] H (by kernel_rfl) trivial fun _ wd34 H35 hb => ?_
   clear H
   replace hS := hS.below hb
   clear hb
   refine w_if H35 rfl (fun hc => ?_) (fun hc => ?c45)
   case c45 =>
    replace hm := bF hc hm
    refine w_exit rfl ?_
    obtain rfl := someE hm
    exact ⟨_, rfl, FrG.keep (ks := [2, 3, 5, 6, 8]) H35 (by kernel_rfl), hS⟩
   replace hm := bT hc hm
   refine w_skip ?_
   refine w_seq ?_
   refine w_block ?_
   obtain ⟨ho36, hm⟩ := chkE hm
   obtain ⟨x37, hx37, hm⟩ := letE hm
   refine s_reg [] [2, 3, 5, 6, 8, 10, 73] [(2, [], .pointer (some ⟨b1, 0, none⟩)), (3, [], .pointer (some ⟨b4, 0, none⟩)), (5, [], .bool y9), (6, [], .string ⟨⟨y18.1⟩⟩), (8, [], .string ⟨⟨y21.1⟩⟩), (10, [], .int .i64 v33), (73, [], .bool x37)] [fun _ => 0 ≤ v33 ∧ v33 < ln y18.1, fun _ => ((decide ((bat y18.1 v33) < 32)) = false ∧ True → 0 ≤ v33 ∧ v33 < ln y18.1)] H35 (by subst hx37; kernel_rfl) ⟨ho36, fun hg => ho36, trivial⟩ fun _ wd38 H39 hb => ?_
   clear H35
   replace hS := hS.below hb
   clear hb
   refine w_if H39 rfl (fun hc => ?_) (fun hc => ?c44)
   case c44 =>
    replace hm := bF hc hm
    refine w_skip ?_
    refine w_reg [] [2, 3, 5, 6, 8, 10] [(2, [], .pointer (some ⟨b1, 0, none⟩)), (3, [], .pointer (some ⟨b4, 0, none⟩)), (5, [], .bool y9), (6, [], .string ⟨⟨y18.1⟩⟩), (8, [], .string ⟨⟨y21.1⟩⟩), (10, [], .int .i64 (w64 (v33 + 1)))] [] H39 (by kernel_rfl) trivial fun _ wd42 H43 hb => ?_
    clear H39
    replace hS := hS.below hb
    clear hb
    exact ⟨_, Nat.lt_succ_self _, w64 (v33 + 1), hm, FrG.keep (ks := [2, 3, 5, 6, 8, 10]) H43 (by kernel_rfl), hS⟩
   replace hm := bT hc hm
   refine s_reg [] [4] [(4, [], .bool false)] [] H39 (by kernel_rfl) trivial fun _ wd40 H41 hb => ?_
   clear H39
   replace hS := hS.below hb
   clear hb
   refine w_ret ?_
   obtain rfl := someE hm
   have hm := hm_z30
   obtain rfl := someE hm
   exact retR1 H41 rfl rfl ⟨_, rfl, rfl, (hS.sel [] rfl)⟩
 ·rintro _ wd71 ⟨s_z30, hz, H, hS⟩
  subst hz
  replace hm := sumR hm_z30
  refine w_seq ?_
  refine wl_start ?_
  refine wl_batch 0 1 [] [2, 3, 5, 6, 8, 75] [(2, [], .pointer (some ⟨b1, 0, none⟩)), (3, [], .pointer (some ⟨b4, 0, none⟩)), (5, [], .bool y9), (6, [], .string ⟨⟨y18.1⟩⟩), (8, [], .string ⟨⟨y21.1⟩⟩), (75, [], .string ⟨⟨y18.1⟩⟩)] [] H (by decide) (by kernel_rfl) trivial fun _ wd47 H48 hb => ?_
  clear H
  replace hS := hS.below hb
  clear hb
  obtain ⟨y49, hy49, hm⟩ := bindE hm
  have hd := hS.hand [7, 8, 6] [0, 1, 2, 3, 4, 5, 6, 7, 8] rfl rfl
  refine m_stp [76, 2, 3, 5, 6, 8] [(2, [], .pointer (some ⟨b1, 0, none⟩)), (3, [], .pointer (some ⟨b4, 0, none⟩)), (5, [], .bool y9), (6, [], .string ⟨⟨y18.1⟩⟩), (8, [], .string ⟨⟨y21.1⟩⟩)] H48 rfl rfl rfl rfl (o_callx H48 rfl rfl (answer_ReadLine_ok m _ _ hy49 _ _ hd)) (fun _ => rfl) fun _ wd54 v H55 hq => ?_
  clear H48 hd
  obtain ⟨g50, g52, rfl, hq⟩ := hq
  replace hS : SH M X w [Ent.im tS y49.1.Texts g50, Ent.own 3 (tI .i64) y49.1.Numbers g52, Ent.blk b4 [.int .i64 b_.Err, .int .i64 b_.Num, .slice g_b__0.a b_.Texts.length g_b__0.c, .slice g_b__1.a b_.Numbers.length g_b__1.c], Ent.blk b1 [.int .i64 a_.Err, .int .i64 a_.Num, .slice g_a__0.a a_.Texts.length g_a__0.c, .slice g_a__1.a a_.Numbers.length g_a__1.c], Ent.im tS a_.Texts g_a__0, Ent.im (tI .i64) a_.Numbers g_a__1, Ent.im tS b_.Texts g_b__0, Ent.im (tI .i64) b_.Numbers g_b__1, Ent.tab 1 (Lib.pow10Tab.map fun z => Value.int .u64 z), Ent.gifc 2, Ent.gifc 3] _ := hS.join [7, 8, 6] [0, 1, 2, 3, 4, 5, 6, 7, 8] rfl rfl hq
  clear hq
  refine wl_batch 2 5 [] [2, 3, 5, 6, 8, 77, 78] [(2, [], .pointer (some ⟨b1, 0, none⟩)), (3, [], .pointer (some ⟨b4, 0, none⟩)), (5, [], .bool y9), (6, [], .string ⟨⟨y18.1⟩⟩), (8, [], .string ⟨⟨y21.1⟩⟩), (77, [], .agg ⟨[.int .i64 y49.1.Err, .int .i64 y49.1.Num, .slice g50.a y49.1.Texts.length g50.c, .slice g52.a y49.1.Numbers.length g52.c]⟩), (78, [], .int .i64 y49.2)] [] H55 (by decide) (by kernel_rfl) trivial fun _ wd56 H57 hb => ?_
  clear H55
  replace hS := hS.below hb
  clear hb
  have hd := hS.hand [] [0, 1, 2, 3, 4, 5, 6, 7, 8, 9, 10] rfl rfl
  refine m_stp [11, 2, 3, 5, 6, 8, 77, 78] [(2, [], .pointer (some ⟨b1, 0, none⟩)), (3, [], .pointer (some ⟨b4, 0, none⟩)), (5, [], .bool y9), (6, [], .string ⟨⟨y18.1⟩⟩), (8, [], .string ⟨⟨y21.1⟩⟩), (77, [], .agg ⟨[.int .i64 y49.1.Err, .int .i64 y49.1.Num, .slice g50.a y49.1.Texts.length g50.c, .slice g52.a y49.1.Numbers.length g52.c]⟩), (78, [], .int .i64 y49.2)] H57 rfl rfl rfl rfl (o_alloc [.int .i64 0, .int .i64 0, .slice none 0 0, .slice none 0 0] (z := .agg ⟨[.int .i64 0, .int .i64 0, .slice none 0 0, .slice none 0 0]⟩) hd (by kernel_rfl) rfl) (fun _ => rfl) fun _ wd59 v H60 hq => ?_
  clear H57 hd
  obtain ⟨b58, rfl, hq⟩ := hq
  replace hS : SH M X w [Ent.blk b58 [.int .i64 0, .int .i64 0, .slice none 0 0, .slice none 0 0], Ent.im tS y49.1.Texts g50, Ent.own 3 (tI .i64) y49.1.Numbers g52, Ent.blk b4 [.int .i64 b_.Err, .int .i64 b_.Num, .slice g_b__0.a b_.Texts.length g_b__0.c, .slice g_b__1.a b_.Numbers.length g_b__1.c], Ent.blk b1 [.int .i64 a_.Err, .int .i64 a_.Num, .slice g_a__0.a a_.Texts.length g_a__0.c, .slice g_a__1.a a_.Numbers.length g_a__1.c], Ent.im tS a_.Texts g_a__0, Ent.im (tI .i64) a_.Numbers g_a__1, Ent.im tS b_.Texts g_b__0, Ent.im (tI .i64) b_.Numbers g_b__1, Ent.tab 1 (Lib.pow10Tab.map fun z => Value.int .u64 z), Ent.gifc 2, Ent.gifc 3] _ := hS.join [] [0, 1, 2, 3, 4, 5, 6, 7, 8, 9, 10] rfl rfl hq
  clear hq
  have hd := hS.hand [0] [1, 2, 3, 4, 5, 6, 7, 8, 9, 10, 11] rfl rfl
  refine m_stp0 [2, 3, 5, 6, 8, 11, 78] [(2, [], .pointer (some ⟨b1, 0, none⟩)), (3, [], .pointer (some ⟨b4, 0, none⟩)), (5, [], .bool y9), (6, [], .string ⟨⟨y18.1⟩⟩), (8, [], .string ⟨⟨y21.1⟩⟩), (11, [], .pointer (some ⟨b58, 0, none⟩)), (78, [], .int .i64 y49.2)] H60 rfl rfl rfl (o_store [.int .i64 y49.1.Err, .int .i64 y49.1.Num, .slice g50.a y49.1.Texts.length g50.c, .slice g52.a y49.1.Numbers.length g52.c] H60 hd rfl rfl (by kernel_rfl) rfl rfl rfl) rfl fun _ wd61 H62 hq => ?_
  clear H60 hd
  obtain ⟨_, hq⟩ := hq
  replace hS : SH M X w [Ent.blk b58 [.int .i64 y49.1.Err, .int .i64 y49.1.Num, .slice g50.a y49.1.Texts.length g50.c, .slice g52.a y49.1.Numbers.length g52.c], Ent.im tS y49.1.Texts g50, Ent.own 3 (tI .i64) y49.1.Numbers g52, Ent.blk b4 [.int .i64 b_.Err, .int .i64 b_.Num, .slice g_b__0.a b_.Texts.length g_b__0.c, .slice g_b__1.a b_.Numbers.length g_b__1.c], Ent.blk b1 [.int .i64 a_.Err, .int .i64 a_.Num, .slice g_a__0.a a_.Texts.length g_a__0.c, .slice g_a__1.a a_.Numbers.length g_a__1.c], Ent.im tS a_.Texts g_a__0, Ent.im (tI .i64) a_.Numbers g_a__1, Ent.im tS b_.Texts g_b__0, Ent.im (tI .i64) b_.Numbers g_b__1, Ent.tab 1 (Lib.pow10Tab.map fun z => Value.int .u64 z), Ent.gifc 2, Ent.gifc 3] _ := hS.join [0] [1, 2, 3, 4, 5, 6, 7, 8, 9, 10, 11] rfl rfl hq
  clear hq
  refine wl_batch 7 8 [] [2, 3, 5, 6, 8, 11, 12] [(2, [], .pointer (some ⟨b1, 0, none⟩)), (3, [], .pointer (some ⟨b4, 0, none⟩)), (5, [], .bool y9), (6, [], .string ⟨⟨y18.1⟩⟩), (8, [], .string ⟨⟨y21.1⟩⟩), (11, [], .pointer (some ⟨b58, 0, none⟩)), (12, [], .int .i64 y49.2)] [] H62 (by decide) (by kernel_rfl) trivial fun _ wd63 H64 hb => ?_
  clear H62
  replace hS := hS.below hb
  clear hb
  refine wl_end rfl ?_
  obtain ⟨y65, hy65, hm⟩ := bindE hm
  obtain ⟨x66, hx66, hm⟩ := letE hm
  obtain ⟨y67, hy67, hm⟩ := bindE hm
  obtain ⟨x68, hx68, hm⟩ := letE hm
  refine s_reg [(.agg ⟨[.int .i64 a_.Err, .int .i64 a_.Num, .slice g_a__0.a a_.Texts.length g_a__0.c, .slice g_a__1.a a_.Numbers.length g_a__1.c]⟩), (.agg ⟨[.int .i64 b_.Err, .int .i64 b_.Num, .slice g_b__0.a b_.Texts.length g_b__0.c, .slice g_b__1.a b_.Numbers.length g_b__1.c]⟩), (.bool y65), (.agg ⟨[.int .i64 y49.1.Err, .int .i64 y49.1.Num, .slice g50.a y49.1.Texts.length g50.c, .slice g52.a y49.1.Numbers.length g52.c]⟩), (.agg ⟨[.int .i64 a_.Err, .int .i64 a_.Num, .slice g_a__0.a a_.Texts.length g_a__0.c, .slice g_a__1.a a_.Numbers.length g_a__1.c]⟩), (.bool y67)] [4] [(4, [], .bool x68)] [fun wz => (y9 = true ∧ True → V.atN b1 0 [.int .i64 a_.Err, .int .i64 a_.Num, .slice g_a__0.a a_.Texts.length g_a__0.c, .slice g_a__1.a a_.Numbers.length g_a__1.c] 0 wz), fun wz => (y9 = true ∧ True → V.atN b4 0 [.int .i64 b_.Err, .int .i64 b_.Num, .slice g_b__0.a b_.Texts.length g_b__0.c, .slice g_b__1.a b_.Numbers.length g_b__1.c] 0 wz), fun wz => (y9 = true ∧ True → RetB Tryd.prog 15 ⟨[.agg ⟨[.int .i64 a_.Err, .int .i64 a_.Num, .slice g_a__0.a a_.Texts.length g_a__0.c, .slice g_a__1.a a_.Numbers.length g_a__1.c]⟩, .agg ⟨[.int .i64 b_.Err, .int .i64 b_.Num, .slice g_b__0.a b_.Texts.length g_b__0.c, .slice g_b__1.a b_.Numbers.length g_b__1.c]⟩]⟩ (.bool y65) wz), fun wz => (x66 = true ∧ True → V.atN b58 0 [.int .i64 y49.1.Err, .int .i64 y49.1.Num, .slice g50.a y49.1.Texts.length g50.c, .slice g52.a y49.1.Numbers.length g52.c] 0 wz), fun wz => (x66 = true ∧ True → V.atN b1 0 [.int .i64 a_.Err, .int .i64 a_.Num, .slice g_a__0.a a_.Texts.length g_a__0.c, .slice g_a__1.a a_.Numbers.length g_a__1.c] 0 wz), fun wz => (x66 = true ∧ True → RetB Tryd.prog 15 ⟨[.agg ⟨[.int .i64 y49.1.Err, .int .i64 y49.1.Num, .slice g50.a y49.1.Texts.length g50.c, .slice g52.a y49.1.Numbers.length g52.c]⟩, .agg ⟨[.int .i64 a_.Err, .int .i64 a_.Num, .slice g_a__0.a a_.Texts.length g_a__0.c, .slice g_a__1.a a_.Numbers.length g_a__1.c]⟩]⟩ (.bool y67) wz)] H64 (by subst hx66 hx68; kernel_rfl) ⟨fun hg => (hS.bk 4 rfl).atD rfl, fun hg => (hS.bk 3 rfl).atD rfl, fun hg => r40_Same_ok (g_a__0 := g_a__0) (g_a__1 := g_a__1) (g_b__0 := g_b__0) (g_b__1 := g_b__1) m _ _ _ (bT (hg.1) hy65) _ (s0im (s0im (s0im (s0im s0nil (hS.im 8 rfl)) (hS.im 7 rfl)) (hS.im 6 rfl)) (hS.im 5 rfl)), fun hg => (hS.bk 0 rfl).atD rfl, fun hg => (hS.bk 4 rfl).atD rfl, fun hg => r40_Same_ok (g_a__0 := g50) (g_a__1 := g52) (g_b__0 := g_a__0) (g_b__1 := g_a__1) m _ _ _ (bT (hg.1) hy67) _ (s0im (s0im (s0im (s0im s0nil (hS.im 6 rfl)) (hS.im 5 rfl)) (hS.osl 2 rfl)) (hS.im 1 rfl)), trivial⟩ fun _ wd69 H70 hb => ?_
  clear H64
  replace hS := hS.below hb
  clear hb
  replace hS : SH M X w [Ent.tab 1 (Lib.pow10Tab.map fun z => Value.int .u64 z), Ent.gifc 2, Ent.gifc 3] _ := hS.sel [9, 10, 11] rfl
  refine w_ret ?_
  obtain rfl := someE hm
  exact retR1 H70 rfl rfl ⟨_, rfl, rfl, (hS.sel [] rfl)⟩
theorem law40_AnswerOne_ok {g_a__0 : Gh} {g_a__1 : Gh} {g_b__0 : Gh} {g_b__1 : Gh} (m : Nat) (a_ : TAnswer) (b_ : TAnswer) (r : Bool) (hm : law40_AnswerOne m a_ b_ = some r) (w : World) (hL : S0 F0 [Ent.im tS a_.Texts g_a__0, Ent.im (tI .i64) a_.Numbers g_a__1, Ent.im tS b_.Texts g_b__0, Ent.im (tI .i64) b_.Numbers g_b__1, Ent.tab 1 (Lib.pow10Tab.map fun z => Value.int .u64 z), Ent.gifc 2, Ent.gifc 3] w ∧ fpl [Ent.im tS a_.Texts g_a__0, Ent.im (tI .i64) a_.Numbers g_a__1, Ent.im tS b_.Texts g_b__0, Ent.im (tI .i64) b_.Numbers g_b__1, Ent.tab 1 (Lib.pow10Tab.map fun z => Value.int .u64 z), Ent.gifc 2, Ent.gifc 3] = []) : RetB Tryd.prog 4 ⟨[.agg ⟨[.int .i64 a_.Err, .int .i64 a_.Num, .slice g_a__0.a a_.Texts.length g_a__0.c, .slice g_a__1.a a_.Numbers.length g_a__1.c]⟩, .agg ⟨[.int .i64 b_.Err, .int .i64 b_.Num, .slice g_b__0.a b_.Texts.length g_b__0.c, .slice g_b__1.a b_.Numbers.length g_b__1.c]⟩]⟩ (.bool r) w := retB_of hL (Tryd.call4 _) (fun w' h => law40_AnswerOne_w F0 m   a_ b_ r hm w' h)

end Go.Proofs.YtipafpkdkhnjmaaDoor
