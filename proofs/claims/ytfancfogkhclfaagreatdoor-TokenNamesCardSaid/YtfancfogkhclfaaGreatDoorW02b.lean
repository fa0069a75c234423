/-
  What the Go functions compute, as Lean functions, and that a call returns just that. Printed by a program.
-/
import Derived.Test.YtfancfogkhclfaaGreatDoorRows
import Derived.Test.YtfancfogkhclfaaGreatDoorCL
import Derived.Test.YtfancfogkhclfaaGreatDoorX
import Derived.Test.YtfancfogkhclfaaGreatDoorW02a
set_option linter.unusedVariables false
set_option maxRecDepth 20000
set_option maxHeartbeats 4000000
namespace Go.Proofs.YtfancfogkhclfaaGreatDoor
open Go.V Go.RowKit

theorem token_scanner_next_w {b_c : Nat} (M : Av) (m : Nat) (c_s : Str) (c_at_ : Int) (r : TToken × Int) (hm : token_scanner_next m c_s c_at_ = some r) (w : World) (hS : S0 M [Ent.blk b_c [.string ⟨⟨c_s⟩⟩, .int .i64 c_at_]] w) : Calls Tryz.prog 38 ⟨[.pointer (some ⟨b_c, 0, none⟩)]⟩ w (fun e w' => ∃ v, e = .returned v ∧ v = .agg ⟨[.int .u8 r.1.Kind, .string ⟨⟨r.1.Text⟩⟩, .int .i64 r.1.Num, .string ⟨⟨r.1.Unit⟩⟩, .bool r.1.Flag]⟩ ∧ SH M (fpl [Ent.blk b_c [.string ⟨⟨c_s⟩⟩, .int .i64 c_at_]]) w [Ent.blk b_c [.string ⟨⟨c_s⟩⟩, .int .i64 r.2]] w') := by
 rw [token_scanner_next] at hm
 have hS0 : SH M (fpl [Ent.blk b_c [.string ⟨⟨c_s⟩⟩, .int .i64 c_at_]]) w [Ent.blk b_c [.string ⟨⟨c_s⟩⟩, .int .i64 c_at_]] w := hS
 generalize hX : fpl [Ent.blk b_c [.string ⟨⟨c_s⟩⟩, .int .i64 c_at_]] = X at hS0 ⊢
 clear hS hX
 have hS := hS0
 clear hS0
 refine calls_entryP Tryz.func38 rfl Tryz.ntmps38 rfl fun _ H => ?_
 refine w_seq ?_
 refine wl_start ?_
 have hd := hS.hand [] [0] rfl rfl
 refine m_stp [2, 0] [(0, [], .pointer (some ⟨b_c, 0, none⟩))] H rfl rfl rfl rfl (o_alloc [.int .u8 0, .string ⟨⟨[]⟩⟩, .int .i64 0, .string ⟨⟨[]⟩⟩, .bool false] (z := .agg ⟨[.int .u8 0, .string ⟨⟨[]⟩⟩, .int .i64 0, .string ⟨⟨[]⟩⟩, .bool false]⟩) hd (by kernel_rfl) rfl) (fun _ => rfl) fun _ wd2 v H3 hq => ?_
 clear H hd
 obtain ⟨b1, rfl, hq⟩ := hq
 replace hS : SH M X w [Ent.blk b1 [.int .u8 0, .string ⟨⟨[]⟩⟩, .int .i64 0, .string ⟨⟨[]⟩⟩, .bool false], Ent.blk b_c [.string ⟨⟨c_s⟩⟩, .int .i64 c_at_]] _ := hS.join [] [0] rfl rfl hq
 clear hq
 refine wl_end rfl ?_
 obtain ⟨y4, hy4, hm⟩ := bindE hm
 obtain ⟨ho5, hm⟩ := chkE hm
 refine s_draw [(.int .i64 y4), (.string ⟨⟨c_s⟩⟩), (.int .i64 c_at_)] [0, 2, 3, 4] [(0, [], .pointer (some ⟨b_c, 0, none⟩)), (2, [], .pointer (some ⟨b1, 0, none⟩)), (3, [], .int .i64 y4), (4, [], .string ⟨⟨sub c_s c_at_ (ln c_s)⟩⟩)] [fun wz => RetB Tryz.prog 45 ⟨[.pointer (some ⟨b_c, 0, none⟩), .int .i64 0]⟩ (.int .i64 y4) wz, fun wz => V.at1 ⟨b_c, 0, none⟩ (.string ⟨⟨c_s⟩⟩) wz, fun wz => V.at1 ⟨b_c, 1, none⟩ (.int .i64 c_at_) wz, fun _ => 0 ≤ c_at_ ∧ c_at_ ≤ ln c_s] H3 (by kernel_rfl) (by kernel_rfl) (by kernel_rfl) ⟨(token_scanner_peek_ok (b_c := b_c) _ _ _ _ hy4 _ (s0ro s0nil (hS.bk 1 rfl))), ((hS.bk 1 rfl).at1 rfl), ((hS.bk 1 rfl).at1 rfl), ho5, trivial⟩ fun _ wd6 H7 hb => ?_
 clear H3
 replace hS := hS.below hb
 clear hb
 refine w_seq ?_
 refine w_block ?_
 refine s_reg [(.bool (token_space y4))] [0, 2, 3, 4, 18] [(0, [], .pointer (some ⟨b_c, 0, none⟩)), (2, [], .pointer (some ⟨b1, 0, none⟩)), (3, [], .int .i64 y4), (4, [], .string ⟨⟨sub c_s c_at_ (ln c_s)⟩⟩), (18, [], .bool (token_space y4))] [fun wz => RetB Tryz.prog 57 ⟨[.int .i64 y4]⟩ (.bool (token_space y4)) wz] H7 (by kernel_rfl) ⟨((token_space_ok _).b), trivial⟩ fun _ wd8 H9 hb => ?_
 clear H7
 replace hS := hS.below hb
 clear hb
 refine w_if H9 rfl (fun hc => ?c133) (fun hc => ?_)
 case c133 =>
  replace hm := bT hc hm
  refine w_seq ?_
  refine wl_start ?_
  refine wl_batch 0 1 [] [2, 21] [(2, [], .pointer (some ⟨b1, 0, none⟩)), (21, [], .pointer (some ⟨b_c, 0, none⟩))] [] H9 (by decide) (by kernel_rfl) trivial fun _ wd10 H11 hb => ?_
  clear H9
  replace hS := hS.below hb
  clear hb
  obtain ⟨y12, hy12, hm⟩ := bindE hm
  have hd := hS.hand [1] [0] rfl rfl
  refine m_stp [22, 2] [(2, [], .pointer (some ⟨b1, 0, none⟩))] H11 rfl rfl rfl rfl (o_callx H11 rfl rfl (token_scanner_while_ok (b_c := b_c) m _ _ _ hy12 _ _ hd)) (fun _ => rfl) fun _ wd13 v H14 hq => ?_
  clear H11 hd
  obtain ⟨rfl, hq⟩ := hq
  replace hS : SH M X w [Ent.blk b_c [.string ⟨⟨c_s⟩⟩, .int .i64 y12], Ent.blk b1 [.int .u8 0, .string ⟨⟨[]⟩⟩, .int .i64 0, .string ⟨⟨[]⟩⟩, .bool false]] _ := hS.join [1] [0] rfl rfl hq
  clear hq
  refine wl_end rfl ?_
  refine w_seq ?_
  refine wl_start ?_
  refine wl_batch 0 1 [] [2, 23] [(2, [], .pointer (some ⟨b1, 0, none⟩)), (23, [], .agg ⟨[.int .u8 13, .string ⟨⟨[]⟩⟩, .int .i64 0, .string ⟨⟨[]⟩⟩, .bool false]⟩)] [] H14 (by decide) (by kernel_rfl) trivial fun _ wd15 H16 hb => ?_
  clear H14
  replace hS := hS.below hb
  clear hb
  have hd := hS.hand [1] [0] rfl rfl
  refine m_stp0 [2] [(2, [], .pointer (some ⟨b1, 0, none⟩))] H16 rfl rfl rfl (o_store [.int .u8 13, .string ⟨⟨[]⟩⟩, .int .i64 0, .string ⟨⟨[]⟩⟩, .bool false] H16 hd rfl rfl (by kernel_rfl) rfl rfl rfl) rfl fun _ wd17 H18 hq => ?_
  clear H16 hd
  obtain ⟨_, hq⟩ := hq
  replace hS : SH M X w [Ent.blk b1 [.int .u8 13, .string ⟨⟨[]⟩⟩, .int .i64 0, .string ⟨⟨[]⟩⟩, .bool false], Ent.blk b_c [.string ⟨⟨c_s⟩⟩, .int .i64 y12]] _ := hS.join [1] [0] rfl rfl hq
  clear hq
  refine wl_end rfl ?_
  refine w_ret ?_
  obtain rfl := someE hm
  exact retR1 H18 rfl (oneRes_agg rfl (hS.bk 0 rfl) Tryz.underlying44 rfl (by kernel_rfl)) ⟨_, rfl, rfl, (hS.sel [1] rfl)⟩
 replace hm := bF hc hm
 refine s_reg [] [0, 2, 3, 4, 24] [(0, [], .pointer (some ⟨b_c, 0, none⟩)), (2, [], .pointer (some ⟨b1, 0, none⟩)), (3, [], .int .i64 y4), (4, [], .string ⟨⟨sub c_s c_at_ (ln c_s)⟩⟩), (24, [], .bool (cond (y4 == 34) true (y4 == 39)))] [] H9 (by kernel_rfl) trivial fun _ wd19 H20 hb => ?_
 clear H9
 replace hS := hS.below hb
 clear hb
 refine w_if H20 rfl (fun hc => ?c132) (fun hc => ?_)
 case c132 =>
  replace hm := bT hc hm
  refine w_seq ?_
  refine wl_start ?_
  refine wl_batch 0 1 [] [2, 31] [(2, [], .pointer (some ⟨b1, 0, none⟩)), (31, [], .pointer (some ⟨b_c, 0, none⟩))] [] H20 (by decide) (by kernel_rfl) trivial fun _ wd21 H22 hb => ?_
  clear H20
  replace hS := hS.below hb
  clear hb
  obtain ⟨y23, hy23, hm⟩ := bindE hm
  have hd := hS.hand [1] [0] rfl rfl
  refine m_stp [32, 2] [(2, [], .pointer (some ⟨b1, 0, none⟩))] H22 rfl rfl rfl rfl (o_callx H22 rfl rfl (token_scanner_quoted_ok (b_c := b_c) m _ _ _ hy23 _ _ hd)) (fun _ => rfl) fun _ wd24 v H25 hq => ?_
  clear H22 hd
  obtain ⟨rfl, hq⟩ := hq
  replace hS : SH M X w [Ent.blk b_c [.string ⟨⟨c_s⟩⟩, .int .i64 y23.2], Ent.blk b1 [.int .u8 0, .string ⟨⟨[]⟩⟩, .int .i64 0, .string ⟨⟨[]⟩⟩, .bool false]] _ := hS.join [1] [0] rfl rfl hq
  clear hq
  have hd := hS.hand [1] [0] rfl rfl
  refine m_stp0 [2] [(2, [], .pointer (some ⟨b1, 0, none⟩))] H25 rfl rfl rfl (o_store [.int .u8 y23.1.Kind, .string ⟨⟨y23.1.Text⟩⟩, .int .i64 y23.1.Num, .string ⟨⟨y23.1.Unit⟩⟩, .bool y23.1.Flag] H25 hd rfl rfl (by kernel_rfl) rfl rfl rfl) rfl fun _ wd26 H27 hq => ?_
  clear H25 hd
  obtain ⟨_, hq⟩ := hq
  replace hS : SH M X w [Ent.blk b1 [.int .u8 y23.1.Kind, .string ⟨⟨y23.1.Text⟩⟩, .int .i64 y23.1.Num, .string ⟨⟨y23.1.Unit⟩⟩, .bool y23.1.Flag], Ent.blk b_c [.string ⟨⟨c_s⟩⟩, .int .i64 y23.2]] _ := hS.join [1] [0] rfl rfl hq
  clear hq
  refine wl_end rfl ?_
  refine w_ret ?_
  obtain rfl := someE hm
  exact retR1 H27 rfl (oneRes_agg rfl (hS.bk 0 rfl) Tryz.underlying44 rfl (by kernel_rfl)) ⟨_, rfl, rfl, (hS.sel [1] rfl)⟩
 replace hm := bF hc hm
 obtain ⟨y28, hy28, hm⟩ := bindE hm
 obtain ⟨y29, hy29, hm⟩ := bindE hm
 obtain ⟨x30, hx30, hm⟩ := letE hm
 refine s_reg [(.int .i64 y28), (.bool (token_letter y28)), (.bool y29)] [0, 2, 3, 4, 33] [(0, [], .pointer (some ⟨b_c, 0, none⟩)), (2, [], .pointer (some ⟨b1, 0, none⟩)), (3, [], .int .i64 y4), (4, [], .string ⟨⟨sub c_s c_at_ (ln c_s)⟩⟩), (33, [], .bool x30)] [fun wz => ((y4 == 35) = true ∧ True → RetB Tryz.prog 45 ⟨[.pointer (some ⟨b_c, 0, none⟩), .int .i64 1]⟩ (.int .i64 y28) wz), fun wz => ((y4 == 35) = true ∧ True → RetB Tryz.prog 53 ⟨[.int .i64 y28]⟩ (.bool (token_letter y28)) wz), fun wz => ((token_letter y28) = false ∧ (y4 == 35) = true ∧ True → RetB Tryz.prog 52 ⟨[.pointer (some ⟨b_c, 0, none⟩), .int .i64 1]⟩ (.bool y29) wz)] H20 (by subst hx30; kernel_rfl) ⟨fun hg => token_scanner_peek_ok (b_c := b_c) _ _ _ _ (bT (hg.1) hy28) _ (s0ro s0nil (hS.bk 1 rfl)), fun hg => (token_letter_ok _).b, fun hg => token_scanner_escape_ok (b_c := b_c) _ _ _ _ (bF (hg.1) (bT (hg.2.1) hy29)) _ (s0ro s0nil (hS.bk 1 rfl)), trivial⟩ fun _ wd31 H32 hb => ?_
 clear H20
 replace hS := hS.below hb
 clear hb
 refine w_if H32 rfl (fun hc => ?c131) (fun hc => ?_)
 case c131 =>
  replace hm := bT hc hm
  obtain ⟨y33, hy33, hm⟩ := bindE hm
  refine s_reg [(.bool y33)] [0, 2, 5] [(0, [], .pointer (some ⟨b_c, 0, none⟩)), (2, [], .pointer (some ⟨b1, 0, none⟩)), (5, [], .bool y33)] [fun wz => RetB Tryz.prog 35 ⟨[.pointer (some ⟨b_c, 0, none⟩), .int .i64 1]⟩ (.bool y33) wz] H32 (by kernel_rfl) ⟨(token_scanner_name_ok (b_c := b_c) _ _ _ _ hy33 _ (s0ro s0nil (hS.bk 1 rfl))), trivial⟩ fun _ wd34 H35 hb => ?_
  clear H32
  replace hS := hS.below hb
  clear hb
  refine w_seq ?_
  refine wl_start ?_
  refine wl_batch 0 7 [(.int .i64 c_at_)] [0, 2, 5, 51, 53] [(0, [], .pointer (some ⟨b_c, 0, none⟩)), (2, [], .pointer (some ⟨b1, 0, none⟩)), (5, [], .bool y33), (51, [], .int .i64 (w64 (c_at_ + 1))), (53, [], .pointer (some ⟨b_c, 1, none⟩))] [fun wz => V.at1 ⟨b_c, 1, none⟩ (.int .i64 c_at_) wz] H35 (by decide) (by kernel_rfl) ⟨((hS.bk 1 rfl).at1 rfl), trivial⟩ fun _ wd36 H37 hb => ?_
  clear H35
  replace hS := hS.below hb
  clear hb
  have hd := hS.hand [1] [0] rfl rfl
  refine m_stp0 [0, 2, 5] [(0, [], .pointer (some ⟨b_c, 0, none⟩)), (2, [], .pointer (some ⟨b1, 0, none⟩)), (5, [], .bool y33)] H37 rfl rfl rfl (o_store [.string ⟨⟨c_s⟩⟩, .int .i64 (w64 (c_at_ + 1))] H37 hd rfl rfl (by kernel_rfl) rfl rfl rfl) rfl fun _ wd38 H39 hq => ?_
  clear H37 hd
  obtain ⟨_, hq⟩ := hq
  replace hS : SH M X w [Ent.blk b_c [.string ⟨⟨c_s⟩⟩, .int .i64 (w64 (c_at_ + 1))], Ent.blk b1 [.int .u8 0, .string ⟨⟨[]⟩⟩, .int .i64 0, .string ⟨⟨[]⟩⟩, .bool false]] _ := hS.join [1] [0] rfl rfl hq
  clear hq
  refine wl_end rfl ?_
  refine w_seq ?_
  refine wl_start ?_
  refine wl_batch 0 1 [] [2, 5, 54] [(2, [], .pointer (some ⟨b1, 0, none⟩)), (5, [], .bool y33), (54, [], .pointer (some ⟨b_c, 0, none⟩))] [] H39 (by decide) (by kernel_rfl) trivial fun _ wd40 H41 hb => ?_
  clear H39
  replace hS := hS.below hb
  clear hb
  obtain ⟨y42, hy42, hm⟩ := bindE hm
  have hd := hS.hand [0] [1] rfl rfl
  refine m_stp [55, 2, 5] [(2, [], .pointer (some ⟨b1, 0, none⟩)), (5, [], .bool y33)] H41 rfl rfl rfl rfl (o_callx H41 rfl rfl (token_scanner_word_ok (b_c := b_c) m _ _ _ hy42 _ _ hd)) (fun _ => rfl) fun _ wd43 v H44 hq => ?_
  clear H41 hd
  obtain ⟨rfl, hq⟩ := hq
  replace hS : SH M X w [Ent.blk b_c [.string ⟨⟨c_s⟩⟩, .int .i64 y42.2], Ent.blk b1 [.int .u8 0, .string ⟨⟨[]⟩⟩, .int .i64 0, .string ⟨⟨[]⟩⟩, .bool false]] _ := hS.join [0] [1] rfl rfl hq
  clear hq
  refine wl_batch 2 4 [] [2, 57] [(2, [], .pointer (some ⟨b1, 0, none⟩)), (57, [], .agg ⟨[.int .u8 4, .string ⟨⟨y42.1⟩⟩, .int .i64 0, .string ⟨⟨[]⟩⟩, .bool y33]⟩)] [] H44 (by decide) (by kernel_rfl) trivial fun _ wd45 H46 hb => ?_
  clear H44
  replace hS := hS.below hb
  clear hb
  have hd := hS.hand [1] [0] rfl rfl
  refine m_stp0 [2] [(2, [], .pointer (some ⟨b1, 0, none⟩))] H46 rfl rfl rfl (o_store [.int .u8 4, .string ⟨⟨y42.1⟩⟩, .int .i64 0, .string ⟨⟨[]⟩⟩, .bool y33] H46 hd rfl rfl (by kernel_rfl) rfl rfl rfl) rfl fun _ wd47 H48 hq => ?_
  clear H46 hd
  obtain ⟨_, hq⟩ := hq
  replace hS : SH M X w [Ent.blk b1 [.int .u8 4, .string ⟨⟨y42.1⟩⟩, .int .i64 0, .string ⟨⟨[]⟩⟩, .bool y33], Ent.blk b_c [.string ⟨⟨c_s⟩⟩, .int .i64 y42.2]] _ := hS.join [1] [0] rfl rfl hq
  clear hq
  refine wl_end rfl ?_
  refine w_ret ?_
  obtain rfl := someE hm
  exact retR1 H48 rfl (oneRes_agg rfl (hS.bk 0 rfl) Tryz.underlying44 rfl (by kernel_rfl)) ⟨_, rfl, rfl, (hS.sel [1] rfl)⟩
 replace hm := bF hc hm
 obtain ⟨y49, hy49, hm⟩ := bindE hm
 refine s_reg [(.bool y49)] [0, 2, 3, 4, 58] [(0, [], .pointer (some ⟨b_c, 0, none⟩)), (2, [], .pointer (some ⟨b1, 0, none⟩)), (3, [], .int .i64 y4), (4, [], .string ⟨⟨sub c_s c_at_ (ln c_s)⟩⟩), (58, [], .bool y49)] [fun wz => RetB Tryz.prog 32 ⟨[.pointer (some ⟨b_c, 0, none⟩)]⟩ (.bool y49) wz] H32 (by kernel_rfl) ⟨(token_scanner_number_ok (b_c := b_c) _ _ _ hy49 _ (s0ro s0nil (hS.bk 1 rfl))), trivial⟩ fun _ wd50 H51 hb => ?_
 clear H32
 replace hS := hS.below hb
 clear hb
 refine w_if H51 rfl (fun hc => ?c130) (fun hc => ?_)
 case c130 =>
  replace hm := bT hc hm
  refine w_seq ?_
  refine wl_start ?_
  refine wl_batch 0 1 [] [2, 61] [(2, [], .pointer (some ⟨b1, 0, none⟩)), (61, [], .pointer (some ⟨b_c, 0, none⟩))] [] H51 (by decide) (by kernel_rfl) trivial fun _ wd52 H53 hb => ?_
  clear H51
  replace hS := hS.below hb
  clear hb
  obtain ⟨y54, hy54, hm⟩ := bindE hm
  have hd := hS.hand [1] [0] rfl rfl
  refine m_stp [62, 2] [(2, [], .pointer (some ⟨b1, 0, none⟩))] H53 rfl rfl rfl rfl (o_callx H53 rfl rfl (token_scanner_numeric_ok (b_c := b_c) m _ _ _ hy54 _ _ hd)) (fun _ => rfl) fun _ wd55 v H56 hq => ?_
  clear H53 hd
  obtain ⟨rfl, hq⟩ := hq
  replace hS : SH M X w [Ent.blk b_c [.string ⟨⟨c_s⟩⟩, .int .i64 y54.2], Ent.blk b1 [.int .u8 0, .string ⟨⟨[]⟩⟩, .int .i64 0, .string ⟨⟨[]⟩⟩, .bool false]] _ := hS.join [1] [0] rfl rfl hq
  clear hq
  have hd := hS.hand [1] [0] rfl rfl
  refine m_stp0 [2] [(2, [], .pointer (some ⟨b1, 0, none⟩))] H56 rfl rfl rfl (o_store [.int .u8 y54.1.Kind, .string ⟨⟨y54.1.Text⟩⟩, .int .i64 y54.1.Num, .string ⟨⟨y54.1.Unit⟩⟩, .bool y54.1.Flag] H56 hd rfl rfl (by kernel_rfl) rfl rfl rfl) rfl fun _ wd57 H58 hq => ?_
  clear H56 hd
  obtain ⟨_, hq⟩ := hq
  replace hS : SH M X w [Ent.blk b1 [.int .u8 y54.1.Kind, .string ⟨⟨y54.1.Text⟩⟩, .int .i64 y54.1.Num, .string ⟨⟨y54.1.Unit⟩⟩, .bool y54.1.Flag], Ent.blk b_c [.string ⟨⟨c_s⟩⟩, .int .i64 y54.2]] _ := hS.join [1] [0] rfl rfl hq
  clear hq
  refine wl_end rfl ?_
  refine w_ret ?_
  obtain rfl := someE hm
  exact retR1 H58 rfl (oneRes_agg rfl (hS.bk 0 rfl) Tryz.underlying44 rfl (by kernel_rfl)) ⟨_, rfl, rfl, (hS.sel [1] rfl)⟩
 replace hm := bF hc hm
 obtain ⟨y59, hy59, hm⟩ := bindE hm
 refine s_reg [(.bool y59)] [0, 2, 3, 4, 63] [(0, [], .pointer (some ⟨b_c, 0, none⟩)), (2, [], .pointer (some ⟨b1, 0, none⟩)), (3, [], .int .i64 y4), (4, [], .string ⟨⟨sub c_s c_at_ (ln c_s)⟩⟩), (63, [], .bool y59)] [fun wz => RetB Tryz.prog 55 ⟨[.string ⟨⟨sub c_s c_at_ (ln c_s)⟩⟩, .string ⟨⟨[45, 45, 62]⟩⟩]⟩ (.bool y59) wz] H51 (by kernel_rfl) ⟨((strings_HasPrefix_ok _ _ _ hy59).b), trivial⟩ fun _ wd60 H61 hb => ?_
 clear H51
 replace hS := hS.below hb
 clear hb
 refine w_if H61 rfl (fun hc => ?c129) (fun hc => ?_)
 case c129 =>
  replace hm := bT hc hm
  refine w_seq ?_
  refine wl_start ?_
  refine wl_batch 0 7 [(.int .i64 c_at_)] [2, 70, 72] [(2, [], .pointer (some ⟨b1, 0, none⟩)), (70, [], .int .i64 (w64 (c_at_ + 3))), (72, [], .pointer (some ⟨b_c, 1, none⟩))] [fun wz => V.at1 ⟨b_c, 1, none⟩ (.int .i64 c_at_) wz] H61 (by decide) (by kernel_rfl) ⟨((hS.bk 1 rfl).at1 rfl), trivial⟩ fun _ wd62 H63 hb => ?_
  clear H61
  replace hS := hS.below hb
  clear hb
  have hd := hS.hand [1] [0] rfl rfl
  refine m_stp0 [2] [(2, [], .pointer (some ⟨b1, 0, none⟩))] H63 rfl rfl rfl (o_store [.string ⟨⟨c_s⟩⟩, .int .i64 (w64 (c_at_ + 3))] H63 hd rfl rfl (by kernel_rfl) rfl rfl rfl) rfl fun _ wd64 H65 hq => ?_
  clear H63 hd
  obtain ⟨_, hq⟩ := hq
  replace hS : SH M X w [Ent.blk b_c [.string ⟨⟨c_s⟩⟩, .int .i64 (w64 (c_at_ + 3))], Ent.blk b1 [.int .u8 0, .string ⟨⟨[]⟩⟩, .int .i64 0, .string ⟨⟨[]⟩⟩, .bool false]] _ := hS.join [1] [0] rfl rfl hq
  clear hq
  refine wl_end rfl ?_
  refine w_seq ?_
  refine wl_start ?_
  refine wl_batch 0 1 [] [2, 73] [(2, [], .pointer (some ⟨b1, 0, none⟩)), (73, [], .agg ⟨[.int .u8 15, .string ⟨⟨[]⟩⟩, .int .i64 0, .string ⟨⟨[]⟩⟩, .bool false]⟩)] [] H65 (by decide) (by kernel_rfl) trivial fun _ wd66 H67 hb => ?_
  clear H65
  replace hS := hS.below hb
  clear hb
  have hd := hS.hand [1] [0] rfl rfl
  refine m_stp0 [2] [(2, [], .pointer (some ⟨b1, 0, none⟩))] H67 rfl rfl rfl (o_store [.int .u8 15, .string ⟨⟨[]⟩⟩, .int .i64 0, .string ⟨⟨[]⟩⟩, .bool false] H67 hd rfl rfl (by kernel_rfl) rfl rfl rfl) rfl fun _ wd68 H69 hq => ?_
  clear H67 hd
  obtain ⟨_, hq⟩ := hq
  replace hS : SH M X w [Ent.blk b1 [.int .u8 15, .string ⟨⟨[]⟩⟩, .int .i64 0, .string ⟨⟨[]⟩⟩, .bool false], Ent.blk b_c [.string ⟨⟨c_s⟩⟩, .int .i64 (w64 (c_at_ + 3))]] _ := hS.join [1] [0] rfl rfl hq
  clear hq
  refine wl_end rfl ?_
  refine w_ret ?_
  obtain rfl := someE hm
  exact retR1 H69 rfl (oneRes_agg rfl (hS.bk 0 rfl) Tryz.underlying44 rfl (by kernel_rfl)) ⟨_, rfl, rfl, (hS.sel [1] rfl)⟩
 replace hm := bF hc hm
 obtain ⟨y70, hy70, hm⟩ := bindE hm
 refine s_reg [(.bool y70)] [0, 2, 3, 4, 74] [(0, [], .pointer (some ⟨b_c, 0, none⟩)), (2, [], .pointer (some ⟨b1, 0, none⟩)), (3, [], .int .i64 y4), (4, [], .string ⟨⟨sub c_s c_at_ (ln c_s)⟩⟩), (74, [], .bool y70)] [fun wz => RetB Tryz.prog 55 ⟨[.string ⟨⟨sub c_s c_at_ (ln c_s)⟩⟩, .string ⟨⟨[60, 33, 45, 45]⟩⟩]⟩ (.bool y70) wz] H61 (by kernel_rfl) ⟨((strings_HasPrefix_ok _ _ _ hy70).b), trivial⟩ fun _ wd71 H72 hb => ?_
 clear H61
 replace hS := hS.below hb
 clear hb
 refine w_if H72 rfl (fun hc => ?c128) (fun hc => ?_)
 case c128 =>
  replace hm := bT hc hm
  refine w_seq ?_
  refine wl_start ?_
  refine wl_batch 0 7 [(.int .i64 c_at_)] [2, 81, 83] [(2, [], .pointer (some ⟨b1, 0, none⟩)), (81, [], .int .i64 (w64 (c_at_ + 4))), (83, [], .pointer (some ⟨b_c, 1, none⟩))] [fun wz => V.at1 ⟨b_c, 1, none⟩ (.int .i64 c_at_) wz] H72 (by decide) (by kernel_rfl) ⟨((hS.bk 1 rfl).at1 rfl), trivial⟩ fun _ wd73 H74 hb => ?_
  clear H72
  replace hS := hS.below hb
  clear hb
  have hd := hS.hand [1] [0] rfl rfl
  refine m_stp0 [2] [(2, [], .pointer (some ⟨b1, 0, none⟩))] H74 rfl rfl rfl (o_store [.string ⟨⟨c_s⟩⟩, .int .i64 (w64 (c_at_ + 4))] H74 hd rfl rfl (by kernel_rfl) rfl rfl rfl) rfl fun _ wd75 H76 hq => ?_
  clear H74 hd
  obtain ⟨_, hq⟩ := hq
  replace hS : SH M X w [Ent.blk b_c [.string ⟨⟨c_s⟩⟩, .int .i64 (w64 (c_at_ + 4))], Ent.blk b1 [.int .u8 0, .string ⟨⟨[]⟩⟩, .int .i64 0, .string ⟨⟨[]⟩⟩, .bool false]] _ := hS.join [1] [0] rfl rfl hq
  clear hq
  refine wl_end rfl ?_
  refine w_seq ?_
  refine wl_start ?_
  refine wl_batch 0 1 [] [2, 84] [(2, [], .pointer (some ⟨b1, 0, none⟩)), (84, [], .agg ⟨[.int .u8 14, .string ⟨⟨[]⟩⟩, .int .i64 0, .string ⟨⟨[]⟩⟩, .bool false]⟩)] [] H76 (by decide) (by kernel_rfl) trivial fun _ wd77 H78 hb => ?_
  clear H76
  replace hS := hS.below hb
  clear hb
  have hd := hS.hand [1] [0] rfl rfl
  refine m_stp0 [2] [(2, [], .pointer (some ⟨b1, 0, none⟩))] H78 rfl rfl rfl (o_store [.int .u8 14, .string ⟨⟨[]⟩⟩, .int .i64 0, .string ⟨⟨[]⟩⟩, .bool false] H78 hd rfl rfl (by kernel_rfl) rfl rfl rfl) rfl fun _ wd79 H80 hq => ?_
  clear H78 hd
  obtain ⟨_, hq⟩ := hq
  replace hS : SH M X w [Ent.blk b1 [.int .u8 14, .string ⟨⟨[]⟩⟩, .int .i64 0, .string ⟨⟨[]⟩⟩, .bool false], Ent.blk b_c [.string ⟨⟨c_s⟩⟩, .int .i64 (w64 (c_at_ + 4))]] _ := hS.join [1] [0] rfl rfl hq
  clear hq
  refine wl_end rfl ?_
  refine w_ret ?_
  obtain rfl := someE hm
  exact retR1 H80 rfl (oneRes_agg rfl (hS.bk 0 rfl) Tryz.underlying44 rfl (by kernel_rfl)) ⟨_, rfl, rfl, (hS.sel [1] rfl)⟩
 replace hm := bF hc hm
 obtain ⟨y81, hy81, hm⟩ := bindE hm
 refine s_reg [(.bool y81)] [0, 2, 3, 4, 85] [(0, [], .pointer (some ⟨b_c, 0, none⟩)), (2, [], .pointer (some ⟨b1, 0, none⟩)), (3, [], .int .i64 y4), (4, [], .string ⟨⟨sub c_s c_at_ (ln c_s)⟩⟩), (85, [], .bool (cond (y4 == 64) y81 false))] [fun wz => ((y4 == 64) = true ∧ True → RetB Tryz.prog 35 ⟨[.pointer (some ⟨b_c, 0, none⟩), .int .i64 1]⟩ (.bool y81) wz)] H72 (by kernel_rfl) ⟨fun hg => token_scanner_name_ok (b_c := b_c) _ _ _ _ (bT (hg.1) hy81) _ (s0ro s0nil (hS.bk 1 rfl)), trivial⟩ fun _ wd82 H83 hb => ?_
 clear H72
 replace hS := hS.below hb
 clear hb
 refine w_if H83 rfl (fun hc => ?c127) (fun hc => ?_)
 case c127 =>
  replace hm := bT hc hm
  refine w_seq ?_
  refine wl_start ?_
  refine wl_batch 0 7 [(.int .i64 c_at_)] [0, 2, 96, 98] [(0, [], .pointer (some ⟨b_c, 0, none⟩)), (2, [], .pointer (some ⟨b1, 0, none⟩)), (96, [], .int .i64 (w64 (c_at_ + 1))), (98, [], .pointer (some ⟨b_c, 1, none⟩))] [fun wz => V.at1 ⟨b_c, 1, none⟩ (.int .i64 c_at_) wz] H83 (by decide) (by kernel_rfl) ⟨((hS.bk 1 rfl).at1 rfl), trivial⟩ fun _ wd84 H85 hb => ?_
  clear H83
  replace hS := hS.below hb
  clear hb
  have hd := hS.hand [1] [0] rfl rfl
  refine m_stp0 [0, 2] [(0, [], .pointer (some ⟨b_c, 0, none⟩)), (2, [], .pointer (some ⟨b1, 0, none⟩))] H85 rfl rfl rfl (o_store [.string ⟨⟨c_s⟩⟩, .int .i64 (w64 (c_at_ + 1))] H85 hd rfl rfl (by kernel_rfl) rfl rfl rfl) rfl fun _ wd86 H87 hq => ?_
  clear H85 hd
  obtain ⟨_, hq⟩ := hq
  replace hS : SH M X w [Ent.blk b_c [.string ⟨⟨c_s⟩⟩, .int .i64 (w64 (c_at_ + 1))], Ent.blk b1 [.int .u8 0, .string ⟨⟨[]⟩⟩, .int .i64 0, .string ⟨⟨[]⟩⟩, .bool false]] _ := hS.join [1] [0] rfl rfl hq
  clear hq
  refine wl_end rfl ?_
  refine w_seq ?_
  refine wl_start ?_
  refine wl_batch 0 1 [] [2, 99] [(2, [], .pointer (some ⟨b1, 0, none⟩)), (99, [], .pointer (some ⟨b_c, 0, none⟩))] [] H87 (by decide) (by kernel_rfl) trivial fun _ wd88 H89 hb => ?_
  clear H87
  replace hS := hS.below hb
  clear hb
  obtain ⟨y90, hy90, hm⟩ := bindE hm
  have hd := hS.hand [0] [1] rfl rfl
  refine m_stp [100, 2] [(2, [], .pointer (some ⟨b1, 0, none⟩))] H89 rfl rfl rfl rfl (o_callx H89 rfl rfl (token_scanner_word_ok (b_c := b_c) m _ _ _ hy90 _ _ hd)) (fun _ => rfl) fun _ wd91 v H92 hq => ?_
  clear H89 hd
  obtain ⟨rfl, hq⟩ := hq
  replace hS : SH M X w [Ent.blk b_c [.string ⟨⟨c_s⟩⟩, .int .i64 y90.2], Ent.blk b1 [.int .u8 0, .string ⟨⟨[]⟩⟩, .int .i64 0, .string ⟨⟨[]⟩⟩, .bool false]] _ := hS.join [0] [1] rfl rfl hq
  clear hq
  refine wl_batch 2 3 [] [2, 101] [(2, [], .pointer (some ⟨b1, 0, none⟩)), (101, [], .agg ⟨[.int .u8 3, .string ⟨⟨y90.1⟩⟩, .int .i64 0, .string ⟨⟨[]⟩⟩, .bool false]⟩)] [] H92 (by decide) (by kernel_rfl) trivial fun _ wd93 H94 hb => ?_
  clear H92
  replace hS := hS.below hb
  clear hb
  have hd := hS.hand [1] [0] rfl rfl
  refine m_stp0 [2] [(2, [], .pointer (some ⟨b1, 0, none⟩))] H94 rfl rfl rfl (o_store [.int .u8 3, .string ⟨⟨y90.1⟩⟩, .int .i64 0, .string ⟨⟨[]⟩⟩, .bool false] H94 hd rfl rfl (by kernel_rfl) rfl rfl rfl) rfl fun _ wd95 H96 hq => ?_
  clear H94 hd
  obtain ⟨_, hq⟩ := hq
  replace hS : SH M X w [Ent.blk b1 [.int .u8 3, .string ⟨⟨y90.1⟩⟩, .int .i64 0, .string ⟨⟨[]⟩⟩, .bool false], Ent.blk b_c [.string ⟨⟨c_s⟩⟩, .int .i64 y90.2]] _ := hS.join [1] [0] rfl rfl hq
  clear hq
  refine wl_end rfl ?_
  refine w_ret ?_
  obtain rfl := someE hm
  exact retR1 H96 rfl (oneRes_agg rfl (hS.bk 0 rfl) Tryz.underlying44 rfl (by kernel_rfl)) ⟨_, rfl, rfl, (hS.sel [1] rfl)⟩
 replace hm := bF hc hm
 obtain ⟨y97, hy97, hm⟩ := bindE hm
 refine s_reg [(.bool y97)] [0, 2, 3, 4, 102] [(0, [], .pointer (some ⟨b_c, 0, none⟩)), (2, [], .pointer (some ⟨b1, 0, none⟩)), (3, [], .int .i64 y4), (4, [], .string ⟨⟨sub c_s c_at_ (ln c_s)⟩⟩), (102, [], .bool y97)] [fun wz => RetB Tryz.prog 35 ⟨[.pointer (some ⟨b_c, 0, none⟩), .int .i64 0]⟩ (.bool y97) wz] H83 (by kernel_rfl) ⟨(token_scanner_name_ok (b_c := b_c) _ _ _ _ hy97 _ (s0ro s0nil (hS.bk 1 rfl))), trivial⟩ fun _ wd98 H99 hb => ?_
 clear H83
 replace hS := hS.below hb
 clear hb
 refine w_if H99 rfl (fun hc => ?c126) (fun hc => ?_)
 case c126 =>
  replace hm := bT hc hm
  refine w_seq ?_
  refine wl_start ?_
  refine wl_batch 0 1 [] [2, 105] [(2, [], .pointer (some ⟨b1, 0, none⟩)), (105, [], .pointer (some ⟨b_c, 0, none⟩))] [] H99 (by decide) (by kernel_rfl) trivial fun _ wd100 H101 hb => ?_
  clear H99
  replace hS := hS.below hb
  clear hb
  obtain ⟨y102, hy102, hm⟩ := bindE hm
  have hd := hS.hand [1] [0] rfl rfl
  refine m_stp [106, 2] [(2, [], .pointer (some ⟨b1, 0, none⟩))] H101 rfl rfl rfl rfl (o_callx H101 rfl rfl (token_scanner_ident_ok (b_c := b_c) m _ _ _ hy102 _ _ hd)) (fun _ => rfl) fun _ wd103 v H104 hq => ?_
  clear H101 hd
  obtain ⟨rfl, hq⟩ := hq
  replace hS : SH M X w [Ent.blk b_c [.string ⟨⟨c_s⟩⟩, .int .i64 y102.2], Ent.blk b1 [.int .u8 0, .string ⟨⟨[]⟩⟩, .int .i64 0, .string ⟨⟨[]⟩⟩, .bool false]] _ := hS.join [1] [0] rfl rfl hq
  clear hq
  have hd := hS.hand [1] [0] rfl rfl
  refine m_stp0 [2] [(2, [], .pointer (some ⟨b1, 0, none⟩))] H104 rfl rfl rfl (o_store [.int .u8 y102.1.Kind, .string ⟨⟨y102.1.Text⟩⟩, .int .i64 y102.1.Num, .string ⟨⟨y102.1.Unit⟩⟩, .bool y102.1.Flag] H104 hd rfl rfl (by kernel_rfl) rfl rfl rfl) rfl fun _ wd105 H106 hq => ?_
  clear H104 hd
  obtain ⟨_, hq⟩ := hq
  replace hS : SH M X w [Ent.blk b1 [.int .u8 y102.1.Kind, .string ⟨⟨y102.1.Text⟩⟩, .int .i64 y102.1.Num, .string ⟨⟨y102.1.Unit⟩⟩, .bool y102.1.Flag], Ent.blk b_c [.string ⟨⟨c_s⟩⟩, .int .i64 y102.2]] _ := hS.join [1] [0] rfl rfl hq
  clear hq
  refine wl_end rfl ?_
  refine w_ret ?_
  obtain rfl := someE hm
  exact retR1 H106 rfl (oneRes_agg rfl (hS.bk 0 rfl) Tryz.underlying44 rfl (by kernel_rfl)) ⟨_, rfl, rfl, (hS.sel [1] rfl)⟩
 replace hm := bF hc hm
 refine w_skip ?_
 refine w_seq ?_
 refine wl_start ?_
 refine wl_batch 0 7 [(.int .i64 c_at_)] [2, 3, 4, 111, 113] [(2, [], .pointer (some ⟨b1, 0, none⟩)), (3, [], .int .i64 y4), (4, [], .string ⟨⟨sub c_s c_at_ (ln c_s)⟩⟩), (111, [], .int .i64 (w64 (c_at_ + 1))), (113, [], .pointer (some ⟨b_c, 1, none⟩))] [fun wz => V.at1 ⟨b_c, 1, none⟩ (.int .i64 c_at_) wz] H99 (by decide) (by kernel_rfl) ⟨((hS.bk 1 rfl).at1 rfl), trivial⟩ fun _ wd107 H108 hb => ?_
 clear H99
 replace hS := hS.below hb
 clear hb
 have hd := hS.hand [1] [0] rfl rfl
 refine m_stp0 [2, 3, 4] [(2, [], .pointer (some ⟨b1, 0, none⟩)), (3, [], .int .i64 y4), (4, [], .string ⟨⟨sub c_s c_at_ (ln c_s)⟩⟩)] H108 rfl rfl rfl (o_store [.string ⟨⟨c_s⟩⟩, .int .i64 (w64 (c_at_ + 1))] H108 hd rfl rfl (by kernel_rfl) rfl rfl rfl) rfl fun _ wd109 H110 hq => ?_
 clear H108 hd
 obtain ⟨_, hq⟩ := hq
 replace hS : SH M X w [Ent.blk b_c [.string ⟨⟨c_s⟩⟩, .int .i64 (w64 (c_at_ + 1))], Ent.blk b1 [.int .u8 0, .string ⟨⟨[]⟩⟩, .int .i64 0, .string ⟨⟨[]⟩⟩, .bool false]] _ := hS.join [1] [0] rfl rfl hq
 clear hq
 refine wl_end rfl ?_
 refine w_seq ?_
 obtain ⟨y111, hy111, hm⟩ := letE hm
 refine s_reg [(.int .i64 y111)] [2, 4, 6] [(2, [], .pointer (some ⟨b1, 0, none⟩)), (4, [], .string ⟨⟨sub c_s c_at_ (ln c_s)⟩⟩), (6, [], .int .i64 y111)] [fun wz => RetB Tryz.prog 61 ⟨[.string ⟨⟨[58, 59, 44, 91, 93, 40, 41, 123, 125]⟩⟩, .int .u8 (wu8 y4)]⟩ (.int .i64 y111) wz] H110 (by subst hy111; kernel_rfl) ⟨((by rw [hy111]; exact (strings_IndexByte_ok _ _).b)), trivial⟩ fun _ wd112 H113 hb => ?_
 clear H110
 replace hS := hS.below hb
 clear hb
 refine s_reg [] [2, 4, 6, 118] [(2, [], .pointer (some ⟨b1, 0, none⟩)), (4, [], .string ⟨⟨sub c_s c_at_ (ln c_s)⟩⟩), (6, [], .int .i64 y111), (118, [], .bool (decide (0 ≤ y111)))] [] H113 (by kernel_rfl) trivial fun _ wd114 H115 hb => ?_
 clear H113
 replace hS := hS.below hb
 clear hb
 refine w_if H115 rfl (fun hc => ?c125) (fun hc => ?_)
 case c125 =>
  replace hm := bT hc hm
  refine w_seq ?_
  refine wl_start ?_
  refine wl_batch 0 4 [] [2, 122] [(2, [], .pointer (some ⟨b1, 0, none⟩)), (122, [], .agg ⟨[.int .u8 (wu8 (16 + (wu8 y111))), .string ⟨⟨[]⟩⟩, .int .i64 0, .string ⟨⟨[]⟩⟩, .bool false]⟩)] [] H115 (by decide) (by kernel_rfl) trivial fun _ wd116 H117 hb => ?_
  clear H115
  replace hS := hS.below hb
  clear hb
  have hd := hS.hand [1] [0] rfl rfl
  refine m_stp0 [2] [(2, [], .pointer (some ⟨b1, 0, none⟩))] H117 rfl rfl rfl (o_store [.int .u8 (wu8 (16 + (wu8 y111))), .string ⟨⟨[]⟩⟩, .int .i64 0, .string ⟨⟨[]⟩⟩, .bool false] H117 hd rfl rfl (by kernel_rfl) rfl rfl rfl) rfl fun _ wd118 H119 hq => ?_
  clear H117 hd
  obtain ⟨_, hq⟩ := hq
  replace hS : SH M X w [Ent.blk b1 [.int .u8 (wu8 (16 + (wu8 y111))), .string ⟨⟨[]⟩⟩, .int .i64 0, .string ⟨⟨[]⟩⟩, .bool false], Ent.blk b_c [.string ⟨⟨c_s⟩⟩, .int .i64 (w64 (c_at_ + 1))]] _ := hS.join [1] [0] rfl rfl hq
  clear hq
  refine wl_end rfl ?_
  refine w_ret ?_
  obtain rfl := someE hm
  exact retR1 H119 rfl (oneRes_agg rfl (hS.bk 0 rfl) Tryz.underlying44 rfl (by kernel_rfl)) ⟨_, rfl, rfl, (hS.sel [1] rfl)⟩
 replace hm := bF hc hm
 refine w_skip ?_
 refine w_seq ?_
 refine wl_start ?_
 obtain ⟨ho120, hm⟩ := chkE hm
 refine wl_batch 0 3 [] [2, 125] [(2, [], .pointer (some ⟨b1, 0, none⟩)), (125, [], .agg ⟨[.int .u8 9, .string ⟨⟨sub (sub c_s c_at_ (ln c_s)) 0 1⟩⟩, .int .i64 0, .string ⟨⟨[]⟩⟩, .bool false]⟩)] [fun _ => 0 ≤ (1 : Int) ∧ (1 : Int) ≤ ln (sub c_s c_at_ (ln c_s))] H115 (by decide) (by kernel_rfl) ⟨ho120, trivial⟩ fun _ wd121 H122 hb => ?_
 clear H115
 replace hS := hS.below hb
 clear hb
 have hd := hS.hand [1] [0] rfl rfl
 refine m_stp0 [2] [(2, [], .pointer (some ⟨b1, 0, none⟩))] H122 rfl rfl rfl (o_store [.int .u8 9, .string ⟨⟨sub (sub c_s c_at_ (ln c_s)) 0 1⟩⟩, .int .i64 0, .string ⟨⟨[]⟩⟩, .bool false] H122 hd rfl rfl (by kernel_rfl) rfl rfl rfl) rfl fun _ wd123 H124 hq => ?_
 clear H122 hd
 obtain ⟨_, hq⟩ := hq
 replace hS : SH M X w [Ent.blk b1 [.int .u8 9, .string ⟨⟨sub (sub c_s c_at_ (ln c_s)) 0 1⟩⟩, .int .i64 0, .string ⟨⟨[]⟩⟩, .bool false], Ent.blk b_c [.string ⟨⟨c_s⟩⟩, .int .i64 (w64 (c_at_ + 1))]] _ := hS.join [1] [0] rfl rfl hq
 clear hq
 refine wl_end rfl ?_
 refine w_ret ?_
 obtain rfl := someE hm
 exact retR1 H124 rfl (oneRes_agg rfl (hS.bk 0 rfl) Tryz.underlying44 rfl (by kernel_rfl)) ⟨_, rfl, rfl, (hS.sel [1] rfl)⟩
theorem token_scanner_next_ok {b_c : Nat} (m : Nat) (c_s : Str) (c_at_ : Int) (r : TToken × Int) (hm : token_scanner_next m c_s c_at_ = some r) (M : Av) (w : World) (hS : S0 M [Ent.blk b_c [.string ⟨⟨c_s⟩⟩, .int .i64 c_at_]] w) : DoesX Tryz.prog 38 ⟨[.pointer (some ⟨b_c, 0, none⟩)]⟩ w (fun v w' => v = .agg ⟨[.int .u8 r.1.Kind, .string ⟨⟨r.1.Text⟩⟩, .int .i64 r.1.Num, .string ⟨⟨r.1.Unit⟩⟩, .bool r.1.Flag]⟩ ∧ SH M (fpl [Ent.blk b_c [.string ⟨⟨c_s⟩⟩, .int .i64 c_at_]]) w [Ent.blk b_c [.string ⟨⟨c_s⟩⟩, .int .i64 r.2]] w') := ⟨Tryz.call38 _, token_scanner_next_w M m   c_s c_at_ r hm w hS⟩

def token_Tokens_1 (t_ : TToken) (from_ : Int) (to : Int) (u0 : List TToken) : Option (List TToken) :=
  chk (ln u0 + ln ([t_] : List TToken) ≤ 1099511627776) <|
  lt (u0 ++ ([t_] : List TToken)) fun q11 =>
  some q11
theorem token_Tokens_1_w {b_u0 : Nat} {g_u0 : Gh} (M : Av) (t_ : TToken) (from_ : Int) (to : Int) (u0 : List TToken) (r : List TToken) (hm : token_Tokens_1 t_ from_ to u0 = some r) (w : World) (hS : S0 M [Ent.blk b_u0 [.slice g_u0.a u0.length g_u0.c], Ent.own 44 tyToken u0 g_u0] w) : Calls Tryz.prog 25 ⟨[.agg ⟨[.int .u8 t_.Kind, .string ⟨⟨t_.Text⟩⟩, .int .i64 t_.Num, .string ⟨⟨t_.Unit⟩⟩, .bool t_.Flag]⟩, .int .i64 from_, .int .i64 to, .pointer (some ⟨b_u0, 0, none⟩)]⟩ w (fun e w' => ∃ v, e = .returned v ∧ ∃ (g901 : Gh), v = .tuple ⟨[]⟩ ∧ SH M (fpl [Ent.blk b_u0 [.slice g_u0.a u0.length g_u0.c], Ent.own 44 tyToken u0 g_u0]) w [Ent.blk b_u0 [.slice g901.a r.length g901.c], Ent.own 44 tyToken r g901] w') := by
 rw [token_Tokens_1] at hm
 have hS0 : SH M (fpl [Ent.blk b_u0 [.slice g_u0.a u0.length g_u0.c], Ent.own 44 tyToken u0 g_u0]) w [Ent.blk b_u0 [.slice g_u0.a u0.length g_u0.c], Ent.own 44 tyToken u0 g_u0] w := hS
 generalize hX : fpl [Ent.blk b_u0 [.slice g_u0.a u0.length g_u0.c], Ent.own 44 tyToken u0 g_u0] = X at hS0 ⊢
 clear hS hX
 have hS := hS0
 clear hS0
 refine calls_entryP Tryz.func25 rfl Tryz.ntmps25 rfl fun _ H => ?_
 refine w_seq ?_
 refine wl_start ?_
 have hd := hS.hand [] [0, 1] rfl rfl
 refine m_stp [4, 3] [(3, [], .pointer (some ⟨b_u0, 0, none⟩))] H rfl rfl rfl rfl (o_box [.int .u8 t_.Kind, .string ⟨⟨t_.Text⟩⟩, .int .i64 t_.Num, .string ⟨⟨t_.Unit⟩⟩, .bool t_.Flag] H hd rfl rfl) (fun _ => rfl) fun _ wd2 v H3 hq => ?_
 clear H hd
 obtain ⟨b1, rfl, hq⟩ := hq
 replace hS : SH M X w [Ent.blk b1 [.int .u8 t_.Kind, .string ⟨⟨t_.Text⟩⟩, .int .i64 t_.Num, .string ⟨⟨t_.Unit⟩⟩, .bool t_.Flag], Ent.blk b_u0 [.slice g_u0.a u0.length g_u0.c], Ent.own 44 tyToken u0 g_u0] _ := hS.join [] [0, 1] rfl rfl hq
 clear hq
 refine wl_end rfl ?_
 refine wl_start ?_
 refine wl_batch 0 2 [(.slice g_u0.a u0.length g_u0.c), (.agg ⟨[.int .u8 t_.Kind, .string ⟨⟨t_.Text⟩⟩, .int .i64 t_.Num, .string ⟨⟨t_.Unit⟩⟩, .bool t_.Flag]⟩)] [3, 7, 8] [(3, [], .pointer (some ⟨b_u0, 0, none⟩)), (7, [], .slice g_u0.a u0.length g_u0.c), (8, [], .agg ⟨[.int .u8 t_.Kind, .string ⟨⟨t_.Text⟩⟩, .int .i64 t_.Num, .string ⟨⟨t_.Unit⟩⟩, .bool t_.Flag]⟩)] [fun wz => V.at1 ⟨b_u0, 0, none⟩ (.slice g_u0.a u0.length g_u0.c) wz, fun wz => V.atN b1 0 [.int .u8 t_.Kind, .string ⟨⟨t_.Text⟩⟩, .int .i64 t_.Num, .string ⟨⟨t_.Unit⟩⟩, .bool t_.Flag] 0 wz] H3 (by decide) (by kernel_rfl) ⟨((hS.bk 1 rfl).at1 rfl), ((hS.bk 0 rfl).atD rfl), trivial⟩ fun _ wd4 H5 hb => ?_
 clear H3
 replace hS := hS.below hb
 clear hb
 have hd := hS.hand [] [0, 1, 2] rfl rfl
 refine m_stp [9, 3, 7] [(3, [], .pointer (some ⟨b_u0, 0, none⟩)), (7, [], .slice g_u0.a u0.length g_u0.c)] H5 rfl rfl rfl rfl (o_lit (T := tyToken) (E := 44) (zv := .agg ⟨[.int .u8 0, .string ⟨⟨[]⟩⟩, .int .i64 0, .string ⟨⟨[]⟩⟩, .bool false]⟩) [.int .u8 t_.Kind, .string ⟨⟨t_.Text⟩⟩, .int .i64 t_.Num, .string ⟨⟨t_.Unit⟩⟩, .bool t_.Flag] ([t_] : List TToken) [gL []] _ H5 hd rfl (by kernel_rfl) (by kernel_rfl) (by kernel_rfl) (by kernel_rfl) (by kernel_rfl) (by kernel_rfl) (by kernel_rfl) rfl (InnL.cons trivial InnL.nil)) (fun _ => rfl) fun _ wd8 v H9 hq => ?_
 clear H5 hd
 obtain ⟨g6, rfl, hq⟩ := hq
 replace hS : SH M X w [Ent.own 44 tyToken ([t_] : List TToken) g6, Ent.blk b1 [.int .u8 t_.Kind, .string ⟨⟨t_.Text⟩⟩, .int .i64 t_.Num, .string ⟨⟨t_.Unit⟩⟩, .bool t_.Flag], Ent.blk b_u0 [.slice g_u0.a u0.length g_u0.c], Ent.own 44 tyToken u0 g_u0] _ := hS.join [] [0, 1, 2] rfl rfl hq
 clear hq
 obtain ⟨ho10, hm⟩ := chkE hm
 obtain ⟨q11, hq11, hm⟩ := letE hm
 have hd := hS.hand [3, 0] [1, 2] rfl rfl
 refine m_stp [10, 3] [(3, [], .pointer (some ⟨b_u0, 0, none⟩))] H9 rfl rfl rfl rfl (o_app2 (T := tyToken) (zv := .agg ⟨[.int .u8 0, .string ⟨⟨[]⟩⟩, .int .i64 0, .string ⟨⟨[]⟩⟩, .bool false]⟩) (g1 := g_u0) (g2 := g6) (l1 := u0) (l2 := ([t_] : List TToken)) q11 hq11.symm H9 hd rfl rfl rfl rfl rfl rfl rfl (by kernel_rfl) (by kernel_rfl) rfl rfl ho10) (fun _ => rfl) fun _ wd12 v H13 hq => ?_
 clear H9 hd
 obtain ⟨g14, rfl, hq⟩ := hq
 replace hS : SH M X w [Ent.own 44 tyToken q11 g14, Ent.own 44 tyToken ([t_] : List TToken) g6, Ent.blk b1 [.int .u8 t_.Kind, .string ⟨⟨t_.Text⟩⟩, .int .i64 t_.Num, .string ⟨⟨t_.Unit⟩⟩, .bool t_.Flag], Ent.blk b_u0 [.slice g_u0.a u0.length g_u0.c]] _ := hS.join [3, 0] [1, 2] rfl rfl hq
 clear hq
 have hd := hS.hand [3] [0, 1, 2] rfl rfl
 refine m_stp0 [] [] H13 rfl rfl rfl (o_store [.slice g14.a q11.length g14.c] H13 hd rfl rfl (by kernel_rfl) rfl rfl rfl) rfl fun _ wd15 H16 hq => ?_
 clear H13 hd
 obtain ⟨_, hq⟩ := hq
 replace hS : SH M X w [Ent.blk b_u0 [.slice g14.a q11.length g14.c], Ent.own 44 tyToken q11 g14, Ent.own 44 tyToken ([t_] : List TToken) g6, Ent.blk b1 [.int .u8 t_.Kind, .string ⟨⟨t_.Text⟩⟩, .int .i64 t_.Num, .string ⟨⟨t_.Unit⟩⟩, .bool t_.Flag]] _ := hS.join [3] [0, 1, 2] rfl rfl hq
 clear hq
 refine wl_end rfl ?_
 replace hS : SH M X w [Ent.blk b_u0 [.slice g14.a q11.length g14.c], Ent.own 44 tyToken q11 g14] _ := hS.sel [0, 1] rfl
 obtain rfl := someE hm
 try dsimp only
 exact retR0 H16 rfl ⟨_, rfl, g14, rfl, (hS.sel [0, 1] rfl)⟩
theorem token_Tokens_1_ok {b_u0 : Nat} {g_u0 : Gh} (t_ : TToken) (from_ : Int) (to : Int) (u0 : List TToken) (r : List TToken) (hm : token_Tokens_1 t_ from_ to u0 = some r) (M : Av) (w : World) (hS : S0 M [Ent.blk b_u0 [.slice g_u0.a u0.length g_u0.c], Ent.own 44 tyToken u0 g_u0] w) : DoesX Tryz.prog 25 ⟨[.agg ⟨[.int .u8 t_.Kind, .string ⟨⟨t_.Text⟩⟩, .int .i64 t_.Num, .string ⟨⟨t_.Unit⟩⟩, .bool t_.Flag]⟩, .int .i64 from_, .int .i64 to, .pointer (some ⟨b_u0, 0, none⟩)]⟩ w (fun v w' => ∃ (g901 : Gh), v = .tuple ⟨[]⟩ ∧ SH M (fpl [Ent.blk b_u0 [.slice g_u0.a u0.length g_u0.c], Ent.own 44 tyToken u0 g_u0]) w [Ent.blk b_u0 [.slice g901.a r.length g901.c], Ent.own 44 tyToken r g901] w') := ⟨Tryz.call25 _, token_Tokens_1_w M   t_ from_ to u0 r hm w hS⟩

def token_read_L1 (m : Nat) (y3 : Str × Int) : Nat → Int → Int → (List TToken) → Option (Sum (Int × (List TToken)) (Int × (List TToken)))
  | 0, _, _, _ => none
  | kk + 1, v25, v26, v27 =>
    cond (decide (v26 < (ln y3.1))) (
    cond (decide (1500 < (w64 (v25 + 1)))) (
    some (.inl (4, v27))) (
    Option.bind (token_scanner_next m y3.1 v26) fun y41 =>
    Option.bind (token_Tokens_1 y41.1 v26 y41.2 v27) fun y50 =>
    Option.bind (token_scanner_comments m y3.1 y41.2) fun y59 =>
    token_read_L1 m y3 kk (w64 (v25 + 1)) y59 y50)) (
    some (.inr (v26, v27)))
def token_read (m : Nat) (s : Str) (tell_c0 : List TToken) : Option (Int × (List TToken)) :=
  lt (cleanF s) fun y3 =>
  cond (y3.2 != 0) (
  some (y3.2, tell_c0)) (
  Option.bind (token_scanner_comments m y3.1 0) fun y19 =>
  Option.bind (
  token_read_L1 m y3 m 0 y19 tell_c0) fun (z24 : Sum (Int × (List TToken)) (Int × (List TToken))) => sumK z24 fun s_z24 =>
  some (0, s_z24.2))
theorem token_read_w {b_tell_c0 : Nat} {g_tell_c0 : Gh} (M : Av) (m : Nat) (s : Str) (tell_c0 : List TToken) (r : Int × (List TToken)) (hm : token_read m s tell_c0 = some r) (w : World) (hS : S0 M [Ent.blk b_tell_c0 [.slice g_tell_c0.a tell_c0.length g_tell_c0.c], Ent.own 44 tyToken tell_c0 g_tell_c0, Ent.gint 0] w) : Calls Tryz.prog 24 ⟨[.string ⟨⟨s⟩⟩, .func (.func 25) ⟨[]⟩ ⟨[.pointer (some ⟨b_tell_c0, 0, none⟩)]⟩]⟩ w (fun e w' => ∃ v, e = .returned v ∧ ∃ (g901 : Gh), v = .int .i64 r.1 ∧ SH M (fpl [Ent.blk b_tell_c0 [.slice g_tell_c0.a tell_c0.length g_tell_c0.c], Ent.own 44 tyToken tell_c0 g_tell_c0, Ent.gint 0]) w [Ent.blk b_tell_c0 [.slice g901.a r.2.length g901.c], Ent.own 44 tyToken r.2 g901] w') := by
 rw [token_read] at hm
 have hS0 : SH M (fpl [Ent.blk b_tell_c0 [.slice g_tell_c0.a tell_c0.length g_tell_c0.c], Ent.own 44 tyToken tell_c0 g_tell_c0, Ent.gint 0]) w [Ent.blk b_tell_c0 [.slice g_tell_c0.a tell_c0.length g_tell_c0.c], Ent.own 44 tyToken tell_c0 g_tell_c0, Ent.gint 0] w := hS
 generalize hX : fpl [Ent.blk b_tell_c0 [.slice g_tell_c0.a tell_c0.length g_tell_c0.c], Ent.own 44 tyToken tell_c0 g_tell_c0, Ent.gint 0] = X at hS0 ⊢
 clear hS hX
 have hS := hS0
 clear hS0
 refine calls_entryP Tryz.func24 rfl Tryz.ntmps24 rfl fun _ H => ?_
 refine s_reg [] [0, 1] [(0, [], .string ⟨⟨s⟩⟩), (1, [], .func (.func 25) ⟨[]⟩ ⟨[.pointer (some ⟨b_tell_c0, 0, none⟩)]⟩)] [] H (by kernel_rfl) trivial fun _ wd1 H2 hb => ?_
 clear H
 replace hS := hS.below hb
 clear hb
 obtain ⟨y3, hy3, hm⟩ := letE hm
 refine s_reg [(.tuple ⟨[.string ⟨⟨y3.1⟩⟩, .int .i64 y3.2]⟩)] [0, 1, 5] [(0, [], .string ⟨⟨y3.1⟩⟩), (1, [], .func (.func 25) ⟨[]⟩ ⟨[.pointer (some ⟨b_tell_c0, 0, none⟩)]⟩), (5, [], .int .i64 y3.2)] [fun wz => RetB Tryz.prog 16 ⟨[.string ⟨⟨s⟩⟩]⟩ (.tuple ⟨[.string ⟨⟨y3.1⟩⟩, .int .i64 y3.2]⟩) wz] H2 (by subst hy3; kernel_rfl) ⟨((by rw [hy3]; exact (cleanF_ok _).b)), trivial⟩ fun _ wd4 H5 hb => ?_
 clear H2
 replace hS := hS.below hb
 clear hb
 refine w_seq ?_
 refine s_reg [] [0, 1, 5, 16] [(0, [], .string ⟨⟨y3.1⟩⟩), (1, [], .func (.func 25) ⟨[]⟩ ⟨[.pointer (some ⟨b_tell_c0, 0, none⟩)]⟩), (5, [], .int .i64 y3.2), (16, [], .bool (y3.2 != 0))] [] H5 (by kernel_rfl) trivial fun _ wd6 H7 hb => ?_
 clear H5
 replace hS := hS.below hb
 clear hb
 refine w_if H7 rfl (fun hc => ?c69) (fun hc => ?_)
 case c69 =>
  replace hm := bT hc hm
  refine s_reg [] [4] [(4, [], .int .i64 y3.2)] [] H7 (by kernel_rfl) trivial fun _ wd8 H9 hb => ?_
  clear H7
  replace hS := hS.below hb
  clear hb
  refine w_ret ?_
  obtain rfl := someE hm
  exact retR1 H9 rfl rfl ⟨_, rfl, g_tell_c0, rfl, (hS.sel [0, 1] rfl)⟩
 replace hm := bF hc hm
 refine w_skip ?_
 refine w_seq ?_
 refine wl_start ?_
 refine wl_batch 0 2 [] [0, 1, 19] [(0, [], .string ⟨⟨y3.1⟩⟩), (1, [], .func (.func 25) ⟨[]⟩ ⟨[.pointer (some ⟨b_tell_c0, 0, none⟩)]⟩), (19, [], .agg ⟨[.string ⟨⟨y3.1⟩⟩, .int .i64 0]⟩)] [] H7 (by decide) (by kernel_rfl) trivial fun _ wd10 H11 hb => ?_
 clear H7
 replace hS := hS.below hb
 clear hb
 have hd := hS.hand [] [0, 1, 2] rfl rfl
 refine m_stp [20, 0, 1] [(0, [], .string ⟨⟨y3.1⟩⟩), (1, [], .func (.func 25) ⟨[]⟩ ⟨[.pointer (some ⟨b_tell_c0, 0, none⟩)]⟩)] H11 rfl rfl rfl rfl (o_box [.string ⟨⟨y3.1⟩⟩, .int .i64 0] H11 hd rfl rfl) (fun _ => rfl) fun _ wd13 v H14 hq => ?_
 clear H11 hd
 obtain ⟨b12, rfl, hq⟩ := hq
 replace hS : SH M X w [Ent.blk b12 [.string ⟨⟨y3.1⟩⟩, .int .i64 0], Ent.blk b_tell_c0 [.slice g_tell_c0.a tell_c0.length g_tell_c0.c], Ent.own 44 tyToken tell_c0 g_tell_c0, Ent.gint 0] _ := hS.join [] [0, 1, 2] rfl rfl hq
 clear hq
 refine wl_batch 3 4 [] [0, 1, 6] [(0, [], .string ⟨⟨y3.1⟩⟩), (1, [], .func (.func 25) ⟨[]⟩ ⟨[.pointer (some ⟨b_tell_c0, 0, none⟩)]⟩), (6, [], .pointer (some ⟨b12, 0, none⟩))] [] H14 (by decide) (by kernel_rfl) trivial fun _ wd15 H16 hb => ?_
 clear H14
 replace hS := hS.below hb
 clear hb
 refine wl_end rfl ?_
 refine w_seq ?_
 refine wl_start ?_
 refine wl_batch 0 1 [] [0, 1, 6, 21] [(0, [], .string ⟨⟨y3.1⟩⟩), (1, [], .func (.func 25) ⟨[]⟩ ⟨[.pointer (some ⟨b_tell_c0, 0, none⟩)]⟩), (6, [], .pointer (some ⟨b12, 0, none⟩)), (21, [], .pointer (some ⟨b12, 0, none⟩))] [] H16 (by decide) (by kernel_rfl) trivial fun _ wd17 H18 hb => ?_
 clear H16
 replace hS := hS.below hb
 clear hb
 obtain ⟨y19, hy19, hm⟩ := bindE hm
 have hd := hS.hand [0, 3] [1, 2, 3] rfl rfl
 refine m_stp [22, 0, 1, 6] [(0, [], .string ⟨⟨y3.1⟩⟩), (1, [], .func (.func 25) ⟨[]⟩ ⟨[.pointer (some ⟨b_tell_c0, 0, none⟩)]⟩), (6, [], .pointer (some ⟨b12, 0, none⟩))] H18 rfl rfl rfl rfl (o_callx H18 rfl rfl (token_scanner_comments_ok (b_c := b12) m _ _ _ hy19 _ _ hd)) (fun _ => rfl) fun _ wd20 v H21 hq => ?_
 clear H18 hd
 obtain ⟨rfl, hq⟩ := hq
 replace hS : SH M X w [Ent.blk b12 [.string ⟨⟨y3.1⟩⟩, .int .i64 y19], Ent.blk b_tell_c0 [.slice g_tell_c0.a tell_c0.length g_tell_c0.c], Ent.own 44 tyToken tell_c0 g_tell_c0, Ent.gint 0] _ := hS.join [0, 3] [1, 2, 3] rfl rfl hq
 clear hq
 refine wl_end rfl ?_
 refine s_reg [] [0, 1, 6, 7] [(0, [], .string ⟨⟨y3.1⟩⟩), (1, [], .func (.func 25) ⟨[]⟩ ⟨[.pointer (some ⟨b_tell_c0, 0, none⟩)]⟩), (6, [], .pointer (some ⟨b12, 0, none⟩)), (7, [], .int .i64 0)] [] H21 (by kernel_rfl) trivial fun _ wd22 H23 hb => ?_
 clear H21
 replace hS := hS.below hb
 clear hb
 obtain ⟨z24, hz, hm_z24⟩ := bindE hm
 refine w_cut (fun a' w' => ∃ s_z24 : Int × (List TToken), z24 = Sum.inr s_z24 ∧ ∃ (g65 : Gh), Fr 50 [] a' ∧ SH M X w [Ent.blk b12 [.string ⟨⟨y3.1⟩⟩, .int .i64 s_z24.1], Ent.blk b_tell_c0 [.slice g65.a s_z24.2.length g65.c], Ent.own 44 tyToken s_z24.2 g65, Ent.gint 0] w') ?_ ?_
 ·replace hm := hz
  refine w_block ?_
  refine w_loop (fun kk a' w' => ∃ (v25 : Int) (v26 : Int) (v27 : List TToken) (g28 : Gh), token_read_L1 m y3 kk v25 v26 v27 = some _ ∧ Fr 50 [(0, [], .string ⟨⟨y3.1⟩⟩), (1, [], .func (.func 25) ⟨[]⟩ ⟨[.pointer (some ⟨b_tell_c0, 0, none⟩)]⟩), (6, [], .pointer (some ⟨b12, 0, none⟩)), (7, [], .int .i64 v25)] a' ∧ SH M X w [Ent.blk b12 [.string ⟨⟨y3.1⟩⟩, .int .i64 v26], Ent.blk b_tell_c0 [.slice g28.a v27.length g28.c], Ent.own 44 tyToken v27 g28, Ent.gint 0] w') ⟨_, 0, y19, tell_c0, g_tell_c0, hm, FrG.keep (ks := [0, 1, 6, 7]) H23 (by kernel_rfl), hS⟩ ?_
  clear hm H23 hS
  rintro kk _ wd64 ⟨v25, v26, v27, g28, hm, H, hS⟩
  cases kk with
  | zero => exact noneE hm
  | succ kk =>
   rw [token_read_L1] at hm
   refine w_seq ?_
   refine s_reg [(.int .i64 v26)] [0, 1, 6, 7, 29] [(0, [], .string ⟨⟨y3.1⟩⟩), (1, [], .func (.func 25) ⟨[]⟩ ⟨[.pointer (some ⟨b_tell_c0, 0, none⟩)]⟩), (6, [], .pointer (some ⟨b12, 0, none⟩)), (7, [], .int .i64 v25), (29, [], .bool (decide (v26 < (ln y3.1))))] [fun wz => V.at1 ⟨b12, 1, none⟩ (.int .i64 v26) wz] H (by kernel_rfl) ⟨((hS.bk 0 rfl).at1 rfl), trivial⟩ fun _ wd29 H30 hb => ?_
   clear H
   replace hS := hS.below hb
   clear hb
   refine w_if H30 rfl (fun hc => ?_) (fun hc => ?c63)
   case c63 =>
    replace hm := bF hc hm
    refine w_exit rfl ?_
    obtain rfl := someE hm
    exact ⟨_, rfl, g28, FrG.keep (ks := []) H30 (by kernel_rfl), hS⟩
   replace hm := bT hc hm
   refine w_skip ?_
   refine w_block ?_
   refine w_seq ?_
   refine s_reg [] [0, 1, 6, 7] [(0, [], .string ⟨⟨y3.1⟩⟩), (1, [], .func (.func 25) ⟨[]⟩ ⟨[.pointer (some ⟨b_tell_c0, 0, none⟩)]⟩), (6, [], .pointer (some ⟨b12, 0, none⟩)), (7, [], .int .i64 (w64 (v25 + 1)))] [] H30 (by kernel_rfl) trivial fun _ wd31 H32 hb => ?_
   clear H30
   replace hS := hS.below hb
   clear hb
   refine s_reg [] [0, 1, 6, 7, 33] [(0, [], .string ⟨⟨y3.1⟩⟩), (1, [], .func (.func 25) ⟨[]⟩ ⟨[.pointer (some ⟨b_tell_c0, 0, none⟩)]⟩), (6, [], .pointer (some ⟨b12, 0, none⟩)), (7, [], .int .i64 (w64 (v25 + 1))), (33, [], .bool (decide (1500 < (w64 (v25 + 1)))))] [] H32 (by kernel_rfl) trivial fun _ wd33 H34 hb => ?_
   clear H32
   replace hS := hS.below hb
   clear hb
   refine w_if H34 rfl (fun hc => ?c62) (fun hc => ?_)
   case c62 =>
    replace hm := bT hc hm
    refine s_reg [] [4] [(4, [], .int .i64 4)] [] H34 (by kernel_rfl) trivial fun _ wd35 H36 hb => ?_
    clear H34
    replace hS := hS.below hb
    clear hb
    refine w_ret ?_
    obtain rfl := someE hm
    have hm := hm_z24
    obtain rfl := someE hm
    exact retR1 H36 rfl rfl ⟨_, rfl, g28, rfl, (hS.sel [1, 2] rfl)⟩
   replace hm := bF hc hm
   refine w_skip ?_
   refine s_reg [(.int .i64 v26)] [0, 1, 6, 7, 8] [(0, [], .string ⟨⟨y3.1⟩⟩), (1, [], .func (.func 25) ⟨[]⟩ ⟨[.pointer (some ⟨b_tell_c0, 0, none⟩)]⟩), (6, [], .pointer (some ⟨b12, 0, none⟩)), (7, [], .int .i64 (w64 (v25 + 1))), (8, [], .int .i64 v26)] [fun wz => V.at1 ⟨b12, 1, none⟩ (.int .i64 v26) wz] H34 (by kernel_rfl) ⟨((hS.bk 0 rfl).at1 rfl), trivial⟩ fun _ wd37 H38 hb => ?_
   clear H34
   replace hS := hS.below hb
   clear hb
   refine w_seq ?_
   refine wl_start ?_
   refine wl_batch 0 1 [] [0, 1, 6, 7, 8, 38] [(0, [], .string ⟨⟨y3.1⟩⟩), (1, [], .func (.func 25) ⟨[]⟩ ⟨[.pointer (some ⟨b_tell_c0, 0, none⟩)]⟩), (6, [], .pointer (some ⟨b12, 0, none⟩)), (7, [], .int .i64 (w64 (v25 + 1))), (8, [], .int .i64 v26), (38, [], .pointer (some ⟨b12, 0, none⟩))] [] H38 (by decide) (by kernel_rfl) trivial fun _ wd39 H40 hb => ?_
   clear H38
   replace hS := hS.below hb
   clear hb
   obtain ⟨y41, hy41, hm⟩ := bindE hm
   have hd := hS.hand [0] [1, 2, 3] rfl rfl
   refine m_stp [39, 0, 1, 6, 7, 8] [(0, [], .string ⟨⟨y3.1⟩⟩), (1, [], .func (.func 25) ⟨[]⟩ ⟨[.pointer (some ⟨b_tell_c0, 0, none⟩)]⟩), (6, [], .pointer (some ⟨b12, 0, none⟩)), (7, [], .int .i64 (w64 (v25 + 1))), (8, [], .int .i64 v26)] H40 rfl rfl rfl rfl (o_callx H40 rfl rfl (token_scanner_next_ok (b_c := b12) m _ _ _ hy41 _ _ hd)) (fun _ => rfl) fun _ wd42 v H43 hq => ?_
   clear H40 hd
   obtain ⟨rfl, hq⟩ := hq
   replace hS : SH M X w [Ent.blk b12 [.string ⟨⟨y3.1⟩⟩, .int .i64 y41.2], Ent.blk b_tell_c0 [.slice g28.a v27.length g28.c], Ent.own 44 tyToken v27 g28, Ent.gint 0] _ := hS.join [0] [1, 2, 3] rfl rfl hq
   clear hq
   have hd := hS.hand [] [0, 1, 2, 3] rfl rfl
   refine m_stp [9, 0, 1, 6, 7, 8, 39] [(0, [], .string ⟨⟨y3.1⟩⟩), (1, [], .func (.func 25) ⟨[]⟩ ⟨[.pointer (some ⟨b_tell_c0, 0, none⟩)]⟩), (6, [], .pointer (some ⟨b12, 0, none⟩)), (7, [], .int .i64 (w64 (v25 + 1))), (8, [], .int .i64 v26), (39, [], .agg ⟨[.int .u8 y41.1.Kind, .string ⟨⟨y41.1.Text⟩⟩, .int .i64 y41.1.Num, .string ⟨⟨y41.1.Unit⟩⟩, .bool y41.1.Flag]⟩)] H43 rfl rfl rfl rfl (o_alloc [.int .u8 0, .string ⟨⟨[]⟩⟩, .int .i64 0, .string ⟨⟨[]⟩⟩, .bool false] (z := .agg ⟨[.int .u8 0, .string ⟨⟨[]⟩⟩, .int .i64 0, .string ⟨⟨[]⟩⟩, .bool false]⟩) hd (by kernel_rfl) rfl) (fun _ => rfl) fun _ wd45 v H46 hq => ?_
   clear H43 hd
   obtain ⟨b44, rfl, hq⟩ := hq
   replace hS : SH M X w [Ent.blk b44 [.int .u8 0, .string ⟨⟨[]⟩⟩, .int .i64 0, .string ⟨⟨[]⟩⟩, .bool false], Ent.blk b12 [.string ⟨⟨y3.1⟩⟩, .int .i64 y41.2], Ent.blk b_tell_c0 [.slice g28.a v27.length g28.c], Ent.own 44 tyToken v27 g28, Ent.gint 0] _ := hS.join [] [0, 1, 2, 3] rfl rfl hq
   clear hq
   have hd := hS.hand [0] [1, 2, 3, 4] rfl rfl
   refine m_stp0 [0, 1, 6, 7, 8, 9] [(0, [], .string ⟨⟨y3.1⟩⟩), (1, [], .func (.func 25) ⟨[]⟩ ⟨[.pointer (some ⟨b_tell_c0, 0, none⟩)]⟩), (6, [], .pointer (some ⟨b12, 0, none⟩)), (7, [], .int .i64 (w64 (v25 + 1))), (8, [], .int .i64 v26), (9, [], .pointer (some ⟨b44, 0, none⟩))] H46 rfl rfl rfl (o_store [.int .u8 y41.1.Kind, .string ⟨⟨y41.1.Text⟩⟩, .int .i64 y41.1.Num, .string ⟨⟨y41.1.Unit⟩⟩, .bool y41.1.Flag] H46 hd rfl rfl (by kernel_rfl) rfl rfl rfl) rfl fun _ wd47 H48 hq => ?_
   clear H46 hd
   obtain ⟨_, hq⟩ := hq
   replace hS : SH M X w [Ent.blk b44 [.int .u8 y41.1.Kind, .string ⟨⟨y41.1.Text⟩⟩, .int .i64 y41.1.Num, .string ⟨⟨y41.1.Unit⟩⟩, .bool y41.1.Flag], Ent.blk b12 [.string ⟨⟨y3.1⟩⟩, .int .i64 y41.2], Ent.blk b_tell_c0 [.slice g28.a v27.length g28.c], Ent.own 44 tyToken v27 g28, Ent.gint 0] _ := hS.join [0] [1, 2, 3, 4] rfl rfl hq
   clear hq
   refine wl_end rfl ?_
   obtain ⟨y50, hy50, hm⟩ := bindE hm
   refine s_drawS (base := [(0, [], .string ⟨⟨y3.1⟩⟩), (1, [], .func (.func 25) ⟨[]⟩ ⟨[.pointer (some ⟨b_tell_c0, 0, none⟩)]⟩), (6, [], .pointer (some ⟨b12, 0, none⟩)), (7, [], .int .i64 (w64 (v25 + 1))), (8, [], .int .i64 v26), (9, [], .pointer (some ⟨b44, 0, none⟩))]) (L := [Ent.blk b44 [.int .u8 y41.1.Kind, .string ⟨⟨y41.1.Text⟩⟩, .int .i64 y41.1.Num, .string ⟨⟨y41.1.Unit⟩⟩, .bool y41.1.Flag], Ent.blk b12 [.string ⟨⟨y3.1⟩⟩, .int .i64 y41.2], Ent.blk b_tell_c0 [.slice g28.a v27.length g28.c], Ent.own 44 tyToken v27 g28, Ent.gint 0]) 8 5 (fun yg49 => [.func (.func 25) ⟨[]⟩ ⟨[.pointer (some ⟨b_tell_c0, 0, none⟩)]⟩, .agg ⟨[.int .u8 y41.1.Kind, .string ⟨⟨y41.1.Text⟩⟩, .int .i64 y41.1.Num, .string ⟨⟨y41.1.Unit⟩⟩, .bool y41.1.Flag]⟩, .int .i64 v26, .pointer (some ⟨b12, 0, none⟩), .pointer (some ⟨b12, 0, none⟩), .pointer (some ⟨b12, 1, none⟩), .int .i64 y41.2, .tuple ⟨[]⟩]) (fun yg49 => [[], [], [], [], [], [], [], [Ent.blk b_tell_c0 [.slice (yg49 7 0).a y50.length (yg49 7 0).c], Ent.own 44 tyToken y50 (yg49 7 0)]]) [[10, 11], [8], [], [9], [9], [9], [9], [10, 11]] [[], [], [], [], [], [], [], [10, 11]] [[0], [1], [2], [3], [3, 4], [3, 4, 5], [3, 4, 5, 6], [0, 1, 2, 3, 4, 5, 6, 7]] [] (FrG.keep (ks := [0, 1, 6, 7, 8, 9]) H48 (by kernel_rfl)) (fun _ _ h => by cases h) (by kernel_rfl) hS (by kernel_rfl) rfl rfl (by kernel_rfl) (by kernel_rfl) (by kernel_rfl) (gd_none (by kernel_rfl) _ _) ?hloc_yg49 ?hstep_yg49 fun _ wd53 yg49 H54 hv hS => ?hK_yg49
   case hloc_yg49 => exact ⟨(fun _ _ _ _ => ⟨rfl, rfl⟩), (fun _ _ _ _ => ⟨rfl, rfl⟩), (fun _ _ _ _ => ⟨rfl, rfl⟩), (fun _ _ _ _ => ⟨rfl, rfl⟩), (fun _ _ _ _ => ⟨rfl, rfl⟩), (fun _ _ _ _ => ⟨rfl, rfl⟩), (fun _ _ _ _ => ⟨rfl, rfl⟩), (fun yg49 i g hi => by have h7 : updC yg49 i g 7 = yg49 7 := updC_out hi rfl; exact ⟨(show (.tuple ⟨[]⟩ : Value) = .tuple ⟨[]⟩ by simp only []), (show ([Ent.blk b_tell_c0 [.slice ((updC yg49 i g) 7 0).a y50.length ((updC yg49 i g) 7 0).c], Ent.own 44 tyToken y50 ((updC yg49 i g) 7 0)] : List Ent) = [Ent.blk b_tell_c0 [.slice (yg49 7 0).a y50.length (yg49 7 0).c], Ent.own 44 tyToken y50 (yg49 7 0)] by simp only [h7])⟩), trivial⟩
   case hstep_yg49 =>
    refine ⟨?_, ?_, ?_, ?_, ?_, ?_, ?_, ?_, trivial⟩
    ·intro o ho a w yg49 M Hb hv hO hS
     obtain rfl := Option.some.inj ho
     exact Stp.mono (o_evs [] (.func (.func 25) ⟨[]⟩ ⟨[.pointer (some ⟨b_tell_c0, 0, none⟩)]⟩) none [] Hb rfl (by kernel_rfl) (fun q e => by cases e)) fun _ _ hq => ⟨gL [], fun _ _ => hq.1, (hS.below hq.2.below).sel [0, 1] rfl⟩
    ·intro o ho a w yg49 M Hb hv hO hS
     obtain rfl := Option.some.inj ho
     exact Stp.mono (o_evs [(.agg ⟨[.int .u8 y41.1.Kind, .string ⟨⟨y41.1.Text⟩⟩, .int .i64 y41.1.Num, .string ⟨⟨y41.1.Unit⟩⟩, .bool y41.1.Flag]⟩)] (.agg ⟨[.int .u8 y41.1.Kind, .string ⟨⟨y41.1.Text⟩⟩, .int .i64 y41.1.Num, .string ⟨⟨y41.1.Unit⟩⟩, .bool y41.1.Flag]⟩) (some (fun wz => V.atN b44 0 [.int .u8 y41.1.Kind, .string ⟨⟨y41.1.Text⟩⟩, .int .i64 y41.1.Num, .string ⟨⟨y41.1.Unit⟩⟩, .bool y41.1.Flag] 0 wz)) [] Hb rfl (by kernel_rfl) (fun q e => by cases e; exact ((hS.bk 0 rfl).atD rfl))) fun _ _ hq => ⟨gL [], fun _ _ => hq.1, (hS.below hq.2.below).sel [0] rfl⟩
    ·intro o ho a w yg49 M Hb hv hO hS
     obtain rfl := Option.some.inj ho
     exact Stp.mono (o_evs [] (.int .i64 v26) none [] Hb rfl (by kernel_rfl) (fun q e => by cases e)) fun _ _ hq => ⟨gL [], fun _ _ => hq.1, (hS.below hq.2.below).sel [] rfl⟩
    ·intro o ho a w yg49 M Hb hv hO hS
     obtain rfl := Option.some.inj ho
     exact Stp.mono (o_evs [] (.pointer (some ⟨b12, 0, none⟩)) none [] Hb rfl (by kernel_rfl) (fun q e => by cases e)) fun _ _ hq => ⟨gL [], fun _ _ => hq.1, (hS.below hq.2.below).sel [0] rfl⟩
    ·intro o ho a w yg49 M Hb hv hO hS
     obtain rfl := Option.some.inj ho
     exact Stp.mono (o_evs [] (.pointer (some ⟨b12, 0, none⟩)) none [] ((Hb).add (hv 3 (by decide) (by decide) 43 rfl)) rfl (by kernel_rfl) (fun q e => by cases e)) fun _ _ hq => ⟨gL [], fun _ _ => hq.1, (hS.below hq.2.below).sel [0] rfl⟩
    ·intro o ho a w yg49 M Hb hv hO hS
     obtain rfl := Option.some.inj ho
     exact Stp.mono (o_evs [] (.pointer (some ⟨b12, 1, none⟩)) none [] ((Hb).add (hv 4 (by decide) (by decide) 44 rfl)) rfl (by kernel_rfl) (fun q e => by cases e)) fun _ _ hq => ⟨gL [], fun _ _ => hq.1, (hS.below hq.2.below).sel [0] rfl⟩
    ·intro o ho a w yg49 M Hb hv hO hS
     obtain rfl := Option.some.inj ho
     exact Stp.mono (o_evs [(.int .i64 y41.2)] (.int .i64 y41.2) (some (fun wz => V.at1 ⟨b12, 1, none⟩ (.int .i64 y41.2) wz)) [] ((Hb).add (hv 5 (by decide) (by decide) 45 rfl)) rfl (by kernel_rfl) (fun q e => by cases e; exact ((hS.bk 0 rfl).at1 rfl))) fun _ _ hq => ⟨gL [], fun _ _ => hq.1, (hS.below hq.2.below).sel [0] rfl⟩
    ·intro o ho a w yg49 M Hb hv hO hS0
     obtain rfl := Option.some.inj ho
     have H : Fr 50 ([(46, [], .int .i64 y41.2), (42, [], .int .i64 v26), (41, [], .agg ⟨[.int .u8 y41.1.Kind, .string ⟨⟨y41.1.Text⟩⟩, .int .i64 y41.1.Num, .string ⟨⟨y41.1.Unit⟩⟩, .bool y41.1.Flag]⟩), (40, [], .func (.func 25) ⟨[]⟩ ⟨[.pointer (some ⟨b_tell_c0, 0, none⟩)]⟩)] ++ [(0, [], .string ⟨⟨y3.1⟩⟩), (1, [], .func (.func 25) ⟨[]⟩ ⟨[.pointer (some ⟨b_tell_c0, 0, none⟩)]⟩), (6, [], .pointer (some ⟨b12, 0, none⟩)), (7, [], .int .i64 (w64 (v25 + 1))), (8, [], .int .i64 v26), (9, [], .pointer (some ⟨b44, 0, none⟩))]) _ := ((((Hb).add (hv 0 (by decide) (by decide) 40 rfl)).add (hv 1 (by decide) (by decide) 41 rfl)).add (hv 2 (by decide) (by decide) 42 rfl)).add (hv 6 (by decide) (by decide) 46 rfl)
     obtain ⟨X, hX⟩ : ∃ X, X = fpl [Ent.blk b_tell_c0 [.slice g28.a v27.length g28.c], Ent.own 44 tyToken v27 g28] := ⟨_, rfl⟩
     have hS : SH M X w [Ent.blk b_tell_c0 [.slice g28.a v27.length g28.c], Ent.own 44 tyToken v27 g28] w := by rw [hX]; exact hS0
     have hd := hS.hand [0, 1] [] rfl rfl
     refine Stp.mono (o_callx H rfl rfl (token_Tokens_1_ok (b_u0 := b_tell_c0) (g_u0 := g28) _ _ _ _ _ hy50 _ _ hd)) ?_
     rintro v w2 hq
     obtain ⟨g51, rfl, hq⟩ := hq
     replace hS : SH M X w [Ent.blk b_tell_c0 [.slice g51.a y50.length g51.c], Ent.own 44 tyToken y50 g51] _ := hS.join [0, 1] [] rfl rfl hq
     clear hq
     rw [hX] at hS
     exact ⟨gL [g51], fun _ _ => rfl, hS.sel [0, 1] rfl⟩
   have H55 : Fr 50 [(0, [], .string ⟨⟨y3.1⟩⟩), (1, [], .func (.func 25) ⟨[]⟩ ⟨[.pointer (some ⟨b_tell_c0, 0, none⟩)]⟩), (6, [], .pointer (some ⟨b12, 0, none⟩)), (7, [], .int .i64 (w64 (v25 + 1)))] _ := (FrG.keep (ks := [0, 1, 6, 7]) H54 (by kernel_rfl))
   replace hS : SH M X w [Ent.blk b_tell_c0 [.slice (yg49 7 0).a y50.length (yg49 7 0).c], Ent.own 44 tyToken y50 (yg49 7 0), Ent.blk b44 [.int .u8 y41.1.Kind, .string ⟨⟨y41.1.Text⟩⟩, .int .i64 y41.1.Num, .string ⟨⟨y41.1.Unit⟩⟩, .bool y41.1.Flag], Ent.blk b12 [.string ⟨⟨y3.1⟩⟩, .int .i64 y41.2], Ent.gint 0] _ := hS
   clear hv H54
   generalize yg49 7 0 = g56 at H55 hS
   replace hS : SH M X w [Ent.blk b_tell_c0 [.slice g56.a y50.length g56.c], Ent.own 44 tyToken y50 g56, Ent.blk b12 [.string ⟨⟨y3.1⟩⟩, .int .i64 y41.2], Ent.gint 0] _ := hS.sel [0, 1, 3, 4] rfl
   refine wl_start ?_
   refine wl_batch 0 1 [] [0, 1, 6, 7, 48] [(0, [], .string ⟨⟨y3.1⟩⟩), (1, [], .func (.func 25) ⟨[]⟩ ⟨[.pointer (some ⟨b_tell_c0, 0, none⟩)]⟩), (6, [], .pointer (some ⟨b12, 0, none⟩)), (7, [], .int .i64 (w64 (v25 + 1))), (48, [], .pointer (some ⟨b12, 0, none⟩))] [] H55 (by decide) (by kernel_rfl) trivial fun _ wd57 H58 hb => ?_
   clear H55
   replace hS := hS.below hb
   clear hb
   obtain ⟨y59, hy59, hm⟩ := bindE hm
   have hd := hS.hand [2, 3] [0, 1, 3] rfl rfl
   refine m_stp [49, 0, 1, 6, 7] [(0, [], .string ⟨⟨y3.1⟩⟩), (1, [], .func (.func 25) ⟨[]⟩ ⟨[.pointer (some ⟨b_tell_c0, 0, none⟩)]⟩), (6, [], .pointer (some ⟨b12, 0, none⟩)), (7, [], .int .i64 (w64 (v25 + 1)))] H58 rfl rfl rfl rfl (o_callx H58 rfl rfl (token_scanner_comments_ok (b_c := b12) m _ _ _ hy59 _ _ hd)) (fun _ => rfl) fun _ wd60 v H61 hq => ?_
   clear H58 hd
   obtain ⟨rfl, hq⟩ := hq
   replace hS : SH M X w [Ent.blk b12 [.string ⟨⟨y3.1⟩⟩, .int .i64 y59], Ent.blk b_tell_c0 [.slice g56.a y50.length g56.c], Ent.own 44 tyToken y50 g56, Ent.gint 0] _ := hS.join [2, 3] [0, 1, 3] rfl rfl hq
   clear hq
   refine wl_end rfl ?_
   exact ⟨_, Nat.lt_succ_self _, w64 (v25 + 1), y59, y50, g56, hm, FrG.keep (ks := [0, 1, 6, 7]) H61 (by kernel_rfl), hS⟩
 ·rintro _ wd68 ⟨s_z24, hz, g65, H, hS⟩
  subst hz
  replace hm := sumR hm_z24
  replace hS : SH M X w [Ent.blk b_tell_c0 [.slice g65.a s_z24.2.length g65.c], Ent.own 44 tyToken s_z24.2 g65, Ent.gint 0] _ := hS.sel [1, 2, 3] rfl
  refine s_reg [] [4] [(4, [], .int .i64 0)] [] H (by kernel_rfl) trivial fun _ wd66 H67 hb => ?_
  clear H
  replace hS := hS.below hb
  clear hb
  refine w_ret ?_
  obtain rfl := someE hm
  exact retR1 H67 rfl rfl ⟨_, rfl, g65, rfl, (hS.sel [0, 1] rfl)⟩
theorem token_read_ok {b_tell_c0 : Nat} {g_tell_c0 : Gh} (m : Nat) (s : Str) (tell_c0 : List TToken) (r : Int × (List TToken)) (hm : token_read m s tell_c0 = some r) (M : Av) (w : World) (hS : S0 M [Ent.blk b_tell_c0 [.slice g_tell_c0.a tell_c0.length g_tell_c0.c], Ent.own 44 tyToken tell_c0 g_tell_c0, Ent.gint 0] w) : DoesX Tryz.prog 24 ⟨[.string ⟨⟨s⟩⟩, .func (.func 25) ⟨[]⟩ ⟨[.pointer (some ⟨b_tell_c0, 0, none⟩)]⟩]⟩ w (fun v w' => ∃ (g901 : Gh), v = .int .i64 r.1 ∧ SH M (fpl [Ent.blk b_tell_c0 [.slice g_tell_c0.a tell_c0.length g_tell_c0.c], Ent.own 44 tyToken tell_c0 g_tell_c0, Ent.gint 0]) w [Ent.blk b_tell_c0 [.slice g901.a r.2.length g901.c], Ent.own 44 tyToken r.2 g901] w') := ⟨Tryz.call24 _, token_read_w M m   s tell_c0 r hm w hS⟩

def token_Tokens (m : Nat) (s : Str) : Option ((List TToken) × Int) :=
  Option.bind (token_read m s ([] : List TToken)) fun y9 =>
  cond (y9.1 != 0) (
  some (([] : List TToken), y9.1)) (
  some (y9.2, 0))
theorem token_Tokens_w  (M : Av) (m : Nat) (s : Str) (r : (List TToken) × Int) (hm : token_Tokens m s = some r) (w : World) (hS : S0 M [Ent.gint 0] w) : Calls Tryz.prog 9 ⟨[.string ⟨⟨s⟩⟩]⟩ w (fun e w' => ∃ v, e = .returned v ∧ ∃ (g901 : Gh), v = .tuple ⟨[.slice g901.a r.1.length g901.c, .int .i64 r.2]⟩ ∧ SH M (fpl [Ent.gint 0]) w [Ent.own 44 tyToken r.1 g901] w') := by
 rw [token_Tokens] at hm
 have hS0 : SH M (fpl [Ent.gint 0]) w [Ent.gint 0] w := hS
 generalize hX : fpl [Ent.gint 0] = X at hS0 ⊢
 clear hS hX
 have hS := hS0
 clear hS0
 refine calls_entryP Tryz.func9 rfl Tryz.ntmps9 rfl fun _ H => ?_
 refine s_reg [] [0] [(0, [], .string ⟨⟨s⟩⟩)] [] H (by kernel_rfl) trivial fun _ wd1 H2 hb => ?_
 clear H
 replace hS := hS.below hb
 clear hb
 refine w_seq ?_
 refine wl_start ?_
 have hd := hS.hand [] [0] rfl rfl
 refine m_stp [4, 0] [(0, [], .string ⟨⟨s⟩⟩)] H2 rfl rfl rfl rfl (o_alloc [.slice none 0 0] (z := .slice none 0 0) hd (by kernel_rfl) rfl) (fun _ => rfl) fun _ wd4 v H5 hq => ?_
 clear H2 hd
 obtain ⟨b3, rfl, hq⟩ := hq
 replace hS : SH M X w [Ent.blk b3 [.slice none 0 0], Ent.gint 0] _ := hS.join [] [0] rfl rfl hq
 clear hq
 refine wl_end rfl ?_
 refine w_seq ?_
 refine w_seq ?_
 refine wl_start ?_
 refine wl_batch 0 2 [] [4, 6, 7] [(4, [], .pointer (some ⟨b3, 0, none⟩)), (6, [], .string ⟨⟨s⟩⟩), (7, [], .func (.func 25) ⟨[]⟩ ⟨[.pointer (some ⟨b3, 0, none⟩)]⟩)] [] H5 (by decide) (by kernel_rfl) trivial fun _ wd6 H7 hb => ?_
 clear H5
 replace hS := hS.below hb
 clear hb
 replace hS : SH M X w [Ent.own 44 tyToken ([] : List TToken) (.nil), Ent.blk b3 [.slice none 0 0], Ent.gint 0] _ := hS.addNil 44 tyToken
 obtain ⟨y9, hy9, hm⟩ := bindE hm
 have hd := hS.hand [1, 0, 2] [2] rfl rfl
 refine m_stp [8, 4] [(4, [], .pointer (some ⟨b3, 0, none⟩))] H7 rfl rfl rfl rfl (o_callx H7 rfl rfl (token_read_ok (b_tell_c0 := b3) (g_tell_c0 := Gh.nil) m _ _ _ hy9 _ _ hd)) (fun _ => rfl) fun _ wd12 v H13 hq => ?_
 clear H7 hd
 obtain ⟨g10, rfl, hq⟩ := hq
 replace hS : SH M X w [Ent.blk b3 [.slice g10.a y9.2.length g10.c], Ent.own 44 tyToken y9.2 g10, Ent.gint 0] _ := hS.join [1, 0, 2] [2] rfl rfl hq
 clear hq
 refine wl_batch 3 4 [] [4, 5] [(4, [], .pointer (some ⟨b3, 0, none⟩)), (5, [], .int .i64 y9.1)] [] H13 (by decide) (by kernel_rfl) trivial fun _ wd14 H15 hb => ?_
 clear H13
 replace hS := hS.below hb
 clear hb
 refine wl_end rfl ?_
 refine s_reg [] [4, 5, 10] [(4, [], .pointer (some ⟨b3, 0, none⟩)), (5, [], .int .i64 y9.1), (10, [], .bool (y9.1 != 0))] [] H15 (by kernel_rfl) trivial fun _ wd16 H17 hb => ?_
 clear H15
 replace hS := hS.below hb
 clear hb
 refine w_if H17 rfl (fun hc => ?_) (fun hc => ?c23)
 case c23 =>
  replace hm := bF hc hm
  refine w_skip ?_
  refine s_reg [(.slice g10.a y9.2.length g10.c)] [2, 3] [(2, [], .slice g10.a y9.2.length g10.c), (3, [], .int .i64 0)] [fun wz => V.at1 ⟨b3, 0, none⟩ (.slice g10.a y9.2.length g10.c) wz] H17 (by kernel_rfl) ⟨((hS.bk 0 rfl).at1 rfl), trivial⟩ fun _ wd21 H22 hb => ?_
  clear H17
  replace hS := hS.below hb
  clear hb
  replace hS : SH M X w [Ent.own 44 tyToken y9.2 g10, Ent.gint 0] _ := hS.sel [1, 2] rfl
  refine w_ret ?_
  obtain rfl := someE hm
  exact retR2 H22 rfl rfl rfl ⟨_, rfl, g10, rfl, (hS.sel [0] rfl)⟩
 replace hm := bT hc hm
 refine s_reg [] [2, 3] [(2, [], .slice none 0 0), (3, [], .int .i64 y9.1)] [] H17 (by kernel_rfl) trivial fun _ wd18 H19 hb => ?_
 clear H17
 replace hS := hS.below hb
 clear hb
 replace hS : SH M X w [Ent.gint 0] _ := hS.sel [2] rfl
 refine w_ret ?_
 obtain rfl := someE hm
 replace hS : SH M X w [Ent.own 44 tyToken ([] : List TToken) (.nil), Ent.gint 0] _ := hS.addNil 44 tyToken
 exact retR2 H19 rfl rfl rfl ⟨_, rfl, Gh.nil, rfl, (hS.sel [0] rfl)⟩
theorem token_Tokens_ok  (m : Nat) (s : Str) (r : (List TToken) × Int) (hm : token_Tokens m s = some r) (M : Av) (w : World) (hS : S0 M [Ent.gint 0] w) : DoesX Tryz.prog 9 ⟨[.string ⟨⟨s⟩⟩]⟩ w (fun v w' => ∃ (g901 : Gh), v = .tuple ⟨[.slice g901.a r.1.length g901.c, .int .i64 r.2]⟩ ∧ SH M (fpl [Ent.gint 0]) w [Ent.own 44 tyToken r.1 g901] w') := ⟨Tryz.call9 _, token_Tokens_w M m   s r hm w hS⟩

structure TA2_int where
  e0 : Int
  e1 : Int
instance : Inhabited TA2_int := ⟨⟨default, default⟩⟩
def tyA2_int : Ty TA2_int where
  z := 2
  enc := fun x g => [.int .i64 x.e0, .int .i64 x.e1]
  inn := fun _ _ _ _ => True
  len := fun _ _ => rfl
  one := fun _ _ => rfl
  kp := fun _ _ _ => trivial
  anti := fun _ _ => trivial
  fresh := fun _ => trivial
def token_Spans_1 (t_ : TToken) (from_ : Int) (to : Int) (u0 : List TA2_int) : Option (List TA2_int) :=
  chk (ln u0 + ln ([(TA2_int.mk from_ to)] : List TA2_int) ≤ 1099511627776) <|
  lt (u0 ++ ([(TA2_int.mk from_ to)] : List TA2_int)) fun q11 =>
  some q11
theorem token_Spans_1_w {b_u0 : Nat} {g_u0 : Gh} (M : Av) (t_ : TToken) (from_ : Int) (to : Int) (u0 : List TA2_int) (r : List TA2_int) (hm : token_Spans_1 t_ from_ to u0 = some r) (w : World) (hS : S0 M [Ent.blk b_u0 [.slice g_u0.a u0.length g_u0.c], Ent.own 39 tyA2_int u0 g_u0] w) : Calls Tryz.prog 28 ⟨[.agg ⟨[.int .u8 t_.Kind, .string ⟨⟨t_.Text⟩⟩, .int .i64 t_.Num, .string ⟨⟨t_.Unit⟩⟩, .bool t_.Flag]⟩, .int .i64 from_, .int .i64 to, .pointer (some ⟨b_u0, 0, none⟩)]⟩ w (fun e w' => ∃ v, e = .returned v ∧ ∃ (g901 : Gh), v = .tuple ⟨[]⟩ ∧ SH M (fpl [Ent.blk b_u0 [.slice g_u0.a u0.length g_u0.c], Ent.own 39 tyA2_int u0 g_u0]) w [Ent.blk b_u0 [.slice g901.a r.length g901.c], Ent.own 39 tyA2_int r g901] w') := by
 rw [token_Spans_1] at hm
 have hS0 : SH M (fpl [Ent.blk b_u0 [.slice g_u0.a u0.length g_u0.c], Ent.own 39 tyA2_int u0 g_u0]) w [Ent.blk b_u0 [.slice g_u0.a u0.length g_u0.c], Ent.own 39 tyA2_int u0 g_u0] w := hS
 generalize hX : fpl [Ent.blk b_u0 [.slice g_u0.a u0.length g_u0.c], Ent.own 39 tyA2_int u0 g_u0] = X at hS0 ⊢
 clear hS hX
 have hS := hS0
 clear hS0
 refine calls_entryP Tryz.func28 rfl Tryz.ntmps28 rfl fun _ H => ?_
 refine w_seq ?_
 refine wl_start ?_
 have hd := hS.hand [] [0, 1] rfl rfl
 refine m_stp [4, 1, 2, 3] [(1, [], .int .i64 from_), (2, [], .int .i64 to), (3, [], .pointer (some ⟨b_u0, 0, none⟩))] H rfl rfl rfl rfl (o_box [.int .u8 t_.Kind, .string ⟨⟨t_.Text⟩⟩, .int .i64 t_.Num, .string ⟨⟨t_.Unit⟩⟩, .bool t_.Flag] H hd rfl rfl) (fun _ => rfl) fun _ wd2 v H3 hq => ?_
 clear H hd
 obtain ⟨b1, rfl, hq⟩ := hq
 replace hS : SH M X w [Ent.blk b1 [.int .u8 t_.Kind, .string ⟨⟨t_.Text⟩⟩, .int .i64 t_.Num, .string ⟨⟨t_.Unit⟩⟩, .bool t_.Flag], Ent.blk b_u0 [.slice g_u0.a u0.length g_u0.c], Ent.own 39 tyA2_int u0 g_u0] _ := hS.join [] [0, 1] rfl rfl hq
 clear hq
 refine wl_end rfl ?_
 replace hS : SH M X w [Ent.blk b_u0 [.slice g_u0.a u0.length g_u0.c], Ent.own 39 tyA2_int u0 g_u0] _ := hS.sel [1, 2] rfl
 refine wl_start ?_
 refine wl_batch 0 4 [(.slice g_u0.a u0.length g_u0.c)] [3, 7, 10] [(3, [], .pointer (some ⟨b_u0, 0, none⟩)), (7, [], .slice g_u0.a u0.length g_u0.c), (10, [], .agg ⟨[.int .i64 from_, .int .i64 to]⟩)] [fun wz => V.at1 ⟨b_u0, 0, none⟩ (.slice g_u0.a u0.length g_u0.c) wz] H3 (by decide) (by kernel_rfl) ⟨((hS.bk 0 rfl).at1 rfl), trivial⟩ fun _ wd4 H5 hb => ?_
 clear H3
 replace hS := hS.below hb
 clear hb
 have hd := hS.hand [] [0, 1] rfl rfl
 refine m_stp [11, 3, 7] [(3, [], .pointer (some ⟨b_u0, 0, none⟩)), (7, [], .slice g_u0.a u0.length g_u0.c)] H5 rfl rfl rfl rfl (o_lit (T := tyA2_int) (E := 39) (zv := .agg ⟨[.int .i64 0, .int .i64 0]⟩) [.int .i64 from_, .int .i64 to] ([(TA2_int.mk from_ to)] : List TA2_int) [gL []] _ H5 hd rfl (by kernel_rfl) (by kernel_rfl) (by kernel_rfl) (by kernel_rfl) (by kernel_rfl) (by kernel_rfl) (by kernel_rfl) rfl (InnL.cons trivial InnL.nil)) (fun _ => rfl) fun _ wd8 v H9 hq => ?_
 clear H5 hd
 obtain ⟨g6, rfl, hq⟩ := hq
 replace hS : SH M X w [Ent.own 39 tyA2_int ([(TA2_int.mk from_ to)] : List TA2_int) g6, Ent.blk b_u0 [.slice g_u0.a u0.length g_u0.c], Ent.own 39 tyA2_int u0 g_u0] _ := hS.join [] [0, 1] rfl rfl hq
 clear hq
 obtain ⟨ho10, hm⟩ := chkE hm
 obtain ⟨q11, hq11, hm⟩ := letE hm
 have hd := hS.hand [2, 0] [1] rfl rfl
 refine m_stp [12, 3] [(3, [], .pointer (some ⟨b_u0, 0, none⟩))] H9 rfl rfl rfl rfl (o_app2 (T := tyA2_int) (zv := .agg ⟨[.int .i64 0, .int .i64 0]⟩) (g1 := g_u0) (g2 := g6) (l1 := u0) (l2 := ([(TA2_int.mk from_ to)] : List TA2_int)) q11 hq11.symm H9 hd rfl rfl rfl rfl rfl rfl rfl (by kernel_rfl) (by kernel_rfl) rfl rfl ho10) (fun _ => rfl) fun _ wd12 v H13 hq => ?_
 clear H9 hd
 obtain ⟨g14, rfl, hq⟩ := hq
 replace hS : SH M X w [Ent.own 39 tyA2_int q11 g14, Ent.own 39 tyA2_int ([(TA2_int.mk from_ to)] : List TA2_int) g6, Ent.blk b_u0 [.slice g_u0.a u0.length g_u0.c]] _ := hS.join [2, 0] [1] rfl rfl hq
 clear hq
 have hd := hS.hand [2] [0, 1] rfl rfl
 refine m_stp0 [] [] H13 rfl rfl rfl (o_store [.slice g14.a q11.length g14.c] H13 hd rfl rfl (by kernel_rfl) rfl rfl rfl) rfl fun _ wd15 H16 hq => ?_
 clear H13 hd
 obtain ⟨_, hq⟩ := hq
 replace hS : SH M X w [Ent.blk b_u0 [.slice g14.a q11.length g14.c], Ent.own 39 tyA2_int q11 g14, Ent.own 39 tyA2_int ([(TA2_int.mk from_ to)] : List TA2_int) g6] _ := hS.join [2] [0, 1] rfl rfl hq
 clear hq
 refine wl_end rfl ?_
 replace hS : SH M X w [Ent.blk b_u0 [.slice g14.a q11.length g14.c], Ent.own 39 tyA2_int q11 g14] _ := hS.sel [0, 1] rfl
 obtain rfl := someE hm
 try dsimp only
 exact retR0 H16 rfl ⟨_, rfl, g14, rfl, (hS.sel [0, 1] rfl)⟩
theorem token_Spans_1_ok {b_u0 : Nat} {g_u0 : Gh} (t_ : TToken) (from_ : Int) (to : Int) (u0 : List TA2_int) (r : List TA2_int) (hm : token_Spans_1 t_ from_ to u0 = some r) (M : Av) (w : World) (hS : S0 M [Ent.blk b_u0 [.slice g_u0.a u0.length g_u0.c], Ent.own 39 tyA2_int u0 g_u0] w) : DoesX Tryz.prog 28 ⟨[.agg ⟨[.int .u8 t_.Kind, .string ⟨⟨t_.Text⟩⟩, .int .i64 t_.Num, .string ⟨⟨t_.Unit⟩⟩, .bool t_.Flag]⟩, .int .i64 from_, .int .i64 to, .pointer (some ⟨b_u0, 0, none⟩)]⟩ w (fun v w' => ∃ (g901 : Gh), v = .tuple ⟨[]⟩ ∧ SH M (fpl [Ent.blk b_u0 [.slice g_u0.a u0.length g_u0.c], Ent.own 39 tyA2_int u0 g_u0]) w [Ent.blk b_u0 [.slice g901.a r.length g901.c], Ent.own 39 tyA2_int r g901] w') := ⟨Tryz.call28 _, token_Spans_1_w M   t_ from_ to u0 r hm w hS⟩

def token_read_2_L1 (m : Nat) (y3 : Str × Int) : Nat → Int → Int → (List TA2_int) → Option (Sum (Int × (List TA2_int)) (Int × (List TA2_int)))
  | 0, _, _, _ => none
  | kk + 1, v25, v26, v27 =>
    cond (decide (v26 < (ln y3.1))) (
    cond (decide (1500 < (w64 (v25 + 1)))) (
    some (.inl (4, v27))) (
    Option.bind (token_scanner_next m y3.1 v26) fun y41 =>
    Option.bind (token_Spans_1 y41.1 v26 y41.2 v27) fun y50 =>
    Option.bind (token_scanner_comments m y3.1 y41.2) fun y59 =>
    token_read_2_L1 m y3 kk (w64 (v25 + 1)) y59 y50)) (
    some (.inr (v26, v27)))
def token_read_2 (m : Nat) (s : Str) (tell_c0 : List TA2_int) : Option (Int × (List TA2_int)) :=
  lt (cleanF s) fun y3 =>
  cond (y3.2 != 0) (
  some (y3.2, tell_c0)) (
  Option.bind (token_scanner_comments m y3.1 0) fun y19 =>
  Option.bind (
  token_read_2_L1 m y3 m 0 y19 tell_c0) fun (z24 : Sum (Int × (List TA2_int)) (Int × (List TA2_int))) => sumK z24 fun s_z24 =>
  some (0, s_z24.2))
theorem token_read_2_w {b_tell_c0 : Nat} {g_tell_c0 : Gh} (M : Av) (m : Nat) (s : Str) (tell_c0 : List TA2_int) (r : Int × (List TA2_int)) (hm : token_read_2 m s tell_c0 = some r) (w : World) (hS : S0 M [Ent.blk b_tell_c0 [.slice g_tell_c0.a tell_c0.length g_tell_c0.c], Ent.own 39 tyA2_int tell_c0 g_tell_c0, Ent.gint 0] w) : Calls Tryz.prog 24 ⟨[.string ⟨⟨s⟩⟩, .func (.func 28) ⟨[]⟩ ⟨[.pointer (some ⟨b_tell_c0, 0, none⟩)]⟩]⟩ w (fun e w' => ∃ v, e = .returned v ∧ ∃ (g901 : Gh), v = .int .i64 r.1 ∧ SH M (fpl [Ent.blk b_tell_c0 [.slice g_tell_c0.a tell_c0.length g_tell_c0.c], Ent.own 39 tyA2_int tell_c0 g_tell_c0, Ent.gint 0]) w [Ent.blk b_tell_c0 [.slice g901.a r.2.length g901.c], Ent.own 39 tyA2_int r.2 g901] w') := by
 rw [token_read_2] at hm
 have hS0 : SH M (fpl [Ent.blk b_tell_c0 [.slice g_tell_c0.a tell_c0.length g_tell_c0.c], Ent.own 39 tyA2_int tell_c0 g_tell_c0, Ent.gint 0]) w [Ent.blk b_tell_c0 [.slice g_tell_c0.a tell_c0.length g_tell_c0.c], Ent.own 39 tyA2_int tell_c0 g_tell_c0, Ent.gint 0] w := hS
 generalize hX : fpl [Ent.blk b_tell_c0 [.slice g_tell_c0.a tell_c0.length g_tell_c0.c], Ent.own 39 tyA2_int tell_c0 g_tell_c0, Ent.gint 0] = X at hS0 ⊢
 clear hS hX
 have hS := hS0
 clear hS0
 refine calls_entryP Tryz.func24 rfl Tryz.ntmps24 rfl fun _ H => ?_
 refine s_reg [] [0, 1] [(0, [], .string ⟨⟨s⟩⟩), (1, [], .func (.func 28) ⟨[]⟩ ⟨[.pointer (some ⟨b_tell_c0, 0, none⟩)]⟩)] [] H (by kernel_rfl) trivial fun _ wd1 H2 hb => ?_
 clear H
 replace hS := hS.below hb
 clear hb
 obtain ⟨y3, hy3, hm⟩ := letE hm
 refine s_reg [(.tuple ⟨[.string ⟨⟨y3.1⟩⟩, .int .i64 y3.2]⟩)] [0, 1, 5] [(0, [], .string ⟨⟨y3.1⟩⟩), (1, [], .func (.func 28) ⟨[]⟩ ⟨[.pointer (some ⟨b_tell_c0, 0, none⟩)]⟩), (5, [], .int .i64 y3.2)] [fun wz => RetB Tryz.prog 16 ⟨[.string ⟨⟨s⟩⟩]⟩ (.tuple ⟨[.string ⟨⟨y3.1⟩⟩, .int .i64 y3.2]⟩) wz] H2 (by subst hy3; kernel_rfl) ⟨((by rw [hy3]; exact (cleanF_ok _).b)), trivial⟩ fun _ wd4 H5 hb => ?_
 clear H2
 replace hS := hS.below hb
 clear hb
 refine w_seq ?_
 refine s_reg [] [0, 1, 5, 16] [(0, [], .string ⟨⟨y3.1⟩⟩), (1, [], .func (.func 28) ⟨[]⟩ ⟨[.pointer (some ⟨b_tell_c0, 0, none⟩)]⟩), (5, [], .int .i64 y3.2), (16, [], .bool (y3.2 != 0))] [] H5 (by kernel_rfl) trivial fun _ wd6 H7 hb => ?_
 clear H5
 replace hS := hS.below hb
 clear hb
 refine w_if H7 rfl (fun hc => ?c69) (fun hc => ?_)
 case c69 =>
  replace hm := bT hc hm
  refine s_reg [] [4] [(4, [], .int .i64 y3.2)] [] H7 (by kernel_rfl) trivial fun _ wd8 H9 hb => ?_
  clear H7
  replace hS := hS.below hb
  clear hb
  refine w_ret ?_
  obtain rfl := someE hm
  exact retR1 H9 rfl rfl ⟨_, rfl, g_tell_c0, rfl, (hS.sel [0, 1] rfl)⟩
 replace hm := bF hc hm
 refine w_skip ?_
 refine w_seq ?_
 refine wl_start ?_
 refine wl_batch 0 2 [] [0, 1, 19] [(0, [], .string ⟨⟨y3.1⟩⟩), (1, [], .func (.func 28) ⟨[]⟩ ⟨[.pointer (some ⟨b_tell_c0, 0, none⟩)]⟩), (19, [], .agg ⟨[.string ⟨⟨y3.1⟩⟩, .int .i64 0]⟩)] [] H7 (by decide) (by kernel_rfl) trivial fun _ wd10 H11 hb => ?_
 clear H7
 replace hS := hS.below hb
 clear hb
 have hd := hS.hand [] [0, 1, 2] rfl rfl
 refine m_stp [20, 0, 1] [(0, [], .string ⟨⟨y3.1⟩⟩), (1, [], .func (.func 28) ⟨[]⟩ ⟨[.pointer (some ⟨b_tell_c0, 0, none⟩)]⟩)] H11 rfl rfl rfl rfl (o_box [.string ⟨⟨y3.1⟩⟩, .int .i64 0] H11 hd rfl rfl) (fun _ => rfl) fun _ wd13 v H14 hq => ?_
 clear H11 hd
 obtain ⟨b12, rfl, hq⟩ := hq
 replace hS : SH M X w [Ent.blk b12 [.string ⟨⟨y3.1⟩⟩, .int .i64 0], Ent.blk b_tell_c0 [.slice g_tell_c0.a tell_c0.length g_tell_c0.c], Ent.own 39 tyA2_int tell_c0 g_tell_c0, Ent.gint 0] _ := hS.join [] [0, 1, 2] rfl rfl hq
 clear hq
 refine wl_batch 3 4 [] [0, 1, 6] [(0, [], .string ⟨⟨y3.1⟩⟩), (1, [], .func (.func 28) ⟨[]⟩ ⟨[.pointer (some ⟨b_tell_c0, 0, none⟩)]⟩), (6, [], .pointer (some ⟨b12, 0, none⟩))] [] H14 (by decide) (by kernel_rfl) trivial fun _ wd15 H16 hb => ?_
 clear H14
 replace hS := hS.below hb
 clear hb
 refine wl_end rfl ?_
 refine w_seq ?_
 refine wl_start ?_
 refine wl_batch 0 1 [] [0, 1, 6, 21] [(0, [], .string ⟨⟨y3.1⟩⟩), (1, [], .func (.func 28) ⟨[]⟩ ⟨[.pointer (some ⟨b_tell_c0, 0, none⟩)]⟩), (6, [], .pointer (some ⟨b12, 0, none⟩)), (21, [], .pointer (some ⟨b12, 0, none⟩))] [] H16 (by decide) (by kernel_rfl) trivial fun _ wd17 H18 hb => ?_
 clear H16
 replace hS := hS.below hb
 clear hb
 obtain ⟨y19, hy19, hm⟩ := bindE hm
 have hd := hS.hand [0, 3] [1, 2, 3] rfl rfl
 refine m_stp [22, 0, 1, 6] [(0, [], .string ⟨⟨y3.1⟩⟩), (1, [], .func (.func 28) ⟨[]⟩ ⟨[.pointer (some ⟨b_tell_c0, 0, none⟩)]⟩), (6, [], .pointer (some ⟨b12, 0, none⟩))] H18 rfl rfl rfl rfl (o_callx H18 rfl rfl (token_scanner_comments_ok (b_c := b12) m _ _ _ hy19 _ _ hd)) (fun _ => rfl) fun _ wd20 v H21 hq => ?_
 clear H18 hd
 obtain ⟨rfl, hq⟩ := hq
 replace hS : SH M X w [Ent.blk b12 [.string ⟨⟨y3.1⟩⟩, .int .i64 y19], Ent.blk b_tell_c0 [.slice g_tell_c0.a tell_c0.length g_tell_c0.c], Ent.own 39 tyA2_int tell_c0 g_tell_c0, Ent.gint 0] _ := hS.join [0, 3] [1, 2, 3] rfl rfl hq
 clear hq
 refine wl_end rfl ?_
 refine s_reg [] [0, 1, 6, 7] [(0, [], .string ⟨⟨y3.1⟩⟩), (1, [], .func (.func 28) ⟨[]⟩ ⟨[.pointer (some ⟨b_tell_c0, 0, none⟩)]⟩), (6, [], .pointer (some ⟨b12, 0, none⟩)), (7, [], .int .i64 0)] [] H21 (by kernel_rfl) trivial fun _ wd22 H23 hb => ?_
 clear H21
 replace hS := hS.below hb
 clear hb
 obtain ⟨z24, hz, hm_z24⟩ := bindE hm
 refine w_cut (fun a' w' => ∃ s_z24 : Int × (List TA2_int), z24 = Sum.inr s_z24 ∧ ∃ (g65 : Gh), Fr 50 [] a' ∧ SH M X w [Ent.blk b12 [.string ⟨⟨y3.1⟩⟩, .int .i64 s_z24.1], Ent.blk b_tell_c0 [.slice g65.a s_z24.2.length g65.c], Ent.own 39 tyA2_int s_z24.2 g65, Ent.gint 0] w') ?_ ?_
 ·replace hm := hz
  refine w_block ?_
  refine w_loop (fun kk a' w' => ∃ (v25 : Int) (v26 : Int) (v27 : List TA2_int) (g28 : Gh), token_read_2_L1 m y3 kk v25 v26 v27 = some _ ∧ Fr 50 [(0, [], .string ⟨⟨y3.1⟩⟩), (1, [], .func (.func 28) ⟨[]⟩ ⟨[.pointer (some ⟨b_tell_c0, 0, none⟩)]⟩), (6, [], .pointer (some ⟨b12, 0, none⟩)), (7, [], .int .i64 v25)] a' ∧ SH M X w [Ent.blk b12 [.string ⟨⟨y3.1⟩⟩, .int .i64 v26], Ent.blk b_tell_c0 [.slice g28.a v27.length g28.c], Ent.own 39 tyA2_int v27 g28, Ent.gint 0] w') ⟨_, 0, y19, tell_c0, g_tell_c0, hm, FrG.keep (ks := [0, 1, 6, 7]) H23 (by kernel_rfl), hS⟩ ?_
  clear hm H23 hS
  rintro kk _ wd64 ⟨v25, v26, v27, g28, hm, H, hS⟩
  cases kk with
  | zero => exact noneE hm
  | succ kk =>
   rw [token_read_2_L1] at hm
   refine w_seq ?_
   refine s_reg [(.int .i64 v26)] [0, 1, 6, 7, 29] [(0, [], .string ⟨⟨y3.1⟩⟩), (1, [], .func (.func 28) ⟨[]⟩ ⟨[.pointer (some ⟨b_tell_c0, 0, none⟩)]⟩), (6, [], .pointer (some ⟨b12, 0, none⟩)), (7, [], .int .i64 v25), (29, [], .bool (decide (v26 < (ln y3.1))))] [fun wz => V.at1 ⟨b12, 1, none⟩ (.int .i64 v26) wz] H (by kernel_rfl) ⟨((hS.bk 0 rfl).at1 rfl), trivial⟩ fun _ wd29 H30 hb => ?_
   clear H
   replace hS := hS.below hb
   clear hb
   refine w_if H30 rfl (fun hc => ?_) (fun hc => ?c63)
   case c63 =>
    replace hm := bF hc hm
    refine w_exit rfl ?_
    obtain rfl := someE hm
    exact ⟨_, rfl, g28, FrG.keep (ks := []) H30 (by kernel_rfl), hS⟩
   replace hm := bT hc hm
   refine w_skip ?_
   refine w_block ?_
   refine w_seq ?_
   refine s_reg [] [0, 1, 6, 7] [(0, [], .string ⟨⟨y3.1⟩⟩), (1, [], .func (.func 28) ⟨[]⟩ ⟨[.pointer (some ⟨b_tell_c0, 0, none⟩)]⟩), (6, [], .pointer (some ⟨b12, 0, none⟩)), (7, [], .int .i64 (w64 (v25 + 1)))] [] H30 (by kernel_rfl) trivial fun _ wd31 H32 hb => ?_
   clear H30
   replace hS := hS.below hb
   clear hb
   refine s_reg [] [0, 1, 6, 7, 33] [(0, [], .string ⟨⟨y3.1⟩⟩), (1, [], .func (.func 28) ⟨[]⟩ ⟨[.pointer (some ⟨b_tell_c0, 0, none⟩)]⟩), (6, [], .pointer (some ⟨b12, 0, none⟩)), (7, [], .int .i64 (w64 (v25 + 1))), (33, [], .bool (decide (1500 < (w64 (v25 + 1)))))] [] H32 (by kernel_rfl) trivial fun _ wd33 H34 hb => ?_
   clear H32
   replace hS := hS.below hb
   clear hb
   refine w_if H34 rfl (fun hc => ?c62) (fun hc => ?_)
   case c62 =>
    replace hm := bT hc hm
    refine s_reg [] [4] [(4, [], .int .i64 4)] [] H34 (by kernel_rfl) trivial fun _ wd35 H36 hb => ?_
    clear H34
    replace hS := hS.below hb
    clear hb
    refine w_ret ?_
    obtain rfl := someE hm
    have hm := hm_z24
    obtain rfl := someE hm
    exact retR1 H36 rfl rfl ⟨_, rfl, g28, rfl, (hS.sel [1, 2] rfl)⟩
   replace hm := bF hc hm
   refine w_skip ?_
   refine s_reg [(.int .i64 v26)] [0, 1, 6, 7, 8] [(0, [], .string ⟨⟨y3.1⟩⟩), (1, [], .func (.func 28) ⟨[]⟩ ⟨[.pointer (some ⟨b_tell_c0, 0, none⟩)]⟩), (6, [], .pointer (some ⟨b12, 0, none⟩)), (7, [], .int .i64 (w64 (v25 + 1))), (8, [], .int .i64 v26)] [fun wz => V.at1 ⟨b12, 1, none⟩ (.int .i64 v26) wz] H34 (by kernel_rfl) ⟨((hS.bk 0 rfl).at1 rfl), trivial⟩ fun _ wd37 H38 hb => ?_
   clear H34
   replace hS := hS.below hb
   clear hb
   refine w_seq ?_
   refine wl_start ?_
   refine wl_batch 0 1 [] [0, 1, 6, 7, 8, 38] [(0, [], .string ⟨⟨y3.1⟩⟩), (1, [], .func (.func 28) ⟨[]⟩ ⟨[.pointer (some ⟨b_tell_c0, 0, none⟩)]⟩), (6, [], .pointer (some ⟨b12, 0, none⟩)), (7, [], .int .i64 (w64 (v25 + 1))), (8, [], .int .i64 v26), (38, [], .pointer (some ⟨b12, 0, none⟩))] [] H38 (by decide) (by kernel_rfl) trivial fun _ wd39 H40 hb => ?_
   clear H38
   replace hS := hS.below hb
   clear hb
   obtain ⟨y41, hy41, hm⟩ := bindE hm
   have hd := hS.hand [0] [1, 2, 3] rfl rfl
   refine m_stp [39, 0, 1, 6, 7, 8] [(0, [], .string ⟨⟨y3.1⟩⟩), (1, [], .func (.func 28) ⟨[]⟩ ⟨[.pointer (some ⟨b_tell_c0, 0, none⟩)]⟩), (6, [], .pointer (some ⟨b12, 0, none⟩)), (7, [], .int .i64 (w64 (v25 + 1))), (8, [], .int .i64 v26)] H40 rfl rfl rfl rfl (o_callx H40 rfl rfl (token_scanner_next_ok (b_c := b12) m _ _ _ hy41 _ _ hd)) (fun _ => rfl) fun _ wd42 v H43 hq => ?_
   clear H40 hd
   obtain ⟨rfl, hq⟩ := hq
   replace hS : SH M X w [Ent.blk b12 [.string ⟨⟨y3.1⟩⟩, .int .i64 y41.2], Ent.blk b_tell_c0 [.slice g28.a v27.length g28.c], Ent.own 39 tyA2_int v27 g28, Ent.gint 0] _ := hS.join [0] [1, 2, 3] rfl rfl hq
   clear hq
   have hd := hS.hand [] [0, 1, 2, 3] rfl rfl
   refine m_stp [9, 0, 1, 6, 7, 8, 39] [(0, [], .string ⟨⟨y3.1⟩⟩), (1, [], .func (.func 28) ⟨[]⟩ ⟨[.pointer (some ⟨b_tell_c0, 0, none⟩)]⟩), (6, [], .pointer (some ⟨b12, 0, none⟩)), (7, [], .int .i64 (w64 (v25 + 1))), (8, [], .int .i64 v26), (39, [], .agg ⟨[.int .u8 y41.1.Kind, .string ⟨⟨y41.1.Text⟩⟩, .int .i64 y41.1.Num, .string ⟨⟨y41.1.Unit⟩⟩, .bool y41.1.Flag]⟩)] H43 rfl rfl rfl rfl (o_alloc [.int .u8 0, .string ⟨⟨[]⟩⟩, .int .i64 0, .string ⟨⟨[]⟩⟩, .bool false] (z := .agg ⟨[.int .u8 0, .string ⟨⟨[]⟩⟩, .int .i64 0, .string ⟨⟨[]⟩⟩, .bool false]⟩) hd (by kernel_rfl) rfl) (fun _ => rfl) fun _ wd45 v H46 hq => ?_
   clear H43 hd
   obtain ⟨b44, rfl, hq⟩ := hq
   replace hS : SH M X w [Ent.blk b44 [.int .u8 0, .string ⟨⟨[]⟩⟩, .int .i64 0, .string ⟨⟨[]⟩⟩, .bool false], Ent.blk b12 [.string ⟨⟨y3.1⟩⟩, .int .i64 y41.2], Ent.blk b_tell_c0 [.slice g28.a v27.length g28.c], Ent.own 39 tyA2_int v27 g28, Ent.gint 0] _ := hS.join [] [0, 1, 2, 3] rfl rfl hq
   clear hq
   have hd := hS.hand [0] [1, 2, 3, 4] rfl rfl
   refine m_stp0 [0, 1, 6, 7, 8, 9] [(0, [], .string ⟨⟨y3.1⟩⟩), (1, [], .func (.func 28) ⟨[]⟩ ⟨[.pointer (some ⟨b_tell_c0, 0, none⟩)]⟩), (6, [], .pointer (some ⟨b12, 0, none⟩)), (7, [], .int .i64 (w64 (v25 + 1))), (8, [], .int .i64 v26), (9, [], .pointer (some ⟨b44, 0, none⟩))] H46 rfl rfl rfl (o_store [.int .u8 y41.1.Kind, .string ⟨⟨y41.1.Text⟩⟩, .int .i64 y41.1.Num, .string ⟨⟨y41.1.Unit⟩⟩, .bool y41.1.Flag] H46 hd rfl rfl (by kernel_rfl) rfl rfl rfl) rfl fun _ wd47 H48 hq => ?_
   clear H46 hd
   obtain ⟨_, hq⟩ := hq
   replace hS : SH M X w [Ent.blk b44 [.int .u8 y41.1.Kind, .string ⟨⟨y41.1.Text⟩⟩, .int .i64 y41.1.Num, .string ⟨⟨y41.1.Unit⟩⟩, .bool y41.1.Flag], Ent.blk b12 [.string ⟨⟨y3.1⟩⟩, .int .i64 y41.2], Ent.blk b_tell_c0 [.slice g28.a v27.length g28.c], Ent.own 39 tyA2_int v27 g28, Ent.gint 0] _ := hS.join [0] [1, 2, 3, 4] rfl rfl hq
   clear hq
   refine wl_end rfl ?_
   obtain ⟨y50, hy50, hm⟩ := bindE hm
   refine s_drawS (base := [(0, [], .string ⟨⟨y3.1⟩⟩), (1, [], .func (.func 28) ⟨[]⟩ ⟨[.pointer (some ⟨b_tell_c0, 0, none⟩)]⟩), (6, [], .pointer (some ⟨b12, 0, none⟩)), (7, [], .int .i64 (w64 (v25 + 1))), (8, [], .int .i64 v26), (9, [], .pointer (some ⟨b44, 0, none⟩))]) (L := [Ent.blk b44 [.int .u8 y41.1.Kind, .string ⟨⟨y41.1.Text⟩⟩, .int .i64 y41.1.Num, .string ⟨⟨y41.1.Unit⟩⟩, .bool y41.1.Flag], Ent.blk b12 [.string ⟨⟨y3.1⟩⟩, .int .i64 y41.2], Ent.blk b_tell_c0 [.slice g28.a v27.length g28.c], Ent.own 39 tyA2_int v27 g28, Ent.gint 0]) 8 5 (fun yg49 => [.func (.func 28) ⟨[]⟩ ⟨[.pointer (some ⟨b_tell_c0, 0, none⟩)]⟩, .agg ⟨[.int .u8 y41.1.Kind, .string ⟨⟨y41.1.Text⟩⟩, .int .i64 y41.1.Num, .string ⟨⟨y41.1.Unit⟩⟩, .bool y41.1.Flag]⟩, .int .i64 v26, .pointer (some ⟨b12, 0, none⟩), .pointer (some ⟨b12, 0, none⟩), .pointer (some ⟨b12, 1, none⟩), .int .i64 y41.2, .tuple ⟨[]⟩]) (fun yg49 => [[], [], [], [], [], [], [], [Ent.blk b_tell_c0 [.slice (yg49 7 0).a y50.length (yg49 7 0).c], Ent.own 39 tyA2_int y50 (yg49 7 0)]]) [[10, 11], [8], [], [9], [9], [9], [9], [10, 11]] [[], [], [], [], [], [], [], [10, 11]] [[0], [1], [2], [3], [3, 4], [3, 4, 5], [3, 4, 5, 6], [0, 1, 2, 3, 4, 5, 6, 7]] [] (FrG.keep (ks := [0, 1, 6, 7, 8, 9]) H48 (by kernel_rfl)) (fun _ _ h => by cases h) (by kernel_rfl) hS (by kernel_rfl) rfl rfl (by kernel_rfl) (by kernel_rfl) (by kernel_rfl) (gd_none (by kernel_rfl) _ _) ?hloc_yg49 ?hstep_yg49 fun _ wd53 yg49 H54 hv hS => ?hK_yg49
   case hloc_yg49 => exact ⟨(fun _ _ _ _ => ⟨rfl, rfl⟩), (fun _ _ _ _ => ⟨rfl, rfl⟩), (fun _ _ _ _ => ⟨rfl, rfl⟩), (fun _ _ _ _ => ⟨rfl, rfl⟩), (fun _ _ _ _ => ⟨rfl, rfl⟩), (fun _ _ _ _ => ⟨rfl, rfl⟩), (fun _ _ _ _ => ⟨rfl, rfl⟩), (fun yg49 i g hi => by have h7 : updC yg49 i g 7 = yg49 7 := updC_out hi rfl; exact ⟨(show (.tuple ⟨[]⟩ : Value) = .tuple ⟨[]⟩ by simp only []), (show ([Ent.blk b_tell_c0 [.slice ((updC yg49 i g) 7 0).a y50.length ((updC yg49 i g) 7 0).c], Ent.own 39 tyA2_int y50 ((updC yg49 i g) 7 0)] : List Ent) = [Ent.blk b_tell_c0 [.slice (yg49 7 0).a y50.length (yg49 7 0).c], Ent.own 39 tyA2_int y50 (yg49 7 0)] by simp only [h7])⟩), trivial⟩
   case hstep_yg49 =>
    refine ⟨?_, ?_, ?_, ?_, ?_, ?_, ?_, ?_, trivial⟩
    ·intro o ho a w yg49 M Hb hv hO hS
     obtain rfl := Option.some.inj ho
     exact Stp.mono (o_evs [] (.func (.func 28) ⟨[]⟩ ⟨[.pointer (some ⟨b_tell_c0, 0, none⟩)]⟩) none [] Hb rfl (by kernel_rfl) (fun q e => by cases e)) fun _ _ hq => ⟨gL [], fun _ _ => hq.1, (hS.below hq.2.below).sel [0, 1] rfl⟩
    ·intro o ho a w yg49 M Hb hv hO hS
     obtain rfl := Option.some.inj ho
     exact Stp.mono (o_evs [(.agg ⟨[.int .u8 y41.1.Kind, .string ⟨⟨y41.1.Text⟩⟩, .int .i64 y41.1.Num, .string ⟨⟨y41.1.Unit⟩⟩, .bool y41.1.Flag]⟩)] (.agg ⟨[.int .u8 y41.1.Kind, .string ⟨⟨y41.1.Text⟩⟩, .int .i64 y41.1.Num, .string ⟨⟨y41.1.Unit⟩⟩, .bool y41.1.Flag]⟩) (some (fun wz => V.atN b44 0 [.int .u8 y41.1.Kind, .string ⟨⟨y41.1.Text⟩⟩, .int .i64 y41.1.Num, .string ⟨⟨y41.1.Unit⟩⟩, .bool y41.1.Flag] 0 wz)) [] Hb rfl (by kernel_rfl) (fun q e => by cases e; exact ((hS.bk 0 rfl).atD rfl))) fun _ _ hq => ⟨gL [], fun _ _ => hq.1, (hS.below hq.2.below).sel [0] rfl⟩
    ·intro o ho a w yg49 M Hb hv hO hS
     obtain rfl := Option.some.inj ho
     exact Stp.mono (o_evs [] (.int .i64 v26) none [] Hb rfl (by kernel_rfl) (fun q e => by cases e)) fun _ _ hq => ⟨gL [], fun _ _ => hq.1, (hS.below hq.2.below).sel [] rfl⟩
    ·intro o ho a w yg49 M Hb hv hO hS
     obtain rfl := Option.some.inj ho
     exact Stp.mono (o_evs [] (.pointer (some ⟨b12, 0, none⟩)) none [] Hb rfl (by kernel_rfl) (fun q e => by cases e)) fun _ _ hq => ⟨gL [], fun _ _ => hq.1, (hS.below hq.2.below).sel [0] rfl⟩
    ·intro o ho a w yg49 M Hb hv hO hS
     obtain rfl := Option.some.inj ho
     exact Stp.mono (o_evs [] (.pointer (some ⟨b12, 0, none⟩)) none [] ((Hb).add (hv 3 (by decide) (by decide) 43 rfl)) rfl (by kernel_rfl) (fun q e => by cases e)) fun _ _ hq => ⟨gL [], fun _ _ => hq.1, (hS.below hq.2.below).sel [0] rfl⟩
    ·intro o ho a w yg49 M Hb hv hO hS
     obtain rfl := Option.some.inj ho
     exact Stp.mono (o_evs [] (.pointer (some ⟨b12, 1, none⟩)) none [] ((Hb).add (hv 4 (by decide) (by decide) 44 rfl)) rfl (by kernel_rfl) (fun q e => by cases e)) fun _ _ hq => ⟨gL [], fun _ _ => hq.1, (hS.below hq.2.below).sel [0] rfl⟩
    ·intro o ho a w yg49 M Hb hv hO hS
     obtain rfl := Option.some.inj ho
     exact Stp.mono (o_evs [(.int .i64 y41.2)] (.int .i64 y41.2) (some (fun wz => V.at1 ⟨b12, 1, none⟩ (.int .i64 y41.2) wz)) [] ((Hb).add (hv 5 (by decide) (by decide) 45 rfl)) rfl (by kernel_rfl) (fun q e => by cases e; exact ((hS.bk 0 rfl).at1 rfl))) fun _ _ hq => ⟨gL [], fun _ _ => hq.1, (hS.below hq.2.below).sel [0] rfl⟩
    ·intro o ho a w yg49 M Hb hv hO hS0
     obtain rfl := Option.some.inj ho
     have H : Fr 50 ([(46, [], .int .i64 y41.2), (42, [], .int .i64 v26), (41, [], .agg ⟨[.int .u8 y41.1.Kind, .string ⟨⟨y41.1.Text⟩⟩, .int .i64 y41.1.Num, .string ⟨⟨y41.1.Unit⟩⟩, .bool y41.1.Flag]⟩), (40, [], .func (.func 28) ⟨[]⟩ ⟨[.pointer (some ⟨b_tell_c0, 0, none⟩)]⟩)] ++ [(0, [], .string ⟨⟨y3.1⟩⟩), (1, [], .func (.func 28) ⟨[]⟩ ⟨[.pointer (some ⟨b_tell_c0, 0, none⟩)]⟩), (6, [], .pointer (some ⟨b12, 0, none⟩)), (7, [], .int .i64 (w64 (v25 + 1))), (8, [], .int .i64 v26), (9, [], .pointer (some ⟨b44, 0, none⟩))]) _ := ((((Hb).add (hv 0 (by decide) (by decide) 40 rfl)).add (hv 1 (by decide) (by decide) 41 rfl)).add (hv 2 (by decide) (by decide) 42 rfl)).add (hv 6 (by decide) (by decide) 46 rfl)
     obtain ⟨X, hX⟩ : ∃ X, X = fpl [Ent.blk b_tell_c0 [.slice g28.a v27.length g28.c], Ent.own 39 tyA2_int v27 g28] := ⟨_, rfl⟩
     have hS : SH M X w [Ent.blk b_tell_c0 [.slice g28.a v27.length g28.c], Ent.own 39 tyA2_int v27 g28] w := by rw [hX]; exact hS0
     have hd := hS.hand [0, 1] [] rfl rfl
     refine Stp.mono (o_callx H rfl rfl (token_Spans_1_ok (b_u0 := b_tell_c0) (g_u0 := g28) _ _ _ _ _ hy50 _ _ hd)) ?_
     rintro v w2 hq
     obtain ⟨g51, rfl, hq⟩ := hq
     replace hS : SH M X w [Ent.blk b_tell_c0 [.slice g51.a y50.length g51.c], Ent.own 39 tyA2_int y50 g51] _ := hS.join [0, 1] [] rfl rfl hq
     clear hq
     rw [hX] at hS
     exact ⟨gL [g51], fun _ _ => rfl, hS.sel [0, 1] rfl⟩
   have H55 : Fr 50 [(0, [], .string ⟨⟨y3.1⟩⟩), (1, [], .func (.func 28) ⟨[]⟩ ⟨[.pointer (some ⟨b_tell_c0, 0, none⟩)]⟩), (6, [], .pointer (some ⟨b12, 0, none⟩)), (7, [], .int .i64 (w64 (v25 + 1)))] _ := (FrG.keep (ks := [0, 1, 6, 7]) H54 (by kernel_rfl))
   replace hS : SH M X w [Ent.blk b_tell_c0 [.slice (yg49 7 0).a y50.length (yg49 7 0).c], Ent.own 39 tyA2_int y50 (yg49 7 0), Ent.blk b44 [.int .u8 y41.1.Kind, .string ⟨⟨y41.1.Text⟩⟩, .int .i64 y41.1.Num, .string ⟨⟨y41.1.Unit⟩⟩, .bool y41.1.Flag], Ent.blk b12 [.string ⟨⟨y3.1⟩⟩, .int .i64 y41.2], Ent.gint 0] _ := hS
   clear hv H54
   generalize yg49 7 0 = g56 at H55 hS
   replace hS : SH M X w [Ent.blk b_tell_c0 [.slice g56.a y50.length g56.c], Ent.own 39 tyA2_int y50 g56, Ent.blk b12 [.string ⟨⟨y3.1⟩⟩, .int .i64 y41.2], Ent.gint 0] _ := hS.sel [0, 1, 3, 4] rfl
   refine wl_start ?_
   refine wl_batch 0 1 [] [0, 1, 6, 7, 48] [(0, [], .string ⟨⟨y3.1⟩⟩), (1, [], .func (.func 28) ⟨[]⟩ ⟨[.pointer (some ⟨b_tell_c0, 0, none⟩)]⟩), (6, [], .pointer (some ⟨b12, 0, none⟩)), (7, [], .int .i64 (w64 (v25 + 1))), (48, [], .pointer (some ⟨b12, 0, none⟩))] [] H55 (by decide) (by kernel_rfl) trivial fun _ wd57 H58 hb => ?_
   clear H55
   replace hS := hS.below hb
   clear hb
   obtain ⟨y59, hy59, hm⟩ := bindE hm
   have hd := hS.hand [2, 3] [0, 1, 3] rfl rfl
   refine m_stp [49, 0, 1, 6, 7] [(0, [], .string ⟨⟨y3.1⟩⟩), (1, [], .func (.func 28) ⟨[]⟩ ⟨[.pointer (some ⟨b_tell_c0, 0, none⟩)]⟩), (6, [], .pointer (some ⟨b12, 0, none⟩)), (7, [], .int .i64 (w64 (v25 + 1)))] H58 rfl rfl rfl rfl (o_callx H58 rfl rfl (token_scanner_comments_ok (b_c := b12) m _ _ _ hy59 _ _ hd)) (fun _ => rfl) fun _ wd60 v H61 hq => ?_
   clear H58 hd
   obtain ⟨rfl, hq⟩ := hq
   replace hS : SH M X w [Ent.blk b12 [.string ⟨⟨y3.1⟩⟩, .int .i64 y59], Ent.blk b_tell_c0 [.slice g56.a y50.length g56.c], Ent.own 39 tyA2_int y50 g56, Ent.gint 0] _ := hS.join [2, 3] [0, 1, 3] rfl rfl hq
   clear hq
   refine wl_end rfl ?_
   exact ⟨_, Nat.lt_succ_self _, w64 (v25 + 1), y59, y50, g56, hm, FrG.keep (ks := [0, 1, 6, 7]) H61 (by kernel_rfl), hS⟩
 ·rintro _ wd68 ⟨s_z24, hz, g65, H, hS⟩
  subst hz
  replace hm := sumR hm_z24
  replace hS : SH M X w [Ent.blk b_tell_c0 [.slice g65.a s_z24.2.length g65.c], Ent.own 39 tyA2_int s_z24.2 g65, Ent.gint 0] _ := hS.sel [1, 2, 3] rfl
  refine s_reg [] [4] [(4, [], .int .i64 0)] [] H (by kernel_rfl) trivial fun _ wd66 H67 hb => ?_
  clear H
  replace hS := hS.below hb
  clear hb
  refine w_ret ?_
  obtain rfl := someE hm
  exact retR1 H67 rfl rfl ⟨_, rfl, g65, rfl, (hS.sel [0, 1] rfl)⟩
theorem token_read_2_ok {b_tell_c0 : Nat} {g_tell_c0 : Gh} (m : Nat) (s : Str) (tell_c0 : List TA2_int) (r : Int × (List TA2_int)) (hm : token_read_2 m s tell_c0 = some r) (M : Av) (w : World) (hS : S0 M [Ent.blk b_tell_c0 [.slice g_tell_c0.a tell_c0.length g_tell_c0.c], Ent.own 39 tyA2_int tell_c0 g_tell_c0, Ent.gint 0] w) : DoesX Tryz.prog 24 ⟨[.string ⟨⟨s⟩⟩, .func (.func 28) ⟨[]⟩ ⟨[.pointer (some ⟨b_tell_c0, 0, none⟩)]⟩]⟩ w (fun v w' => ∃ (g901 : Gh), v = .int .i64 r.1 ∧ SH M (fpl [Ent.blk b_tell_c0 [.slice g_tell_c0.a tell_c0.length g_tell_c0.c], Ent.own 39 tyA2_int tell_c0 g_tell_c0, Ent.gint 0]) w [Ent.blk b_tell_c0 [.slice g901.a r.2.length g901.c], Ent.own 39 tyA2_int r.2 g901] w') := ⟨Tryz.call24 _, token_read_2_w M m   s tell_c0 r hm w hS⟩

def token_Spans (m : Nat) (s : Str) : Option ((List TA2_int) × Int) :=
  Option.bind (token_read_2 m s ([] : List TA2_int)) fun y9 =>
  cond (y9.1 != 0) (
  some (([] : List TA2_int), y9.1)) (
  some (y9.2, 0))
theorem token_Spans_w  (M : Av) (m : Nat) (s : Str) (r : (List TA2_int) × Int) (hm : token_Spans m s = some r) (w : World) (hS : S0 M [Ent.gint 0] w) : Calls Tryz.prog 11 ⟨[.string ⟨⟨s⟩⟩]⟩ w (fun e w' => ∃ v, e = .returned v ∧ ∃ (g901 : Gh), v = .tuple ⟨[.slice g901.a r.1.length g901.c, .int .i64 r.2]⟩ ∧ SH M (fpl [Ent.gint 0]) w [Ent.own 39 tyA2_int r.1 g901] w') := by
 rw [token_Spans] at hm
 have hS0 : SH M (fpl [Ent.gint 0]) w [Ent.gint 0] w := hS
 generalize hX : fpl [Ent.gint 0] = X at hS0 ⊢
 clear hS hX
 have hS := hS0
 clear hS0
 refine calls_entryP Tryz.func11 rfl Tryz.ntmps11 rfl fun _ H => ?_
 refine s_reg [] [0] [(0, [], .string ⟨⟨s⟩⟩)] [] H (by kernel_rfl) trivial fun _ wd1 H2 hb => ?_
 clear H
 replace hS := hS.below hb
 clear hb
 refine w_seq ?_
 refine wl_start ?_
 have hd := hS.hand [] [0] rfl rfl
 refine m_stp [4, 0] [(0, [], .string ⟨⟨s⟩⟩)] H2 rfl rfl rfl rfl (o_alloc [.slice none 0 0] (z := .slice none 0 0) hd (by kernel_rfl) rfl) (fun _ => rfl) fun _ wd4 v H5 hq => ?_
 clear H2 hd
 obtain ⟨b3, rfl, hq⟩ := hq
 replace hS : SH M X w [Ent.blk b3 [.slice none 0 0], Ent.gint 0] _ := hS.join [] [0] rfl rfl hq
 clear hq
 refine wl_end rfl ?_
 refine w_seq ?_
 refine w_seq ?_
 refine wl_start ?_
 refine wl_batch 0 2 [] [4, 6, 7] [(4, [], .pointer (some ⟨b3, 0, none⟩)), (6, [], .string ⟨⟨s⟩⟩), (7, [], .func (.func 28) ⟨[]⟩ ⟨[.pointer (some ⟨b3, 0, none⟩)]⟩)] [] H5 (by decide) (by kernel_rfl) trivial fun _ wd6 H7 hb => ?_
 clear H5
 replace hS := hS.below hb
 clear hb
 replace hS : SH M X w [Ent.own 39 tyA2_int ([] : List TA2_int) (.nil), Ent.blk b3 [.slice none 0 0], Ent.gint 0] _ := hS.addNil 39 tyA2_int
 obtain ⟨y9, hy9, hm⟩ := bindE hm
 have hd := hS.hand [1, 0, 2] [2] rfl rfl
 refine m_stp [8, 4] [(4, [], .pointer (some ⟨b3, 0, none⟩))] H7 rfl rfl rfl rfl (o_callx H7 rfl rfl (token_read_2_ok (b_tell_c0 := b3) (g_tell_c0 := Gh.nil) m _ _ _ hy9 _ _ hd)) (fun _ => rfl) fun _ wd12 v H13 hq => ?_
 clear H7 hd
 obtain ⟨g10, rfl, hq⟩ := hq
 replace hS : SH M X w [Ent.blk b3 [.slice g10.a y9.2.length g10.c], Ent.own 39 tyA2_int y9.2 g10, Ent.gint 0] _ := hS.join [1, 0, 2] [2] rfl rfl hq
 clear hq
 refine wl_batch 3 4 [] [4, 5] [(4, [], .pointer (some ⟨b3, 0, none⟩)), (5, [], .int .i64 y9.1)] [] H13 (by decide) (by kernel_rfl) trivial fun _ wd14 H15 hb => ?_
 clear H13
 replace hS := hS.below hb
 clear hb
 refine wl_end rfl ?_
 refine s_reg [] [4, 5, 10] [(4, [], .pointer (some ⟨b3, 0, none⟩)), (5, [], .int .i64 y9.1), (10, [], .bool (y9.1 != 0))] [] H15 (by kernel_rfl) trivial fun _ wd16 H17 hb => ?_
 clear H15
 replace hS := hS.below hb
 clear hb
 refine w_if H17 rfl (fun hc => ?_) (fun hc => ?c23)
 case c23 =>
  replace hm := bF hc hm
  refine w_skip ?_
  refine s_reg [(.slice g10.a y9.2.length g10.c)] [2, 3] [(2, [], .slice g10.a y9.2.length g10.c), (3, [], .int .i64 0)] [fun wz => V.at1 ⟨b3, 0, none⟩ (.slice g10.a y9.2.length g10.c) wz] H17 (by kernel_rfl) ⟨((hS.bk 0 rfl).at1 rfl), trivial⟩ fun _ wd21 H22 hb => ?_
  clear H17
  replace hS := hS.below hb
  clear hb
  replace hS : SH M X w [Ent.own 39 tyA2_int y9.2 g10, Ent.gint 0] _ := hS.sel [1, 2] rfl
  refine w_ret ?_
  obtain rfl := someE hm
  exact retR2 H22 rfl rfl rfl ⟨_, rfl, g10, rfl, (hS.sel [0] rfl)⟩
 replace hm := bT hc hm
 refine s_reg [] [2, 3] [(2, [], .slice none 0 0), (3, [], .int .i64 y9.1)] [] H17 (by kernel_rfl) trivial fun _ wd18 H19 hb => ?_
 clear H17
 replace hS := hS.below hb
 clear hb
 replace hS : SH M X w [Ent.gint 0] _ := hS.sel [2] rfl
 refine w_ret ?_
 obtain rfl := someE hm
 replace hS : SH M X w [Ent.own 39 tyA2_int ([] : List TA2_int) (.nil), Ent.gint 0] _ := hS.addNil 39 tyA2_int
 exact retR2 H19 rfl rfl rfl ⟨_, rfl, Gh.nil, rfl, (hS.sel [0] rfl)⟩
theorem token_Spans_ok  (m : Nat) (s : Str) (r : (List TA2_int) × Int) (hm : token_Spans m s = some r) (M : Av) (w : World) (hS : S0 M [Ent.gint 0] w) : DoesX Tryz.prog 11 ⟨[.string ⟨⟨s⟩⟩]⟩ w (fun v w' => ∃ (g901 : Gh), v = .tuple ⟨[.slice g901.a r.1.length g901.c, .int .i64 r.2]⟩ ∧ SH M (fpl [Ent.gint 0]) w [Ent.own 39 tyA2_int r.1 g901] w') := ⟨Tryz.call11 _, token_Spans_w M m   s r hm w hS⟩

def token_Value (m : Nat) (s : Str) : Option (Int × Bool × Int) :=
  cond (decide (4000 < (ln s))) (
  some (0, false, 28)) (
  Option.bind (token_scanner_number s 0) fun y14 =>
  cond (!y14) (
  some (0, false, 12)) (
  Option.bind (token_scanner_figures m s 0) fun y21 =>
  cond (decide (y21.2 < (ln s))) (
  some (0, false, 12)) (
  Option.bind (token_thousandths m s) fun y30 =>
  some (y30, y21.1, 0))))
theorem token_Value_w  (M : Av) (m : Nat) (s : Str) (r : Int × Bool × Int) (hm : token_Value m s = some r) (w : World) (hS : S0 M [] w) : Calls Tryz.prog 20 ⟨[.string ⟨⟨s⟩⟩]⟩ w (fun e w' => ∃ v, e = .returned v ∧ v = .tuple ⟨[.int .i64 r.1, .bool r.2.1, .int .i64 r.2.2]⟩ ∧ SH M (fpl []) w [] w') := by
 rw [token_Value] at hm
 have hS0 : SH M (fpl []) w [] w := hS
 generalize hX : fpl [] = X at hS0 ⊢
 clear hS hX
 have hS := hS0
 clear hS0
 refine calls_entryP Tryz.func20 rfl Tryz.ntmps20 rfl fun _ H => ?_
 refine s_reg [] [0] [(0, [], .string ⟨⟨s⟩⟩)] [] H (by kernel_rfl) trivial fun _ wd1 H2 hb => ?_
 clear H
 replace hS := hS.below hb
 clear hb
 refine w_seq ?_
 refine s_reg [] [0, 8] [(0, [], .string ⟨⟨s⟩⟩), (8, [], .bool (decide (4000 < (ln s))))] [] H2 (by kernel_rfl) trivial fun _ wd3 H4 hb => ?_
 clear H2
 replace hS := hS.below hb
 clear hb
 refine w_if H4 rfl (fun hc => ?c35) (fun hc => ?_)
 case c35 =>
  replace hm := bT hc hm
  refine s_reg [] [2, 3, 4] [(2, [], .int .i64 0), (3, [], .bool false), (4, [], .int .i64 28)] [] H4 (by kernel_rfl) trivial fun _ wd5 H6 hb => ?_
  clear H4
  replace hS := hS.below hb
  clear hb
  refine w_ret ?_
  obtain rfl := someE hm
  exact retR3 H6 rfl rfl rfl rfl ⟨_, rfl, rfl, (hS.sel [] rfl)⟩
 replace hm := bF hc hm
 refine w_skip ?_
 refine w_seq ?_
 refine wl_start ?_
 refine wl_batch 0 2 [] [0, 10] [(0, [], .string ⟨⟨s⟩⟩), (10, [], .agg ⟨[.string ⟨⟨s⟩⟩, .int .i64 0]⟩)] [] H4 (by decide) (by kernel_rfl) trivial fun _ wd7 H8 hb => ?_
 clear H4
 replace hS := hS.below hb
 clear hb
 have hd := hS.hand [] [] rfl rfl
 refine m_stp [11, 0] [(0, [], .string ⟨⟨s⟩⟩)] H8 rfl rfl rfl rfl (o_box [.string ⟨⟨s⟩⟩, .int .i64 0] H8 hd rfl rfl) (fun _ => rfl) fun _ wd10 v H11 hq => ?_
 clear H8 hd
 obtain ⟨b9, rfl, hq⟩ := hq
 replace hS : SH M X w [Ent.blk b9 [.string ⟨⟨s⟩⟩, .int .i64 0]] _ := hS.join [] [] rfl rfl hq
 clear hq
 refine wl_batch 3 4 [] [0, 5] [(0, [], .string ⟨⟨s⟩⟩), (5, [], .pointer (some ⟨b9, 0, none⟩))] [] H11 (by decide) (by kernel_rfl) trivial fun _ wd12 H13 hb => ?_
 clear H11
 replace hS := hS.below hb
 clear hb
 refine wl_end rfl ?_
 refine w_seq ?_
 obtain ⟨y14, hy14, hm⟩ := bindE hm
 refine s_reg [(.bool y14)] [0, 5, 14] [(0, [], .string ⟨⟨s⟩⟩), (5, [], .pointer (some ⟨b9, 0, none⟩)), (14, [], .bool (!y14))] [fun wz => RetB Tryz.prog 32 ⟨[.pointer (some ⟨b9, 0, none⟩)]⟩ (.bool y14) wz] H13 (by kernel_rfl) ⟨(token_scanner_number_ok (b_c := b9) _ _ _ hy14 _ (s0ro s0nil (hS.bk 0 rfl))), trivial⟩ fun _ wd15 H16 hb => ?_
 clear H13
 replace hS := hS.below hb
 clear hb
 refine w_if H16 rfl (fun hc => ?c34) (fun hc => ?_)
 case c34 =>
  replace hm := bT hc hm
  refine s_reg [] [2, 3, 4] [(2, [], .int .i64 0), (3, [], .bool false), (4, [], .int .i64 12)] [] H16 (by kernel_rfl) trivial fun _ wd17 H18 hb => ?_
  clear H16
  replace hS := hS.below hb
  clear hb
  replace hS : SH M X w [] _ := hS.sel [] rfl
  refine w_ret ?_
  obtain rfl := someE hm
  exact retR3 H18 rfl rfl rfl rfl ⟨_, rfl, rfl, (hS.sel [] rfl)⟩
 replace hm := bF hc hm
 refine w_skip ?_
 refine w_seq ?_
 refine w_seq ?_
 refine wl_start ?_
 refine wl_batch 0 1 [] [0, 5, 15] [(0, [], .string ⟨⟨s⟩⟩), (5, [], .pointer (some ⟨b9, 0, none⟩)), (15, [], .pointer (some ⟨b9, 0, none⟩))] [] H16 (by decide) (by kernel_rfl) trivial fun _ wd19 H20 hb => ?_
 clear H16
 replace hS := hS.below hb
 clear hb
 obtain ⟨y21, hy21, hm⟩ := bindE hm
 have hd := hS.hand [0] [] rfl rfl
 refine m_stp [16, 0, 5] [(0, [], .string ⟨⟨s⟩⟩), (5, [], .pointer (some ⟨b9, 0, none⟩))] H20 rfl rfl rfl rfl (o_callx H20 rfl rfl (token_scanner_figures_ok (b_c := b9) m _ _ _ hy21 _ _ hd)) (fun _ => rfl) fun _ wd22 v H23 hq => ?_
 clear H20 hd
 obtain ⟨rfl, hq⟩ := hq
 replace hS : SH M X w [Ent.blk b9 [.string ⟨⟨s⟩⟩, .int .i64 y21.2]] _ := hS.join [0] [] rfl rfl hq
 clear hq
 refine wl_batch 2 3 [] [0, 3, 5] [(0, [], .string ⟨⟨s⟩⟩), (3, [], .bool y21.1), (5, [], .pointer (some ⟨b9, 0, none⟩))] [] H23 (by decide) (by kernel_rfl) trivial fun _ wd24 H25 hb => ?_
 clear H23
 replace hS := hS.below hb
 clear hb
 refine wl_end rfl ?_
 refine s_reg [(.int .i64 y21.2)] [0, 3, 23] [(0, [], .string ⟨⟨s⟩⟩), (3, [], .bool y21.1), (23, [], .bool (decide (y21.2 < (ln s))))] [fun wz => V.at1 ⟨b9, 1, none⟩ (.int .i64 y21.2) wz] H25 (by kernel_rfl) ⟨((hS.bk 0 rfl).at1 rfl), trivial⟩ fun _ wd26 H27 hb => ?_
 clear H25
 replace hS := hS.below hb
 clear hb
 replace hS : SH M X w [] _ := hS.sel [] rfl
 refine w_if H27 rfl (fun hc => ?c33) (fun hc => ?_)
 case c33 =>
  replace hm := bT hc hm
  refine s_reg [] [2, 3, 4] [(2, [], .int .i64 0), (3, [], .bool false), (4, [], .int .i64 12)] [] H27 (by kernel_rfl) trivial fun _ wd28 H29 hb => ?_
  clear H27
  replace hS := hS.below hb
  clear hb
  refine w_ret ?_
  obtain rfl := someE hm
  exact retR3 H29 rfl rfl rfl rfl ⟨_, rfl, rfl, (hS.sel [] rfl)⟩
 replace hm := bF hc hm
 refine w_skip ?_
 obtain ⟨y30, hy30, hm⟩ := bindE hm
 refine s_reg [(.int .i64 y30)] [2, 3, 4] [(2, [], .int .i64 y30), (3, [], .bool y21.1), (4, [], .int .i64 0)] [fun wz => RetB Tryz.prog 34 ⟨[.string ⟨⟨s⟩⟩]⟩ (.int .i64 y30) wz] H27 (by kernel_rfl) ⟨((token_thousandths_ok m _ _ hy30).b), trivial⟩ fun _ wd31 H32 hb => ?_
 clear H27
 replace hS := hS.below hb
 clear hb
 refine w_ret ?_
 obtain rfl := someE hm
 exact retR3 H32 rfl rfl rfl rfl ⟨_, rfl, rfl, (hS.sel [] rfl)⟩
theorem token_Value_ok  (m : Nat) (s : Str) (r : Int × Bool × Int) (hm : token_Value m s = some r) : Ret Tryz.prog 20 ⟨[.string ⟨⟨s⟩⟩]⟩ (.tuple ⟨[.int .i64 r.1, .bool r.2.1, .int .i64 r.2.2]⟩) := retP_of (Tryz.call20 _) (fun w h => token_Value_w F0 m   s r hm w h)

def token_Name (m : Nat) (s : Str) : Option (Str × Int) :=
  cond (decide (4000 < (ln s))) (
  some ([], 28)) (
  Option.bind (token_scanner_name s 0 0) fun y14 =>
  cond (!y14) (
  some ([], 12)) (
  Option.bind (token_scanner_word m s 0) fun y21 =>
  cond (decide (y21.2 < (ln s))) (
  some ([], 12)) (
  some (y21.1, 0))))
theorem token_Name_w  (M : Av) (m : Nat) (s : Str) (r : Str × Int) (hm : token_Name m s = some r) (w : World) (hS : S0 M [] w) : Calls Tryz.prog 21 ⟨[.string ⟨⟨s⟩⟩]⟩ w (fun e w' => ∃ v, e = .returned v ∧ v = .tuple ⟨[.string ⟨⟨r.1⟩⟩, .int .i64 r.2]⟩ ∧ SH M (fpl []) w [] w') := by
 rw [token_Name] at hm
 have hS0 : SH M (fpl []) w [] w := hS
 generalize hX : fpl [] = X at hS0 ⊢
 clear hS hX
 have hS := hS0
 clear hS0
 refine calls_entryP Tryz.func21 rfl Tryz.ntmps21 rfl fun _ H => ?_
 refine s_reg [] [0] [(0, [], .string ⟨⟨s⟩⟩)] [] H (by kernel_rfl) trivial fun _ wd1 H2 hb => ?_
 clear H
 replace hS := hS.below hb
 clear hb
 refine w_seq ?_
 refine s_reg [] [0, 8] [(0, [], .string ⟨⟨s⟩⟩), (8, [], .bool (decide (4000 < (ln s))))] [] H2 (by kernel_rfl) trivial fun _ wd3 H4 hb => ?_
 clear H2
 replace hS := hS.below hb
 clear hb
 refine w_if H4 rfl (fun hc => ?c34) (fun hc => ?_)
 case c34 =>
  replace hm := bT hc hm
  refine s_reg [] [2, 3] [(2, [], .string ⟨⟨[]⟩⟩), (3, [], .int .i64 28)] [] H4 (by kernel_rfl) trivial fun _ wd5 H6 hb => ?_
  clear H4
  replace hS := hS.below hb
  clear hb
  refine w_ret ?_
  obtain rfl := someE hm
  exact retR2 H6 rfl rfl rfl ⟨_, rfl, rfl, (hS.sel [] rfl)⟩
 replace hm := bF hc hm
 refine w_skip ?_
 refine w_seq ?_
 refine wl_start ?_
 refine wl_batch 0 2 [] [0, 10] [(0, [], .string ⟨⟨s⟩⟩), (10, [], .agg ⟨[.string ⟨⟨s⟩⟩, .int .i64 0]⟩)] [] H4 (by decide) (by kernel_rfl) trivial fun _ wd7 H8 hb => ?_
 clear H4
 replace hS := hS.below hb
 clear hb
 have hd := hS.hand [] [] rfl rfl
 refine m_stp [11, 0] [(0, [], .string ⟨⟨s⟩⟩)] H8 rfl rfl rfl rfl (o_box [.string ⟨⟨s⟩⟩, .int .i64 0] H8 hd rfl rfl) (fun _ => rfl) fun _ wd10 v H11 hq => ?_
 clear H8 hd
 obtain ⟨b9, rfl, hq⟩ := hq
 replace hS : SH M X w [Ent.blk b9 [.string ⟨⟨s⟩⟩, .int .i64 0]] _ := hS.join [] [] rfl rfl hq
 clear hq
 refine wl_batch 3 4 [] [0, 4] [(0, [], .string ⟨⟨s⟩⟩), (4, [], .pointer (some ⟨b9, 0, none⟩))] [] H11 (by decide) (by kernel_rfl) trivial fun _ wd12 H13 hb => ?_
 clear H11
 replace hS := hS.below hb
 clear hb
 refine wl_end rfl ?_
 refine w_seq ?_
 obtain ⟨y14, hy14, hm⟩ := bindE hm
 refine s_reg [(.bool y14)] [0, 4, 14] [(0, [], .string ⟨⟨s⟩⟩), (4, [], .pointer (some ⟨b9, 0, none⟩)), (14, [], .bool (!y14))] [fun wz => RetB Tryz.prog 35 ⟨[.pointer (some ⟨b9, 0, none⟩), .int .i64 0]⟩ (.bool y14) wz] H13 (by kernel_rfl) ⟨(token_scanner_name_ok (b_c := b9) _ _ _ _ hy14 _ (s0ro s0nil (hS.bk 0 rfl))), trivial⟩ fun _ wd15 H16 hb => ?_
 clear H13
 replace hS := hS.below hb
 clear hb
 refine w_if H16 rfl (fun hc => ?c33) (fun hc => ?_)
 case c33 =>
  replace hm := bT hc hm
  refine s_reg [] [2, 3] [(2, [], .string ⟨⟨[]⟩⟩), (3, [], .int .i64 12)] [] H16 (by kernel_rfl) trivial fun _ wd17 H18 hb => ?_
  clear H16
  replace hS := hS.below hb
  clear hb
  replace hS : SH M X w [] _ := hS.sel [] rfl
  refine w_ret ?_
  obtain rfl := someE hm
  exact retR2 H18 rfl rfl rfl ⟨_, rfl, rfl, (hS.sel [] rfl)⟩
 replace hm := bF hc hm
 refine w_skip ?_
 refine w_seq ?_
 refine wl_start ?_
 refine wl_batch 0 1 [] [0, 4, 15] [(0, [], .string ⟨⟨s⟩⟩), (4, [], .pointer (some ⟨b9, 0, none⟩)), (15, [], .pointer (some ⟨b9, 0, none⟩))] [] H16 (by decide) (by kernel_rfl) trivial fun _ wd19 H20 hb => ?_
 clear H16
 replace hS := hS.below hb
 clear hb
 obtain ⟨y21, hy21, hm⟩ := bindE hm
 have hd := hS.hand [0] [] rfl rfl
 refine m_stp [16, 0, 4] [(0, [], .string ⟨⟨s⟩⟩), (4, [], .pointer (some ⟨b9, 0, none⟩))] H20 rfl rfl rfl rfl (o_callx H20 rfl rfl (token_scanner_word_ok (b_c := b9) m _ _ _ hy21 _ _ hd)) (fun _ => rfl) fun _ wd22 v H23 hq => ?_
 clear H20 hd
 obtain ⟨rfl, hq⟩ := hq
 replace hS : SH M X w [Ent.blk b9 [.string ⟨⟨s⟩⟩, .int .i64 y21.2]] _ := hS.join [0] [] rfl rfl hq
 clear hq
 refine wl_batch 2 3 [] [0, 4, 5] [(0, [], .string ⟨⟨s⟩⟩), (4, [], .pointer (some ⟨b9, 0, none⟩)), (5, [], .string ⟨⟨y21.1⟩⟩)] [] H23 (by decide) (by kernel_rfl) trivial fun _ wd24 H25 hb => ?_
 clear H23
 replace hS := hS.below hb
 clear hb
 refine wl_end rfl ?_
 refine w_seq ?_
 refine s_reg [(.int .i64 y21.2)] [5, 23] [(5, [], .string ⟨⟨y21.1⟩⟩), (23, [], .bool (decide (y21.2 < (ln s))))] [fun wz => V.at1 ⟨b9, 1, none⟩ (.int .i64 y21.2) wz] H25 (by kernel_rfl) ⟨((hS.bk 0 rfl).at1 rfl), trivial⟩ fun _ wd26 H27 hb => ?_
 clear H25
 replace hS := hS.below hb
 clear hb
 replace hS : SH M X w [] _ := hS.sel [] rfl
 refine w_if H27 rfl (fun hc => ?c32) (fun hc => ?_)
 case c32 =>
  replace hm := bT hc hm
  refine s_reg [] [2, 3] [(2, [], .string ⟨⟨[]⟩⟩), (3, [], .int .i64 12)] [] H27 (by kernel_rfl) trivial fun _ wd28 H29 hb => ?_
  clear H27
  replace hS := hS.below hb
  clear hb
  refine w_ret ?_
  obtain rfl := someE hm
  exact retR2 H29 rfl rfl rfl ⟨_, rfl, rfl, (hS.sel [] rfl)⟩
 replace hm := bF hc hm
 refine w_skip ?_
 refine s_reg [] [2, 3] [(2, [], .string ⟨⟨y21.1⟩⟩), (3, [], .int .i64 0)] [] H27 (by kernel_rfl) trivial fun _ wd30 H31 hb => ?_
 clear H27
 replace hS := hS.below hb
 clear hb
 refine w_ret ?_
 obtain rfl := someE hm
 exact retR2 H31 rfl rfl rfl ⟨_, rfl, rfl, (hS.sel [] rfl)⟩
theorem token_Name_ok  (m : Nat) (s : Str) (r : Str × Int) (hm : token_Name m s = some r) : Ret Tryz.prog 21 ⟨[.string ⟨⟨s⟩⟩]⟩ (.tuple ⟨[.string ⟨⟨r.1⟩⟩, .int .i64 r.2]⟩) := retP_of (Tryz.call21 _) (fun w h => token_Name_w F0 m   s r hm w h)

def law02_is (m : Nat) (s : Str) (want : TToken) : Option (Bool) :=
  Option.bind (token_Tokens m s) fun y8 =>
  chk ((cond (y8.2 == 0) ((ln y8.1) == 1) false) = true → 0 ≤ (0 : Int) ∧ (0 : Int) < ln y8.1) <|
  lt (cond (cond (y8.2 == 0) ((ln y8.1) == 1) false) ((((gi y8.1 (0 : Int)).Kind) == want.Kind) && ((((gi y8.1 (0 : Int)).Text) == want.Text) && ((((gi y8.1 (0 : Int)).Num) == want.Num) && ((((gi y8.1 (0 : Int)).Unit) == want.Unit) && ((((gi y8.1 (0 : Int)).Flag) == want.Flag) && true))))) false) fun x16 =>
  some x16
theorem law02_is_w  (M : Av) (m : Nat) (s : Str) (want : TToken) (r : Bool) (hm : law02_is m s want = some r) (w : World) (hS : S0 M [Ent.gint 0] w) : Calls Tryz.prog 22 ⟨[.string ⟨⟨s⟩⟩, .agg ⟨[.int .u8 want.Kind, .string ⟨⟨want.Text⟩⟩, .int .i64 want.Num, .string ⟨⟨want.Unit⟩⟩, .bool want.Flag]⟩]⟩ w (fun e w' => ∃ v, e = .returned v ∧ v = .bool r ∧ SH M (fpl [Ent.gint 0]) w [] w') := by
 rw [law02_is] at hm
 have hS0 : SH M (fpl [Ent.gint 0]) w [Ent.gint 0] w := hS
 generalize hX : fpl [Ent.gint 0] = X at hS0 ⊢
 clear hS hX
 have hS := hS0
 clear hS0
 refine calls_entryP Tryz.func22 rfl Tryz.ntmps22 rfl fun _ H => ?_
 refine w_seq ?_
 refine wl_start ?_
 have hd := hS.hand [] [0] rfl rfl
 refine m_stp [3, 0] [(0, [], .string ⟨⟨s⟩⟩)] H rfl rfl rfl rfl (o_box [.int .u8 want.Kind, .string ⟨⟨want.Text⟩⟩, .int .i64 want.Num, .string ⟨⟨want.Unit⟩⟩, .bool want.Flag] H hd rfl rfl) (fun _ => rfl) fun _ wd2 v H3 hq => ?_
 clear H hd
 obtain ⟨b1, rfl, hq⟩ := hq
 replace hS : SH M X w [Ent.blk b1 [.int .u8 want.Kind, .string ⟨⟨want.Text⟩⟩, .int .i64 want.Num, .string ⟨⟨want.Unit⟩⟩, .bool want.Flag], Ent.gint 0] _ := hS.join [] [0] rfl rfl hq
 clear hq
 refine wl_batch 1 2 [] [0, 3] [(0, [], .string ⟨⟨s⟩⟩), (3, [], .pointer (some ⟨b1, 0, none⟩))] [] H3 (by decide) (by kernel_rfl) trivial fun _ wd4 H5 hb => ?_
 clear H3
 replace hS := hS.below hb
 clear hb
 refine wl_end rfl ?_
 refine w_seq ?_
 refine wl_start ?_
 refine wl_batch 0 1 [] [3, 8] [(3, [], .pointer (some ⟨b1, 0, none⟩)), (8, [], .string ⟨⟨s⟩⟩)] [] H5 (by decide) (by kernel_rfl) trivial fun _ wd6 H7 hb => ?_
 clear H5
 replace hS := hS.below hb
 clear hb
 obtain ⟨y8, hy8, hm⟩ := bindE hm
 have hd := hS.hand [1] [0, 1] rfl rfl
 refine m_stp [9, 3] [(3, [], .pointer (some ⟨b1, 0, none⟩))] H7 rfl rfl rfl rfl (o_callx H7 rfl rfl (token_Tokens_ok m _ _ hy8 _ _ hd)) (fun _ => rfl) fun _ wd11 v H12 hq => ?_
 clear H7 hd
 obtain ⟨g9, rfl, hq⟩ := hq
 replace hS : SH M X w [Ent.own 44 tyToken y8.1 g9, Ent.blk b1 [.int .u8 want.Kind, .string ⟨⟨want.Text⟩⟩, .int .i64 want.Num, .string ⟨⟨want.Unit⟩⟩, .bool want.Flag], Ent.gint 0] _ := hS.join [1] [0, 1] rfl rfl hq
 clear hq
 refine wl_batch 2 7 [] [3, 5, 6] [(3, [], .pointer (some ⟨b1, 0, none⟩)), (5, [], .slice g9.a y8.1.length g9.c), (6, [], .int .i64 y8.2)] [] H12 (by decide) (by kernel_rfl) trivial fun _ wd13 H14 hb => ?_
 clear H12
 replace hS := hS.below hb
 clear hb
 refine wl_end rfl ?_
 obtain ⟨ho15, hm⟩ := chkE hm
 obtain ⟨x16, hx16, hm⟩ := letE hm
 refine s_draw [(.agg ⟨[.int .u8 ((gi y8.1 (0 : Int)).Kind), .string ⟨⟨(gi y8.1 (0 : Int)).Text⟩⟩, .int .i64 ((gi y8.1 (0 : Int)).Num), .string ⟨⟨(gi y8.1 (0 : Int)).Unit⟩⟩, .bool ((gi y8.1 (0 : Int)).Flag)]⟩), (.agg ⟨[.int .u8 want.Kind, .string ⟨⟨want.Text⟩⟩, .int .i64 want.Num, .string ⟨⟨want.Unit⟩⟩, .bool want.Flag]⟩)] [4] [(4, [], .bool x16)] [fun _ => ((cond (y8.2 == 0) ((ln y8.1) == 1) false) = true ∧ True → oka g9.a ∧ 0 ≤ (0 : Int) ∧ (0 : Int) < ln y8.1), fun wz => ((cond (y8.2 == 0) ((ln y8.1) == 1) false) = true ∧ True → V.atN (ab g9.a) (ao g9.a + ((0 : Int)).toNat * 5) [.int .u8 ((gi y8.1 (0 : Int)).Kind), .string ⟨⟨(gi y8.1 (0 : Int)).Text⟩⟩, .int .i64 ((gi y8.1 (0 : Int)).Num), .string ⟨⟨(gi y8.1 (0 : Int)).Unit⟩⟩, .bool ((gi y8.1 (0 : Int)).Flag)] 0 wz), fun wz => ((cond (y8.2 == 0) ((ln y8.1) == 1) false) = true ∧ True → V.atN b1 0 [.int .u8 want.Kind, .string ⟨⟨want.Text⟩⟩, .int .i64 want.Num, .string ⟨⟨want.Unit⟩⟩, .bool want.Flag] 0 wz)] H14 (by kernel_rfl) (by kernel_rfl) (by subst hx16; kernel_rfl) ⟨fun hg => (hS.osl 0 rfl).oki (ho15 hg.1), fun hg => (hS.osl 0 rfl).atA (ho15 hg.1) 0 rfl, fun hg => (hS.bk 1 rfl).atD rfl, trivial⟩ fun _ wd17 H18 hb => ?_
 clear H14
 replace hS := hS.below hb
 clear hb
 replace hS : SH M X w [Ent.gint 0] _ := hS.sel [2] rfl
 refine w_ret ?_
 obtain rfl := someE hm
 exact retR1 H18 rfl rfl ⟨_, rfl, rfl, (hS.sel [] rfl)⟩
theorem law02_is_ok  (m : Nat) (s : Str) (want : TToken) (r : Bool) (hm : law02_is m s want = some r) (w : World) (hL : S0 F0 [Ent.gint 0] w ∧ fpl [Ent.gint 0] = []) : RetB Tryz.prog 22 ⟨[.string ⟨⟨s⟩⟩, .agg ⟨[.int .u8 want.Kind, .string ⟨⟨want.Text⟩⟩, .int .i64 want.Num, .string ⟨⟨want.Unit⟩⟩, .bool want.Flag]⟩]⟩ (.bool r) w := retB_of hL (Tryz.call22 _) (fun w' h => law02_is_w F0 m   s want r hm w' h)

def law02_kinds_L1 (m : Nat) (want : List Int) (y5 : (List TToken) × Int) : Nat → Int → Option (Sum (Bool) (Unit))
  | 0, _ => none
  | kk + 1, v20 =>
    cond (decide (v20 < (ln y5.1))) (
    chk (0 ≤ v20 ∧ v20 < ln y5.1) <|
    chk (0 ≤ v20 ∧ v20 < ln want) <|
    cond (((gi y5.1 v20).Kind) != (gi want v20)) (
    some (.inl false)) (
    law02_kinds_L1 m want y5 kk (w64 (v20 + 1)))) (
    some (.inr ()))
def law02_kinds (m : Nat) (s : Str) (want : List Int) : Option (Bool) :=
  Option.bind (token_Tokens m s) fun y5 =>
  lt (cond (y5.2 != 0) true ((ln y5.1) != (ln want))) fun x12 =>
  cond x12 (
  some false) (
  Option.bind (
  law02_kinds_L1 m want y5 m 0) fun (z17 : Sum (Bool) (Unit)) => sumK z17 fun s_z17 =>
  some true)
theorem law02_kinds_w {g_want : Gh} (M : Av) (m : Nat) (s : Str) (want : List Int) (r : Bool) (hm : law02_kinds m s want = some r) (w : World) (hS : S0 M [Ent.im (tI .u8) want g_want, Ent.gint 0] w) : Calls Tryz.prog 23 ⟨[.string ⟨⟨s⟩⟩, .slice g_want.a want.length g_want.c]⟩ w (fun e w' => ∃ v, e = .returned v ∧ v = .bool r ∧ SH M (fpl [Ent.im (tI .u8) want g_want, Ent.gint 0]) w [] w') := by
 rw [law02_kinds] at hm
 have hS0 : SH M (fpl [Ent.im (tI .u8) want g_want, Ent.gint 0]) w [Ent.im (tI .u8) want g_want, Ent.gint 0] w := hS
 generalize hX : fpl [Ent.im (tI .u8) want g_want, Ent.gint 0] = X at hS0 ⊢
 clear hS hX
 have hS := hS0
 clear hS0
 refine calls_entryP Tryz.func23 rfl Tryz.ntmps23 rfl fun _ H => ?_
 refine s_reg [] [0, 1] [(0, [], .string ⟨⟨s⟩⟩), (1, [], .slice g_want.a want.length g_want.c)] [] H (by kernel_rfl) trivial fun _ wd1 H2 hb => ?_
 clear H
 replace hS := hS.below hb
 clear hb
 refine w_seq ?_
 refine wl_start ?_
 refine wl_batch 0 1 [] [1, 9] [(1, [], .slice g_want.a want.length g_want.c), (9, [], .string ⟨⟨s⟩⟩)] [] H2 (by decide) (by kernel_rfl) trivial fun _ wd3 H4 hb => ?_
 clear H2
 replace hS := hS.below hb
 clear hb
 obtain ⟨y5, hy5, hm⟩ := bindE hm
 have hd := hS.hand [1] [0, 1] rfl rfl
 refine m_stp [10, 1] [(1, [], .slice g_want.a want.length g_want.c)] H4 rfl rfl rfl rfl (o_callx H4 rfl rfl (token_Tokens_ok m _ _ hy5 _ _ hd)) (fun _ => rfl) fun _ wd8 v H9 hq => ?_
 clear H4 hd
 obtain ⟨g6, rfl, hq⟩ := hq
 replace hS : SH M X w [Ent.own 44 tyToken y5.1 g6, Ent.im (tI .u8) want g_want, Ent.gint 0] _ := hS.join [1] [0, 1] rfl rfl hq
 clear hq
 refine wl_batch 2 7 [] [1, 5, 6] [(1, [], .slice g_want.a want.length g_want.c), (5, [], .slice g6.a y5.1.length g6.c), (6, [], .int .i64 y5.2)] [] H9 (by decide) (by kernel_rfl) trivial fun _ wd10 H11 hb => ?_
 clear H9
 replace hS := hS.below hb
 clear hb
 refine wl_end rfl ?_
 refine w_seq ?_
 obtain ⟨x12, hx12, hm⟩ := letE hm
 refine s_reg [] [1, 5, 21] [(1, [], .slice g_want.a want.length g_want.c), (5, [], .slice g6.a y5.1.length g6.c), (21, [], .bool x12)] [] H11 (by subst hx12; kernel_rfl) trivial fun _ wd13 H14 hb => ?_
 clear H11
 replace hS := hS.below hb
 clear hb
 refine w_if H14 rfl (fun hc => ?c37) (fun hc => ?_)
 case c37 =>
  replace hm := bT hc hm
  refine s_reg [] [4] [(4, [], .bool false)] [] H14 (by kernel_rfl) trivial fun _ wd15 H16 hb => ?_
  clear H14
  replace hS := hS.below hb
  clear hb
  replace hS : SH M X w [Ent.gint 0] _ := hS.sel [2] rfl
  refine w_ret ?_
  obtain rfl := someE hm
  exact retR1 H16 rfl rfl ⟨_, rfl, rfl, (hS.sel [] rfl)⟩
 replace hm := bF hc hm
 refine w_skip ?_
 obtain ⟨z17, hz, hm_z17⟩ := bindE hm
 refine w_cut (fun a' w' => ∃ s_z17 : Unit, z17 = Sum.inr s_z17 ∧ Fr 38 [] a' ∧ SH M X w [Ent.own 44 tyToken y5.1 g6, Ent.im (tI .u8) want g_want, Ent.gint 0] w') ?_ ?_
 ·replace hm := hz
  refine s_reg [] [1, 5, 7] [(1, [], .slice g_want.a want.length g_want.c), (5, [], .slice g6.a y5.1.length g6.c), (7, [], .int .i64 0)] [] H14 (by kernel_rfl) trivial fun _ wd18 H19 hb => ?_
  clear H14
  replace hS := hS.below hb
  clear hb
  refine w_block ?_
  refine w_loop (fun kk a' w' => ∃ (v20 : Int), law02_kinds_L1 m want y5 kk v20 = some _ ∧ Fr 38 [(1, [], .slice g_want.a want.length g_want.c), (5, [], .slice g6.a y5.1.length g6.c), (7, [], .int .i64 v20)] a' ∧ SH M X w [Ent.own 44 tyToken y5.1 g6, Ent.im (tI .u8) want g_want, Ent.gint 0] w') ⟨_, 0, hm, FrG.keep (ks := [1, 5, 7]) H19 (by kernel_rfl), hS⟩ ?_
  clear hm H19 hS
  rintro kk _ wd33 ⟨v20, hm, H, hS⟩
  cases kk with
  | zero => exact noneE hm
  | succ kk =>
   rw [law02_kinds_L1] at hm
   refine w_seq ?_
   refine s_reg [] [1, 5, 7, 25] [(1, [], .slice g_want.a want.length g_want.c), (5, [], .slice g6.a y5.1.length g6.c), (7, [], .int .i64 v20), (25, [], .bool (decide (v20 < (ln y5.1))))] [] H (by kernel_rfl) trivial fun _ wd21 H22 hb => ?_
   clear H
   replace hS := hS.below hb
   clear hb
   refine w_if H22 rfl (fun hc => ?_) (fun hc => ?c32)
   case c32 =>
    replace hm := bF hc hm
    refine w_exit rfl ?_
    obtain rfl := someE hm
    exact ⟨_, rfl, FrG.keep (ks := []) H22 (by kernel_rfl), hS⟩
   replace hm := bT hc hm
   refine w_skip ?_
   refine w_seq ?_
   refine w_block ?_
   obtain ⟨ho23, hm⟩ := chkE hm
   obtain ⟨ho24, hm⟩ := chkE hm
   refine s_draw [(.int .u8 ((gi y5.1 v20).Kind)), (.int .u8 (gi want v20))] [1, 5, 7, 37] [(1, [], .slice g_want.a want.length g_want.c), (5, [], .slice g6.a y5.1.length g6.c), (7, [], .int .i64 v20), (37, [], .bool (((gi y5.1 v20).Kind) != (gi want v20)))] [fun _ => oka g6.a ∧ 0 ≤ v20 ∧ v20 < ln y5.1, fun wz => V.at1 ⟨ab g6.a, ao g6.a + (v20).toNat * 5, none⟩ (.int .u8 ((gi y5.1 v20).Kind)) wz, fun _ => oka g_want.a ∧ 0 ≤ v20 ∧ v20 < ln want, fun wz => V.at1 ⟨ab g_want.a, ao g_want.a + (v20).toNat * 1, none⟩ (.int .u8 (gi want v20)) wz] H22 (by kernel_rfl) (by kernel_rfl) (by kernel_rfl) ⟨((hS.osl 0 rfl).oki ho23), ((hS.osl 0 rfl).at1 ho23 0 rfl), ((hS.im 1 rfl).oki ho24), ((hS.im 1 rfl).at1 ho24 0 rfl), trivial⟩ fun _ wd25 H26 hb => ?_
   clear H22
   replace hS := hS.below hb
   clear hb
   refine w_if H26 rfl (fun hc => ?_) (fun hc => ?c31)
   case c31 =>
    replace hm := bF hc hm
    refine w_skip ?_
    refine w_reg [] [1, 5, 7] [(1, [], .slice g_want.a want.length g_want.c), (5, [], .slice g6.a y5.1.length g6.c), (7, [], .int .i64 (w64 (v20 + 1)))] [] H26 (by kernel_rfl) trivial fun _ wd29 H30 hb => ?_
    clear H26
    replace hS := hS.below hb
    clear hb
    exact ⟨_, Nat.lt_succ_self _, w64 (v20 + 1), hm, FrG.keep (ks := [1, 5, 7]) H30 (by kernel_rfl), hS⟩
   replace hm := bT hc hm
   refine s_reg [] [4] [(4, [], .bool false)] [] H26 (by kernel_rfl) trivial fun _ wd27 H28 hb => ?_
   clear H26
   replace hS := hS.below hb
   clear hb
   refine w_ret ?_
   obtain rfl := someE hm
   have hm := hm_z17
   obtain rfl := someE hm
   exact retR1 H28 rfl rfl ⟨_, rfl, rfl, (hS.sel [] rfl)⟩
 ·rintro _ wd36 ⟨s_z17, hz, H, hS⟩
  subst hz
  replace hm := sumR hm_z17
  replace hS : SH M X w [Ent.gint 0] _ := hS.sel [2] rfl
  refine s_reg [] [4] [(4, [], .bool true)] [] H (by kernel_rfl) trivial fun _ wd34 H35 hb => ?_
  clear H
  replace hS := hS.below hb
  clear hb
  refine w_ret ?_
  obtain rfl := someE hm
  exact retR1 H35 rfl rfl ⟨_, rfl, rfl, (hS.sel [] rfl)⟩
theorem law02_kinds_ok {g_want : Gh} (m : Nat) (s : Str) (want : List Int) (r : Bool) (hm : law02_kinds m s want = some r) (w : World) (hL : S0 F0 [Ent.im (tI .u8) want g_want, Ent.gint 0] w ∧ fpl [Ent.im (tI .u8) want g_want, Ent.gint 0] = []) : RetB Tryz.prog 23 ⟨[.string ⟨⟨s⟩⟩, .slice g_want.a want.length g_want.c]⟩ (.bool r) w := retB_of hL (Tryz.call23 _) (fun w' h => law02_kinds_w F0 m   s want r hm w' h)

def r02_Same_L1 (m : Nat) (a_ : List TToken) (b_ : List TToken) : Nat → Int → Option (Sum (Bool) (Unit))
  | 0, _ => none
  | kk + 1, v10 =>
    cond (decide (v10 < (ln a_))) (
    chk (0 ≤ v10 ∧ v10 < ln a_) <|
    chk (0 ≤ v10 ∧ v10 < ln b_) <|
    lt (!((((gi a_ v10).Kind) == ((gi b_ v10).Kind)) && ((((gi a_ v10).Text) == ((gi b_ v10).Text)) && ((((gi a_ v10).Num) == ((gi b_ v10).Num)) && ((((gi a_ v10).Unit) == ((gi b_ v10).Unit)) && ((((gi a_ v10).Flag) == ((gi b_ v10).Flag)) && true)))))) fun x15 =>
    cond x15 (
    some (.inl false)) (
    r02_Same_L1 m a_ b_ kk (w64 (v10 + 1)))) (
    some (.inr ()))
def r02_Same (m : Nat) (a_ : List TToken) (b_ : List TToken) : Option (Bool) :=
  cond ((ln a_) != (ln b_)) (
  some false) (
  Option.bind (
  r02_Same_L1 m a_ b_ m 0) fun (z7 : Sum (Bool) (Unit)) => sumK z7 fun s_z7 =>
  some true)
theorem r02_Same_w {g_a_ : Gh} {g_b_ : Gh} (M : Av) (m : Nat) (a_ : List TToken) (b_ : List TToken) (r : Bool) (hm : r02_Same m a_ b_ = some r) (w : World) (hS : S0 M [Ent.im tyToken a_ g_a_, Ent.im tyToken b_ g_b_] w) : Calls Tryz.prog 13 ⟨[.slice g_a_.a a_.length g_a_.c, .slice g_b_.a b_.length g_b_.c]⟩ w (fun e w' => ∃ v, e = .returned v ∧ v = .bool r ∧ SH M (fpl [Ent.im tyToken a_ g_a_, Ent.im tyToken b_ g_b_]) w [] w') := by
 rw [r02_Same] at hm
 have hS0 : SH M (fpl [Ent.im tyToken a_ g_a_, Ent.im tyToken b_ g_b_]) w [Ent.im tyToken a_ g_a_, Ent.im tyToken b_ g_b_] w := hS
 generalize hX : fpl [Ent.im tyToken a_ g_a_, Ent.im tyToken b_ g_b_] = X at hS0 ⊢
 clear hS hX
 have hS := hS0
 clear hS0
 refine calls_entryP Tryz.func13 rfl Tryz.ntmps13 rfl fun _ H => ?_
 refine s_reg [] [0, 1] [(0, [], .slice g_a_.a a_.length g_a_.c), (1, [], .slice g_b_.a b_.length g_b_.c)] [] H (by kernel_rfl) trivial fun _ wd1 H2 hb => ?_
 clear H
 replace hS := hS.below hb
 clear hb
 refine w_seq ?_
 refine s_reg [] [0, 1, 10] [(0, [], .slice g_a_.a a_.length g_a_.c), (1, [], .slice g_b_.a b_.length g_b_.c), (10, [], .bool ((ln a_) != (ln b_)))] [] H2 (by kernel_rfl) trivial fun _ wd3 H4 hb => ?_
 clear H2
 replace hS := hS.below hb
 clear hb
 refine w_if H4 rfl (fun hc => ?c28) (fun hc => ?_)
 case c28 =>
  replace hm := bT hc hm
  refine s_reg [] [4] [(4, [], .bool false)] [] H4 (by kernel_rfl) trivial fun _ wd5 H6 hb => ?_
  clear H4
  replace hS := hS.below hb
  clear hb
  replace hS : SH M X w [] _ := hS.sel [] rfl
  refine w_ret ?_
  obtain rfl := someE hm
  exact retR1 H6 rfl rfl ⟨_, rfl, rfl, (hS.sel [] rfl)⟩
 replace hm := bF hc hm
 refine w_skip ?_
 obtain ⟨z7, hz, hm_z7⟩ := bindE hm
 refine w_cut (fun a' w' => ∃ s_z7 : Unit, z7 = Sum.inr s_z7 ∧ Fr 26 [] a' ∧ SH M X w [Ent.im tyToken a_ g_a_, Ent.im tyToken b_ g_b_] w') ?_ ?_
 ·replace hm := hz
  refine s_reg [] [0, 1, 5] [(0, [], .slice g_a_.a a_.length g_a_.c), (1, [], .slice g_b_.a b_.length g_b_.c), (5, [], .int .i64 0)] [] H4 (by kernel_rfl) trivial fun _ wd8 H9 hb => ?_
  clear H4
  replace hS := hS.below hb
  clear hb
  refine w_block ?_
  refine w_loop (fun kk a' w' => ∃ (v10 : Int), r02_Same_L1 m a_ b_ kk v10 = some _ ∧ Fr 26 [(0, [], .slice g_a_.a a_.length g_a_.c), (1, [], .slice g_b_.a b_.length g_b_.c), (5, [], .int .i64 v10)] a' ∧ SH M X w [Ent.im tyToken a_ g_a_, Ent.im tyToken b_ g_b_] w') ⟨_, 0, hm, FrG.keep (ks := [0, 1, 5]) H9 (by kernel_rfl), hS⟩ ?_
  clear hm H9 hS
  rintro kk _ wd24 ⟨v10, hm, H, hS⟩
  cases kk with
  | zero => exact noneE hm
  | succ kk =>
   rw [r02_Same_L1] at hm
   refine w_seq ?_
   refine s_reg [] [0, 1, 5, 14] [(0, [], .slice g_a_.a a_.length g_a_.c), (1, [], .slice g_b_.a b_.length g_b_.c), (5, [], .int .i64 v10), (14, [], .bool (decide (v10 < (ln a_))))] [] H (by kernel_rfl) trivial fun _ wd11 H12 hb => ?_
   clear H
   replace hS := hS.below hb
   clear hb
   refine w_if H12 rfl (fun hc => ?_) (fun hc => ?c23)
   case c23 =>
    replace hm := bF hc hm
    refine w_exit rfl ?_
    obtain rfl := someE hm
    exact ⟨_, rfl, FrG.keep (ks := []) H12 (by kernel_rfl), hS⟩
   replace hm := bT hc hm
   refine w_skip ?_
   refine w_seq ?_
   refine w_block ?_
   obtain ⟨ho13, hm⟩ := chkE hm
   obtain ⟨ho14, hm⟩ := chkE hm
   obtain ⟨x15, hx15, hm⟩ := letE hm
   refine s_draw [(.agg ⟨[.int .u8 ((gi a_ v10).Kind), .string ⟨⟨(gi a_ v10).Text⟩⟩, .int .i64 ((gi a_ v10).Num), .string ⟨⟨(gi a_ v10).Unit⟩⟩, .bool ((gi a_ v10).Flag)]⟩), (.agg ⟨[.int .u8 ((gi b_ v10).Kind), .string ⟨⟨(gi b_ v10).Text⟩⟩, .int .i64 ((gi b_ v10).Num), .string ⟨⟨(gi b_ v10).Unit⟩⟩, .bool ((gi b_ v10).Flag)]⟩)] [0, 1, 5, 25] [(0, [], .slice g_a_.a a_.length g_a_.c), (1, [], .slice g_b_.a b_.length g_b_.c), (5, [], .int .i64 v10), (25, [], .bool x15)] [fun _ => oka g_a_.a ∧ 0 ≤ v10 ∧ v10 < ln a_, fun wz => V.atN (ab g_a_.a) (ao g_a_.a + (v10).toNat * 5) [.int .u8 ((gi a_ v10).Kind), .string ⟨⟨(gi a_ v10).Text⟩⟩, .int .i64 ((gi a_ v10).Num), .string ⟨⟨(gi a_ v10).Unit⟩⟩, .bool ((gi a_ v10).Flag)] 0 wz, fun _ => oka g_b_.a ∧ 0 ≤ v10 ∧ v10 < ln b_, fun wz => V.atN (ab g_b_.a) (ao g_b_.a + (v10).toNat * 5) [.int .u8 ((gi b_ v10).Kind), .string ⟨⟨(gi b_ v10).Text⟩⟩, .int .i64 ((gi b_ v10).Num), .string ⟨⟨(gi b_ v10).Unit⟩⟩, .bool ((gi b_ v10).Flag)] 0 wz] H12 (by kernel_rfl) (by kernel_rfl) (by subst hx15; kernel_rfl) ⟨((hS.im 0 rfl).oki ho13), ((hS.im 0 rfl).atA ho13 0 rfl), ((hS.im 1 rfl).oki ho14), ((hS.im 1 rfl).atA ho14 0 rfl), trivial⟩ fun _ wd16 H17 hb => ?_
   clear H12
   replace hS := hS.below hb
   clear hb
   refine w_if H17 rfl (fun hc => ?_) (fun hc => ?c22)
   case c22 =>
    replace hm := bF hc hm
    refine w_skip ?_
    refine w_reg [] [0, 1, 5] [(0, [], .slice g_a_.a a_.length g_a_.c), (1, [], .slice g_b_.a b_.length g_b_.c), (5, [], .int .i64 (w64 (v10 + 1)))] [] H17 (by kernel_rfl) trivial fun _ wd20 H21 hb => ?_
    clear H17
    replace hS := hS.below hb
    clear hb
    exact ⟨_, Nat.lt_succ_self _, w64 (v10 + 1), hm, FrG.keep (ks := [0, 1, 5]) H21 (by kernel_rfl), hS⟩
   replace hm := bT hc hm
   refine s_reg [] [4] [(4, [], .bool false)] [] H17 (by kernel_rfl) trivial fun _ wd18 H19 hb => ?_
   clear H17
   replace hS := hS.below hb
   clear hb
   refine w_ret ?_
   obtain rfl := someE hm
   have hm := hm_z7
   obtain rfl := someE hm
   exact retR1 H19 rfl rfl ⟨_, rfl, rfl, (hS.sel [] rfl)⟩
 ·rintro _ wd27 ⟨s_z7, hz, H, hS⟩
  subst hz
  replace hm := sumR hm_z7
  replace hS : SH M X w [] _ := hS.sel [] rfl
  refine s_reg [] [4] [(4, [], .bool true)] [] H (by kernel_rfl) trivial fun _ wd25 H26 hb => ?_
  clear H
  replace hS := hS.below hb
  clear hb
  refine w_ret ?_
  obtain rfl := someE hm
  exact retR1 H26 rfl rfl ⟨_, rfl, rfl, (hS.sel [] rfl)⟩
theorem r02_Same_ok {g_a_ : Gh} {g_b_ : Gh} (m : Nat) (a_ : List TToken) (b_ : List TToken) (r : Bool) (hm : r02_Same m a_ b_ = some r) (w : World) (hL : S0 F0 [Ent.im tyToken a_ g_a_, Ent.im tyToken b_ g_b_] w ∧ fpl [Ent.im tyToken a_ g_a_, Ent.im tyToken b_ g_b_] = []) : RetB Tryz.prog 13 ⟨[.slice g_a_.a a_.length g_a_.c, .slice g_b_.a b_.length g_b_.c]⟩ (.bool r) w := retB_of hL (Tryz.call13 _) (fun w' h => r02_Same_w F0 m   a_ b_ r hm w' h)

def law02_alive (m : Nat)  : Option (Bool) :=
  Option.bind (token_Tokens m [97, 46, 98, 123, 99, 111, 108, 111, 114, 58, 35, 102, 48, 48, 125]) fun y3 =>
  Option.bind (token_Spans m [97, 46, 98, 123, 99, 111, 108, 111, 114, 58, 35, 102, 48, 48, 125]) fun y10 =>
  lt (cond (cond (y3.2 != 0) true (y10.2 != 0)) true ((ln y10.1) != 8)) fun x17 =>
  chk (x17 = false → 0 ≤ (7 : Int) ∧ (7 : Int) < ln y10.1) <|
  lt (cond x17 true (!((((gi y10.1 (7 : Int)).e0) == 14) && ((((gi y10.1 (7 : Int)).e1) == 15) && true)))) fun x19 =>
  cond x19 (
  some false) (
  Option.bind (r02_Same m y3.1 ([(TToken.mk 1 [97] 0 [] false), (TToken.mk 9 [46] 0 [] false), (TToken.mk 1 [98] 0 [] false), (TToken.mk 23 [] 0 [] false), (TToken.mk 1 [99, 111, 108, 111, 114] 0 [] false), (TToken.mk 16 [] 0 [] false), (TToken.mk 4 [102, 48, 48] 0 [] true), (TToken.mk 24 [] 0 [] false)] : List TToken)) fun y32 =>
  Option.bind (cond y32 (law02_is m [45, 49, 46, 53, 101, 109] (TToken.mk 12 [] (-1500) [101, 109] false)) (some default)) fun y33 =>
  Option.bind (cond (cond y32 y33 false) (law02_is m [117, 114, 108, 40, 32, 120, 32, 41] (TToken.mk 7 [120] 0 [] false)) (some default)) fun y34 =>
  Option.bind (cond (cond (cond y32 y33 false) y34 false) (law02_is m [92, 54, 49, 32, 98] (TToken.mk 1 [97, 98] 0 [] false)) (some default)) fun y35 =>
  lt (cond (cond (cond y32 y33 false) y34 false) y35 false) fun x36 =>
  some x36)
theorem law02_alive_w  (M : Av) (m : Nat)  (r : Bool) (hm : law02_alive m = some r) (w : World) (hS : S0 M [Ent.gint 0] w) : Calls Tryz.prog 15 ⟨[]⟩ w (fun e w' => ∃ v, e = .returned v ∧ v = .bool r ∧ SH M (fpl [Ent.gint 0]) w [] w') := by
 rw [law02_alive] at hm
 have hS0 : SH M (fpl [Ent.gint 0]) w [Ent.gint 0] w := hS
 generalize hX : fpl [Ent.gint 0] = X at hS0 ⊢
 clear hS hX
 have hS := hS0
 clear hS0
 refine calls_entryP Tryz.func15 rfl Tryz.ntmps15 rfl fun _ H => ?_
 refine s_reg [] [] [] [] H (by kernel_rfl) trivial fun _ wd1 H2 hb => ?_
 clear H
 replace hS := hS.below hb
 clear hb
 refine w_seq ?_
 refine wl_start ?_
 obtain ⟨y3, hy3, hm⟩ := bindE hm
 have hd := hS.hand [0] [0] rfl rfl
 refine m_stp [7] [] H2 rfl rfl rfl rfl (o_callx H2 rfl rfl (token_Tokens_ok m _ _ hy3 _ _ hd)) (fun _ => rfl) fun _ wd6 v H7 hq => ?_
 clear H2 hd
 obtain ⟨g4, rfl, hq⟩ := hq
 replace hS : SH M X w [Ent.own 44 tyToken y3.1 g4, Ent.gint 0] _ := hS.join [0] [0] rfl rfl hq
 clear hq
 refine wl_batch 1 6 [] [1, 2] [(1, [], .slice g4.a y3.1.length g4.c), (2, [], .int .i64 y3.2)] [] H7 (by decide) (by kernel_rfl) trivial fun _ wd8 H9 hb => ?_
 clear H7
 replace hS := hS.below hb
 clear hb
 refine wl_end rfl ?_
 refine w_seq ?_
 refine wl_start ?_
 obtain ⟨y10, hy10, hm⟩ := bindE hm
 have hd := hS.hand [1] [0, 1] rfl rfl
 refine m_stp [11, 1, 2] [(1, [], .slice g4.a y3.1.length g4.c), (2, [], .int .i64 y3.2)] H9 rfl rfl rfl rfl (o_callx H9 rfl rfl (token_Spans_ok m _ _ hy10 _ _ hd)) (fun _ => rfl) fun _ wd13 v H14 hq => ?_
 clear H9 hd
 obtain ⟨g11, rfl, hq⟩ := hq
 replace hS : SH M X w [Ent.own 39 tyA2_int y10.1 g11, Ent.own 44 tyToken y3.1 g4, Ent.gint 0] _ := hS.join [1] [0, 1] rfl rfl hq
 clear hq
 refine wl_batch 1 6 [] [1, 2, 3, 4] [(1, [], .slice g4.a y3.1.length g4.c), (2, [], .int .i64 y3.2), (3, [], .slice g11.a y10.1.length g11.c), (4, [], .int .i64 y10.2)] [] H14 (by decide) (by kernel_rfl) trivial fun _ wd15 H16 hb => ?_
 clear H14
 replace hS := hS.below hb
 clear hb
 refine wl_end rfl ?_
 refine w_seq ?_
 obtain ⟨x17, hx17, hm⟩ := letE hm
 obtain ⟨ho18, hm⟩ := chkE hm
 obtain ⟨x19, hx19, hm⟩ := letE hm
 refine s_reg [(.agg ⟨[.int .i64 ((gi y10.1 (7 : Int)).e0), .int .i64 ((gi y10.1 (7 : Int)).e1)]⟩)] [1, 31] [(1, [], .slice g4.a y3.1.length g4.c), (31, [], .bool x19)] [fun _ => (x17 = false ∧ True → oka g11.a ∧ 0 ≤ (7 : Int) ∧ (7 : Int) < ln y10.1), fun wz => (x17 = false ∧ True → V.atN (ab g11.a) (ao g11.a + ((7 : Int)).toNat * 2) [.int .i64 ((gi y10.1 (7 : Int)).e0), .int .i64 ((gi y10.1 (7 : Int)).e1)] 0 wz)] H16 (by subst hx17 hx19; kernel_rfl) ⟨fun hg => (hS.osl 0 rfl).oki (ho18 hg.1), fun hg => (hS.osl 0 rfl).atA (ho18 hg.1) 0 rfl, trivial⟩ fun _ wd20 H21 hb => ?_
 clear H16
 replace hS := hS.below hb
 clear hb
 replace hS : SH M X w [Ent.own 44 tyToken y3.1 g4, Ent.gint 0] _ := hS.sel [1, 2] rfl
 refine w_if H21 rfl (fun hc => ?c39) (fun hc => ?_)
 case c39 =>
  replace hm := bT hc hm
  refine s_reg [] [0] [(0, [], .bool false)] [] H21 (by kernel_rfl) trivial fun _ wd22 H23 hb => ?_
  clear H21
  replace hS := hS.below hb
  clear hb
  replace hS : SH M X w [Ent.gint 0] _ := hS.sel [1] rfl
  refine w_ret ?_
  obtain rfl := someE hm
  exact retR1 H23 rfl rfl ⟨_, rfl, rfl, (hS.sel [] rfl)⟩
 replace hm := bF hc hm
 refine w_skip ?_
 refine w_seq ?_
 refine wl_start ?_
 refine wl_batch 0 8 [] [1, 32, 33, 34, 35, 36, 37, 38, 39] [(1, [], .slice g4.a y3.1.length g4.c), (32, [], .agg ⟨[.int .u8 1, .string ⟨⟨[97]⟩⟩, .int .i64 0, .string ⟨⟨[]⟩⟩, .bool false]⟩), (33, [], .agg ⟨[.int .u8 9, .string ⟨⟨[46]⟩⟩, .int .i64 0, .string ⟨⟨[]⟩⟩, .bool false]⟩), (34, [], .agg ⟨[.int .u8 1, .string ⟨⟨[98]⟩⟩, .int .i64 0, .string ⟨⟨[]⟩⟩, .bool false]⟩), (35, [], .agg ⟨[.int .u8 23, .string ⟨⟨[]⟩⟩, .int .i64 0, .string ⟨⟨[]⟩⟩, .bool false]⟩), (36, [], .agg ⟨[.int .u8 1, .string ⟨⟨[99, 111, 108, 111, 114]⟩⟩, .int .i64 0, .string ⟨⟨[]⟩⟩, .bool false]⟩), (37, [], .agg ⟨[.int .u8 16, .string ⟨⟨[]⟩⟩, .int .i64 0, .string ⟨⟨[]⟩⟩, .bool false]⟩), (38, [], .agg ⟨[.int .u8 4, .string ⟨⟨[102, 48, 48]⟩⟩, .int .i64 0, .string ⟨⟨[]⟩⟩, .bool true]⟩), (39, [], .agg ⟨[.int .u8 24, .string ⟨⟨[]⟩⟩, .int .i64 0, .string ⟨⟨[]⟩⟩, .bool false]⟩)] [] H21 (by decide) (by kernel_rfl) trivial fun _ wd24 H25 hb => ?_
 clear H21
 replace hS := hS.below hb
 clear hb
 have hd := hS.hand [] [0, 1] rfl rfl
 refine m_stp [40, 1] [(1, [], .slice g4.a y3.1.length g4.c)] H25 rfl rfl rfl rfl (o_lit (T := tyToken) (E := 44) (zv := .agg ⟨[.int .u8 0, .string ⟨⟨[]⟩⟩, .int .i64 0, .string ⟨⟨[]⟩⟩, .bool false]⟩) [.int .u8 1, .string ⟨⟨[97]⟩⟩, .int .i64 0, .string ⟨⟨[]⟩⟩, .bool false, .int .u8 9, .string ⟨⟨[46]⟩⟩, .int .i64 0, .string ⟨⟨[]⟩⟩, .bool false, .int .u8 1, .string ⟨⟨[98]⟩⟩, .int .i64 0, .string ⟨⟨[]⟩⟩, .bool false, .int .u8 23, .string ⟨⟨[]⟩⟩, .int .i64 0, .string ⟨⟨[]⟩⟩, .bool false, .int .u8 1, .string ⟨⟨[99, 111, 108, 111, 114]⟩⟩, .int .i64 0, .string ⟨⟨[]⟩⟩, .bool false, .int .u8 16, .string ⟨⟨[]⟩⟩, .int .i64 0, .string ⟨⟨[]⟩⟩, .bool false, .int .u8 4, .string ⟨⟨[102, 48, 48]⟩⟩, .int .i64 0, .string ⟨⟨[]⟩⟩, .bool true, .int .u8 24, .string ⟨⟨[]⟩⟩, .int .i64 0, .string ⟨⟨[]⟩⟩, .bool false] ([(TToken.mk 1 [97] 0 [] false), (TToken.mk 9 [46] 0 [] false), (TToken.mk 1 [98] 0 [] false), (TToken.mk 23 [] 0 [] false), (TToken.mk 1 [99, 111, 108, 111, 114] 0 [] false), (TToken.mk 16 [] 0 [] false), (TToken.mk 4 [102, 48, 48] 0 [] true), (TToken.mk 24 [] 0 [] false)] : List TToken) [gL [], gL [], gL [], gL [], gL [], gL [], gL [], gL []] _ H25 hd rfl (by kernel_rfl) (by kernel_rfl) (by kernel_rfl) (by kernel_rfl) (by kernel_rfl) (by kernel_rfl) (by kernel_rfl) rfl (InnL.cons trivial (InnL.cons trivial (InnL.cons trivial (InnL.cons trivial (InnL.cons trivial (InnL.cons trivial (InnL.cons trivial (InnL.cons trivial InnL.nil))))))))) (fun _ => rfl) fun _ wd28 v H29 hq => ?_
 clear H25 hd
 obtain ⟨g26, rfl, hq⟩ := hq
 replace hS : SH M X w [Ent.own 44 tyToken ([(TToken.mk 1 [97] 0 [] false), (TToken.mk 9 [46] 0 [] false), (TToken.mk 1 [98] 0 [] false), (TToken.mk 23 [] 0 [] false), (TToken.mk 1 [99, 111, 108, 111, 114] 0 [] false), (TToken.mk 16 [] 0 [] false), (TToken.mk 4 [102, 48, 48] 0 [] true), (TToken.mk 24 [] 0 [] false)] : List TToken) g26, Ent.own 44 tyToken y3.1 g4, Ent.gint 0] _ := hS.join [] [0, 1] rfl rfl hq
 clear hq
 refine wl_batch 9 10 [] [1, 5] [(1, [], .slice g4.a y3.1.length g4.c), (5, [], .slice g26.a 8 g26.c)] [] H29 (by decide) (by kernel_rfl) trivial fun _ wd30 H31 hb => ?_
 clear H29
 replace hS := hS.below hb
 clear hb
 refine wl_end rfl ?_
 obtain ⟨y32, hy32, hm⟩ := bindE hm
 obtain ⟨y33, hy33, hm⟩ := bindE hm
 obtain ⟨y34, hy34, hm⟩ := bindE hm
 obtain ⟨y35, hy35, hm⟩ := bindE hm
 obtain ⟨x36, hx36, hm⟩ := letE hm
 refine s_reg [(.bool y32), (.bool y33), (.bool y34), (.bool y35)] [0] [(0, [], .bool x36)] [fun wz => RetB Tryz.prog 13 ⟨[.slice g4.a y3.1.length g4.c, .slice g26.a 8 g26.c]⟩ (.bool y32) wz, fun wz => (y32 = true ∧ True → RetB Tryz.prog 22 ⟨[.string ⟨⟨[45, 49, 46, 53, 101, 109]⟩⟩, .agg ⟨[.int .u8 12, .string ⟨⟨[]⟩⟩, .int .i64 (-1500), .string ⟨⟨[101, 109]⟩⟩, .bool false]⟩]⟩ (.bool y33) wz), fun wz => ((cond y32 y33 false) = true ∧ True → RetB Tryz.prog 22 ⟨[.string ⟨⟨[117, 114, 108, 40, 32, 120, 32, 41]⟩⟩, .agg ⟨[.int .u8 7, .string ⟨⟨[120]⟩⟩, .int .i64 0, .string ⟨⟨[]⟩⟩, .bool false]⟩]⟩ (.bool y34) wz), fun wz => ((cond (cond y32 y33 false) y34 false) = true ∧ True → RetB Tryz.prog 22 ⟨[.string ⟨⟨[92, 54, 49, 32, 98]⟩⟩, .agg ⟨[.int .u8 1, .string ⟨⟨[97, 98]⟩⟩, .int .i64 0, .string ⟨⟨[]⟩⟩, .bool false]⟩]⟩ (.bool y35) wz)] H31 (by subst hx36; kernel_rfl) ⟨(r02_Same_ok (g_a_ := g4) (g_b_ := g26) m _ _ _ hy32 _ (s0im (s0im s0nil (hS.osl 0 rfl)) (hS.osl 1 rfl))), fun hg => law02_is_ok m _ _ _ (bT (hg.1) hy33) _ (s0gi s0nil (hS.gi 2 rfl)), fun hg => law02_is_ok m _ _ _ (bT (hg.1) hy34) _ (s0gi s0nil (hS.gi 2 rfl)), fun hg => law02_is_ok m _ _ _ (bT (hg.1) hy35) _ (s0gi s0nil (hS.gi 2 rfl)), trivial⟩ fun _ wd37 H38 hb => ?_
 clear H31
 replace hS := hS.below hb
 clear hb
 replace hS : SH M X w [Ent.gint 0] _ := hS.sel [2] rfl
 refine w_ret ?_
 obtain rfl := someE hm
 exact retR1 H38 rfl rfl ⟨_, rfl, rfl, (hS.sel [] rfl)⟩
theorem law02_alive_ok  (m : Nat)  (r : Bool) (hm : law02_alive m = some r) (w : World) (hL : S0 F0 [Ent.gint 0] w ∧ fpl [Ent.gint 0] = []) : RetB Tryz.prog 15 ⟨[]⟩ (.bool r) w := retB_of hL (Tryz.call15 _) (fun w' h => law02_alive_w F0 m    r hm w' h)

def law02_TokenNames_L1 (m : Nat)  : Nat → (List Int) → Int → Option (List Int)
  | 0, _, _ => none
  | kk + 1, v14, v16 =>
    cond (decide (v16 < 1501)) (
    chk (0 ≤ v16 ∧ v16 < ln v14) <|
    lt (setl v14 v16 44) fun q25 =>
    law02_TokenNames_L1 m  kk q25 (w64 (v16 + 1))) (
    some v14)
def law02_TokenNames (m : Nat)  : Option (Bool) :=
  chk (0 ≤ (1501 : Int) ∧ (1501 : Int) ≤ (1501 : Int) ∧ (1501 : Int) ≤ 1099511627776) <|
  lt (List.replicate ((1501 : Int)).toNat (0 : Int)) fun q4 =>
  Option.bind (
  law02_TokenNames_L1 m  m q4 0) fun (z11 : List Int) =>
  Option.bind (token_Tokens m (toB z11)) fun y33 =>
  chk (0 ≤ (0 : Int) ∧ (0 : Int) ≤ (1500 : Int) ∧ (1500 : Int) ≤ ln z11) <|
  lt (subl z11 (0 : Int) (1500 : Int)) fun q43 =>
  Option.bind (token_Tokens m (toB q43)) fun y50 =>
  chk (0 ≤ (4001 : Int) ∧ (4001 : Int) ≤ (4001 : Int) ∧ (4001 : Int) ≤ 1099511627776) <|
  lt (List.replicate ((4001 : Int)).toNat (0 : Int)) fun q58 =>
  Option.bind (token_Spans m (toB q58)) fun y65 =>
  Option.bind (token_Tokens m [47, 42, 32, 97, 32, 42, 47, 32, 47, 42, 42, 47, 47, 42, 32, 98]) fun y72 =>
  Option.bind (token_Value m [49, 120]) fun y79 =>
  Option.bind (token_Value m []) fun y82 =>
  lt (List.replicate ((4001 : Int)).toNat (0 : Int)) fun q85 =>
  Option.bind (token_Value m (toB q85)) fun y90 =>
  Option.bind (token_Name m [97, 32, 98]) fun y93 =>
  lt (List.replicate ((4001 : Int)).toNat (0 : Int)) fun q96 =>
  Option.bind (token_Name m (toB q96)) fun y101 =>
  Option.bind (
  Option.bind (law02_is m [34, 97, 39, 98, 34] (TToken.mk 5 [97, 39, 98] 0 [] false)) fun y111 =>
  Option.bind (cond y111 (law02_is m [39, 97, 92, 10, 98, 92] (TToken.mk 5 [97, 98] 0 [] false)) (some default)) fun y112 =>
  lt (cond y111 y112 false) fun x113 =>
  cond x113 (
  Option.bind (law02_kinds m [39, 97, 10, 98] ([6, 13, 1] : List Int)) fun y120 =>
  Option.bind (cond y120 (law02_is m [39] (TToken.mk 5 [] 0 [] false)) (some default)) fun y121 =>
  some (cond y120 y121 false)) (
  some false)) fun (z110 : Bool) =>
  Option.bind (
  Option.bind (law02_is m [45, 45, 120] (TToken.mk 1 [45, 45, 120] 0 [] false)) fun y133 =>
  Option.bind (cond y133 (law02_is m [45, 92, 45, 97] (TToken.mk 1 [45, 45, 97] 0 [] false)) (some default)) fun y134 =>
  Option.bind (cond (cond y133 y134 false) (law02_is m [92] (TToken.mk 1 (toB ([239, 191, 189] : List Int)) 0 [] false)) (some default)) fun y135 =>
  Option.bind (cond (cond (cond y133 y134 false) y135 false) (law02_is m [92, 48] (TToken.mk 1 (toB ([239, 191, 189] : List Int)) 0 [] false)) (some default)) fun y136 =>
  lt (cond (cond (cond y133 y134 false) y135 false) y136 false) fun x137 =>
  Option.bind (cond x137 (law02_is m [92, 100, 56, 48, 48, 32] (TToken.mk 1 (toB ([239, 191, 189] : List Int)) 0 [] false)) (some default)) fun y138 =>
  Option.bind (cond (cond x137 y138 false) (law02_is m [92, 49, 102, 54, 48, 48] (TToken.mk 1 [240, 159, 152, 128] 0 [] false)) (some default)) fun y139 =>
  Option.bind (cond (cond (cond x137 y138 false) y139 false) (law02_is m [0] (TToken.mk 1 (toB ([239, 191, 189] : List Int)) 0 [] false)) (some default)) fun y140 =>
  lt (cond (cond (cond x137 y138 false) y139 false) y140 false) fun x141 =>
  lt (x141) fun x142 =>
  cond x142 (
  Option.bind (law02_kinds m [92, 10] ([9, 13] : List Int)) fun y149 =>
  lt (y149) fun x150 =>
  cond x150 (
  Option.bind (law02_kinds m [92, 48, 48, 48, 48, 48, 52, 49] ([1] : List Int)) fun y157 =>
  some y157) (
  some false)) (
  some false)) fun (z132 : Bool) =>
  Option.bind (
  Option.bind (law02_is m [43, 46, 53] (TToken.mk 10 [] 500 [] false)) fun y173 =>
  Option.bind (cond y173 (law02_is m [49, 101, 51] (TToken.mk 10 [] 1000000 [] false)) (some default)) fun y174 =>
  Option.bind (cond (cond y173 y174 false) (law02_is m [49, 46, 50, 51, 52, 53] (TToken.mk 10 [] 1234 [] false)) (some default)) fun y175 =>
  Option.bind (cond (cond (cond y173 y174 false) y175 false) (law02_is m [45, 48, 46, 48, 48, 48, 57] (TToken.mk 10 [] 0 [] false)) (some default)) fun y176 =>
  lt (cond (cond (cond y173 y174 false) y175 false) y176 false) fun x177 =>
  Option.bind (cond x177 (law02_is m [49, 101, 45, 57] (TToken.mk 10 [] 0 [] false)) (some default)) fun y178 =>
  Option.bind (cond (cond x177 y178 false) (law02_is m [57, 57, 57, 57, 57, 57, 57, 57, 57, 57] (TToken.mk 10 [] 1000000000000 [] true)) (some default)) fun y179 =>
  Option.bind (cond (cond (cond x177 y178 false) y179 false) (law02_is m [53, 48, 37] (TToken.mk 11 [] 50000 [] false)) (some default)) fun y180 =>
  lt (cond (cond (cond x177 y178 false) y179 false) y180 false) fun x181 =>
  lt (x181) fun x182 =>
  cond x182 (
  Option.bind (law02_kinds m [49, 46] ([10, 9] : List Int)) fun y189 =>
  lt (y189) fun x190 =>
  cond x190 (
  Option.bind (law02_kinds m [43, 32, 49] ([9, 13, 10] : List Int)) fun y197 =>
  Option.bind (cond y197 (law02_is m [49, 101] (TToken.mk 12 [] 1000 [101] true)) (some default)) fun y198 =>
  Option.bind (cond (cond y197 y198 false) (law02_is m [49, 45, 45, 120] (TToken.mk 12 [] 1000 [45, 45, 120] true)) (some default)) fun y199 =>
  some (cond (cond y197 y198 false) y199 false)) (
  some false)) (
  some false)) fun (z172 : Bool) =>
  Option.bind (
  Option.bind (law02_kinds m [58, 59, 44, 91, 93, 40, 41, 123, 125] ([16, 17, 18, 19, 20, 21, 22, 23, 24] : List Int)) fun y235 =>
  lt (y235) fun x236 =>
  cond x236 (
  Option.bind (law02_kinds m [60, 33, 45, 45, 45, 45, 62] ([14, 15] : List Int)) fun y243 =>
  lt (y243) fun x244 =>
  cond x244 (
  Option.bind (law02_kinds m [45, 45, 62, 45, 45] ([15, 1] : List Int)) fun y251 =>
  lt (y251) fun x252 =>
  cond x252 (
  Option.bind (law02_kinds m [64, 109, 101, 100, 105, 97, 32, 64, 49] ([3, 13, 9, 10] : List Int)) fun y259 =>
  lt (y259) fun x260 =>
  cond x260 (
  Option.bind (law02_kinds m [35, 49, 32, 35] ([4, 13, 9] : List Int)) fun y267 =>
  Option.bind (cond y267 (law02_is m [35, 49] (TToken.mk 4 [49] 0 [] false)) (some default)) fun y268 =>
  some (cond y267 y268 false)) (
  some false)) (
  some false)) (
  some false)) (
  some false)) fun (z230 : Bool) =>
  Option.bind (
  Option.bind (law02_is m [85, 82, 76, 40, 97, 92, 41, 98] (TToken.mk 7 [97, 41, 98] 0 [] false)) fun y328 =>
  lt (y328) fun x329 =>
  cond x329 (
  Option.bind (law02_kinds m [117, 114, 108, 40, 32, 39, 120, 39, 41] ([2, 13, 5, 22] : List Int)) fun y336 =>
  Option.bind (cond y336 (law02_is m [117, 114, 108, 40, 97, 32, 98, 92, 41, 41] (TToken.mk 8 [] 0 [] false)) (some default)) fun y337 =>
  Option.bind (cond (cond y336 y337 false) (law02_is m [117, 114, 108, 40] (TToken.mk 7 [] 0 [] false)) (some default)) fun y338 =>
  lt (cond (cond y336 y337 false) y338 false) fun x339 =>
  cond x339 (
  Option.bind (law02_kinds m [117, 114, 108, 40, 97, 34, 98, 41, 99] ([8, 1] : List Int)) fun y346 =>
  lt (y346) fun x347 =>
  cond x347 (
  Option.bind (law02_kinds m [117, 114, 108, 115, 40] ([2] : List Int)) fun y354 =>
  some y354) (
  some false)) (
  some false)) (
  some false)) fun (z327 : Bool) =>
  lt (cond (cond (y33.2 == 4) (y50.2 == 0) false) (y65.2 == 28) false) fun x389 =>
  lt (cond (cond x389 (y72.2 == 0) false) ((ln y72.1) == 1) false) fun x390 =>
  lt (cond (cond x390 (y79.2.2 == 12) false) (y82.2.2 == 12) false) fun x391 =>
  lt (cond (cond x391 (y90.2.2 == 28) false) (y93.2 == 12) false) fun x392 =>
  lt (cond (cond x392 (y101.2 == 28) false) z110 false) fun x393 =>
  lt (cond (cond (cond x393 z132 false) z172 false) z230 false) fun x394 =>
  Option.bind (cond (cond x394 z327 false) (law02_alive m) (some default)) fun y395 =>
  some (cond (cond x394 z327 false) y395 false)
theorem law02_TokenNames_w  (M : Av) (m : Nat)  (r : Bool) (hm : law02_TokenNames m = some r) (w : World) (hS : S0 M [Ent.gint 0] w) : Calls Tryz.prog 8 ⟨[]⟩ w (fun e w' => ∃ v, e = .returned v ∧ v = .bool r ∧ SH M (fpl [Ent.gint 0]) w [] w') := by
 rw [law02_TokenNames] at hm
 have hS0 : SH M (fpl [Ent.gint 0]) w [Ent.gint 0] w := hS
 generalize hX : fpl [Ent.gint 0] = X at hS0 ⊢
 clear hS hX
 have hS := hS0
 clear hS0
 refine calls_entryP Tryz.func8 rfl Tryz.ntmps8 rfl fun _ H => ?_
 refine s_reg [] [] [] [] H (by kernel_rfl) trivial fun _ wd1 H2 hb => ?_
 clear H
 replace hS := hS.below hb
 clear hb
 refine w_seq ?_
 refine wl_start ?_
 obtain ⟨ho3, hm⟩ := chkE hm
 obtain ⟨q4, hq4, hm⟩ := letE hm
 have hd := hS.hand [] [0] rfl rfl
 refine m_stp [30] [] H2 rfl rfl rfl rfl (o_make (T := (tI .u8)) (E := 5) (zv := .int .u8 0) (0 : Int) H2 hd rfl rfl (by kernel_rfl) (by kernel_rfl) rfl rfl (fun _ _ => trivial) ho3) (fun _ => rfl) fun _ wd5 v H6 hq => ?_
 clear H2 hd
 obtain ⟨g7, rfl, hq⟩ := hq
 rw [← hq4] at hq
 rw [← hq4] at H6
 replace hS : SH M X w [Ent.own 5 (tI .u8) q4 g7, Ent.gint 0] _ := hS.join [] [0] rfl rfl hq
 clear hq
 refine wl_batch 1 2 [] [1] [(1, [], .slice g7.a q4.length g7.c)] [] H6 (by decide) (by kernel_rfl) trivial fun _ wd9 H10 hb => ?_
 clear H6
 replace hS := hS.below hb
 clear hb
 refine wl_end rfl ?_
 obtain ⟨z11, hz, hm⟩ := bindE hm
 refine w_cut (fun a' w' => ∃ (g30 : Gh), Fr 287 [(1, [], .slice g30.a z11.length g30.c)] a' ∧ SH M X w [Ent.own 5 (tI .u8) z11 g30, Ent.gint 0] w') ?_ ?_
 ·replace hm := hz
  refine s_reg [] [1, 2] [(1, [], .slice g7.a q4.length g7.c), (2, [], .int .i64 0)] [] H10 (by kernel_rfl) trivial fun _ wd12 H13 hb => ?_
  clear H10
  replace hS := hS.below hb
  clear hb
  refine w_block ?_
  refine w_loop (fun kk a' w' => ∃ (v14 : List Int) (v16 : Int) (g15 : Gh), law02_TokenNames_L1 m  kk v14 v16 = some _ ∧ Fr 287 [(1, [], .slice g15.a v14.length g15.c), (2, [], .int .i64 v16)] a' ∧ SH M X w [Ent.own 5 (tI .u8) v14 g15, Ent.gint 0] w') ⟨_, q4, 0, g7, hm, FrG.keep (ks := [1, 2]) H13 (by kernel_rfl), hS⟩ ?_
  clear hm H13 hS
  rintro kk _ wd29 ⟨v14, v16, g15, hm, H, hS⟩
  cases kk with
  | zero => exact noneE hm
  | succ kk =>
   rw [law02_TokenNames_L1] at hm
   refine w_seq ?_
   refine s_reg [] [1, 2, 32] [(1, [], .slice g15.a v14.length g15.c), (2, [], .int .i64 v16), (32, [], .bool (decide (v16 < 1501)))] [] H (by kernel_rfl) trivial fun _ wd17 H18 hb => ?_
   clear H
   replace hS := hS.below hb
   clear hb
   refine w_if H18 rfl (fun hc => ?_) (fun hc => ?c28)
   case c28 =>
    replace hm := bF hc hm
    refine w_exit rfl ?_
    obtain rfl := someE hm
    exact ⟨g15, FrG.keep (ks := [1]) H18 (by kernel_rfl), hS⟩
   replace hm := bT hc hm
   refine w_skip ?_
   refine w_seq ?_
   refine w_block ?_
   refine wl_start ?_
   obtain ⟨ho19, hm⟩ := chkE hm
   refine wl_batch 0 3 [] [1, 2, 37] [(1, [], .slice g15.a v14.length g15.c), (2, [], .int .i64 v16), (37, [], .pointer (some ⟨ab g15.a, ao g15.a + (v16).toNat * 1, none⟩))] [fun _ => oka g15.a ∧ 0 ≤ v16 ∧ v16 < ln v14] H18 (by decide) (by kernel_rfl) ⟨((hS.osl 0 rfl).oki ho19), trivial⟩ fun _ wd20 H21 hb => ?_
   clear H18
   replace hS := hS.below hb
   clear hb
   have hd := hS.hand [0] [1] rfl rfl
   refine m_stp0 [1, 2] [(1, [], .slice g15.a v14.length g15.c), (2, [], .int .i64 v16)] H21 rfl rfl rfl (o_estore (T := (tI .u8)) (g := g15) (q := v14) (ix := v16) (off := 0) 44 (gL []) H21 hd rfl rfl rfl rfl (by kernel_rfl) rfl rfl ho19 rfl trivial rfl) rfl fun _ wd22 H23 hq => ?_
   clear H21 hd
   obtain ⟨_, hq⟩ := hq
   obtain ⟨s24, hq⟩ := hq
   obtain ⟨q25, hq25, hm⟩ := letE hm
   rw [← hq25] at hq
   have hn : v14.length = q25.length := by rw [hq25, setl_len]
   first | rw [hn] at H23 | skip
   clear hn
   replace hS : SH M X w [Ent.own 5 (tI .u8) q25 (Gh.mk g15.a g15.c s24), Ent.gint 0] _ := hS.join [0] [1] rfl rfl hq
   clear hq
   refine wl_end rfl ?_
   refine w_reg [] [1, 2] [(1, [], .slice (Gh.mk g15.a g15.c s24).a q25.length (Gh.mk g15.a g15.c s24).c), (2, [], .int .i64 (w64 (v16 + 1)))] [] H23 (by kernel_rfl) trivial fun _ wd26 H27 hb => ?_
   clear H23
   replace hS := hS.below hb
   clear hb
   exact ⟨_, Nat.lt_succ_self _, q25, w64 (v16 + 1), (Gh.mk g15.a g15.c s24), hm, FrG.keep (ks := [1, 2]) H27 (by kernel_rfl), hS⟩
 ·rintro _ wd403 ⟨g30, H, hS⟩
  refine w_seq ?_
  refine wl_start ?_
  refine wl_batch 0 2 [(.string ⟨⟨toB z11⟩⟩)] [1, 40] [(1, [], .slice g30.a z11.length g30.c), (40, [], .string ⟨⟨toB z11⟩⟩)] [fun wz => ∀ w', Below wz.heap.size wz w' → (convert 49 9 (.slice g30.a z11.length g30.c)).run Tryz.prog w' = .ok (.string ⟨⟨toB z11⟩⟩) w'] H (by decide) (by kernel_rfl) ⟨(conv_slG (E := 5) (by kernel_rfl) (by kernel_rfl) (by kernel_rfl) (hS.osl 0 rfl)), trivial⟩ fun _ wd31 H32 hb => ?_
  clear H
  replace hS := hS.below hb
  clear hb
  obtain ⟨y33, hy33, hm⟩ := bindE hm
  have hd := hS.hand [1] [0, 1] rfl rfl
  refine m_stp [41, 1] [(1, [], .slice g30.a z11.length g30.c)] H32 rfl rfl rfl rfl (o_callx H32 rfl rfl (token_Tokens_ok m _ _ hy33 _ _ hd)) (fun _ => rfl) fun _ wd36 v H37 hq => ?_
  clear H32 hd
  obtain ⟨g34, rfl, hq⟩ := hq
  replace hS : SH M X w [Ent.own 44 tyToken y33.1 g34, Ent.own 5 (tI .u8) z11 g30, Ent.gint 0] _ := hS.join [1] [0, 1] rfl rfl hq
  clear hq
  refine wl_batch 3 8 [] [1, 4] [(1, [], .slice g30.a z11.length g30.c), (4, [], .int .i64 y33.2)] [] H37 (by decide) (by kernel_rfl) trivial fun _ wd38 H39 hb => ?_
  clear H37
  replace hS := hS.below hb
  clear hb
  refine wl_end rfl ?_
  replace hS : SH M X w [Ent.own 5 (tI .u8) z11 g30, Ent.gint 0] _ := hS.sel [1, 2] rfl
  refine w_seq ?_
  refine wl_start ?_
  refine wl_batch 0 1 [] [4, 45] [(4, [], .int .i64 y33.2), (45, [], .slice g30.a z11.length g30.c)] [] H39 (by decide) (by kernel_rfl) trivial fun _ wd40 H41 hb => ?_
  clear H39
  replace hS := hS.below hb
  clear hb
  replace hS : SH M X w [Ent.im (tI .u8) z11 g30, Ent.gint 0] _ := SH.frz1 (hS.sel [0, 1] rfl)
  obtain ⟨ho42, hm⟩ := chkE hm
  obtain ⟨q43, hq43, hm⟩ := letE hm
  have hd := hS.hand [0] [0, 1] rfl rfl
  refine m_stp [46, 4] [(4, [], .int .i64 y33.2)] H41 rfl rfl rfl rfl (o_sub (T := (tI .u8)) (E := 5) (g := g30) (q := z11) (0 : Int) (1500 : Int) .none (.some (.int .i64 1500)) H41 hd (hd.im 0 rfl) rfl rfl rfl rfl rfl rfl (.inl ⟨rfl, rfl⟩) (.inr ⟨_, rfl⟩) (by kernel_rfl) (by kernel_rfl) ho42) (fun _ => rfl) fun _ wd44 v H45 hq => ?_
  clear H41 hd
  obtain ⟨g46, rfl, hq⟩ := hq
  rw [← hq43] at hq
  rw [← hq43] at H45
  replace hS : SH M X w [Ent.im (tI .u8) q43 g46, Ent.im (tI .u8) z11 g30, Ent.im (tI .u8) z11 g30, Ent.gint 0] _ := hS.join [0] [0, 1] rfl rfl hq
  clear hq
  refine wl_batch 2 3 [(.string ⟨⟨toB q43⟩⟩)] [4, 47] [(4, [], .int .i64 y33.2), (47, [], .string ⟨⟨toB q43⟩⟩)] [fun wz => ∀ w', Below wz.heap.size wz w' → (convert 49 9 (.slice g46.a q43.length g46.c)).run Tryz.prog w' = .ok (.string ⟨⟨toB q43⟩⟩) w'] H45 (by decide) (by kernel_rfl) ⟨(conv_slG (E := 5) (by kernel_rfl) (by kernel_rfl) (by kernel_rfl) (hS.im 0 rfl)), trivial⟩ fun _ wd48 H49 hb => ?_
  clear H45
  replace hS := hS.below hb
  clear hb
  obtain ⟨y50, hy50, hm⟩ := bindE hm
  have hd := hS.hand [3] [0, 1, 2, 3] rfl rfl
  refine m_stp [48, 4] [(4, [], .int .i64 y33.2)] H49 rfl rfl rfl rfl (o_callx H49 rfl rfl (token_Tokens_ok m _ _ hy50 _ _ hd)) (fun _ => rfl) fun _ wd53 v H54 hq => ?_
  clear H49 hd
  obtain ⟨g51, rfl, hq⟩ := hq
  replace hS : SH M X w [Ent.own 44 tyToken y50.1 g51, Ent.im (tI .u8) q43 g46, Ent.im (tI .u8) z11 g30, Ent.im (tI .u8) z11 g30, Ent.gint 0] _ := hS.join [3] [0, 1, 2, 3] rfl rfl hq
  clear hq
  refine wl_batch 4 9 [] [4, 6] [(4, [], .int .i64 y33.2), (6, [], .int .i64 y50.2)] [] H54 (by decide) (by kernel_rfl) trivial fun _ wd55 H56 hb => ?_
  clear H54
  replace hS := hS.below hb
  clear hb
  refine wl_end rfl ?_
  replace hS : SH M X w [Ent.gint 0] _ := hS.sel [4] rfl
  refine w_seq ?_
  refine wl_start ?_
  obtain ⟨ho57, hm⟩ := chkE hm
  obtain ⟨q58, hq58, hm⟩ := letE hm
  have hd := hS.hand [] [0] rfl rfl
  refine m_stp [52, 4, 6] [(4, [], .int .i64 y33.2), (6, [], .int .i64 y50.2)] H56 rfl rfl rfl rfl (o_make (T := (tI .u8)) (E := 5) (zv := .int .u8 0) (0 : Int) H56 hd rfl rfl (by kernel_rfl) (by kernel_rfl) rfl rfl (fun _ _ => trivial) ho57) (fun _ => rfl) fun _ wd59 v H60 hq => ?_
  clear H56 hd
  obtain ⟨g61, rfl, hq⟩ := hq
  rw [← hq58] at hq
  rw [← hq58] at H60
  replace hS : SH M X w [Ent.own 5 (tI .u8) q58 g61, Ent.gint 0] _ := hS.join [] [0] rfl rfl hq
  clear hq
  refine wl_batch 1 2 [(.string ⟨⟨toB q58⟩⟩)] [4, 6, 53] [(4, [], .int .i64 y33.2), (6, [], .int .i64 y50.2), (53, [], .string ⟨⟨toB q58⟩⟩)] [fun wz => ∀ w', Below wz.heap.size wz w' → (convert 49 9 (.slice g61.a q58.length g61.c)).run Tryz.prog w' = .ok (.string ⟨⟨toB q58⟩⟩) w'] H60 (by decide) (by kernel_rfl) ⟨(conv_slG (E := 5) (by kernel_rfl) (by kernel_rfl) (by kernel_rfl) (hS.osl 0 rfl)), trivial⟩ fun _ wd63 H64 hb => ?_
  clear H60
  replace hS := hS.below hb
  clear hb
  obtain ⟨y65, hy65, hm⟩ := bindE hm
  have hd := hS.hand [1] [0, 1] rfl rfl
  refine m_stp [54, 4, 6] [(4, [], .int .i64 y33.2), (6, [], .int .i64 y50.2)] H64 rfl rfl rfl rfl (o_callx H64 rfl rfl (token_Spans_ok m _ _ hy65 _ _ hd)) (fun _ => rfl) fun _ wd68 v H69 hq => ?_
  clear H64 hd
  obtain ⟨g66, rfl, hq⟩ := hq
  replace hS : SH M X w [Ent.own 39 tyA2_int y65.1 g66, Ent.own 5 (tI .u8) q58 g61, Ent.gint 0] _ := hS.join [1] [0, 1] rfl rfl hq
  clear hq
  refine wl_batch 3 8 [] [4, 6, 8] [(4, [], .int .i64 y33.2), (6, [], .int .i64 y50.2), (8, [], .int .i64 y65.2)] [] H69 (by decide) (by kernel_rfl) trivial fun _ wd70 H71 hb => ?_
  clear H69
  replace hS := hS.below hb
  clear hb
  refine wl_end rfl ?_
  replace hS : SH M X w [Ent.gint 0] _ := hS.sel [2] rfl
  refine w_seq ?_
  refine wl_start ?_
  obtain ⟨y72, hy72, hm⟩ := bindE hm
  have hd := hS.hand [0] [0] rfl rfl
  refine m_stp [58, 4, 6, 8] [(4, [], .int .i64 y33.2), (6, [], .int .i64 y50.2), (8, [], .int .i64 y65.2)] H71 rfl rfl rfl rfl (o_callx H71 rfl rfl (token_Tokens_ok m _ _ hy72 _ _ hd)) (fun _ => rfl) fun _ wd75 v H76 hq => ?_
  clear H71 hd
  obtain ⟨g73, rfl, hq⟩ := hq
  replace hS : SH M X w [Ent.own 44 tyToken y72.1 g73, Ent.gint 0] _ := hS.join [0] [0] rfl rfl hq
  clear hq
  refine wl_batch 1 6 [] [4, 6, 8, 9, 10] [(4, [], .int .i64 y33.2), (6, [], .int .i64 y50.2), (8, [], .int .i64 y65.2), (9, [], .slice g73.a y72.1.length g73.c), (10, [], .int .i64 y72.2)] [] H76 (by decide) (by kernel_rfl) trivial fun _ wd77 H78 hb => ?_
  clear H76
  replace hS := hS.below hb
  clear hb
  refine wl_end rfl ?_
  obtain ⟨y79, hy79, hm⟩ := bindE hm
  refine s_reg [(.tuple ⟨[.int .i64 y79.1, .bool y79.2.1, .int .i64 y79.2.2]⟩)] [4, 6, 8, 9, 10, 13] [(4, [], .int .i64 y33.2), (6, [], .int .i64 y50.2), (8, [], .int .i64 y65.2), (9, [], .slice g73.a y72.1.length g73.c), (10, [], .int .i64 y72.2), (13, [], .int .i64 y79.2.2)] [fun wz => RetB Tryz.prog 20 ⟨[.string ⟨⟨[49, 120]⟩⟩]⟩ (.tuple ⟨[.int .i64 y79.1, .bool y79.2.1, .int .i64 y79.2.2]⟩) wz] H78 (by kernel_rfl) ⟨((token_Value_ok m _ _ hy79).b), trivial⟩ fun _ wd80 H81 hb => ?_
  clear H78
  replace hS := hS.below hb
  clear hb
  obtain ⟨y82, hy82, hm⟩ := bindE hm
  refine s_reg [(.tuple ⟨[.int .i64 y82.1, .bool y82.2.1, .int .i64 y82.2.2]⟩)] [4, 6, 8, 9, 10, 13, 16] [(4, [], .int .i64 y33.2), (6, [], .int .i64 y50.2), (8, [], .int .i64 y65.2), (9, [], .slice g73.a y72.1.length g73.c), (10, [], .int .i64 y72.2), (13, [], .int .i64 y79.2.2), (16, [], .int .i64 y82.2.2)] [fun wz => RetB Tryz.prog 20 ⟨[.string ⟨⟨[]⟩⟩]⟩ (.tuple ⟨[.int .i64 y82.1, .bool y82.2.1, .int .i64 y82.2.2]⟩) wz] H81 (by kernel_rfl) ⟨((token_Value_ok m _ _ hy82).b), trivial⟩ fun _ wd83 H84 hb => ?_
  clear H81
  replace hS := hS.below hb
  clear hb
  refine w_seq ?_
  refine wl_start ?_
  obtain ⟨q85, hq85, hm⟩ := letE hm
  have hd := hS.hand [] [0, 1] rfl rfl
  refine m_stp [72, 4, 6, 8, 9, 10, 13, 16] [(4, [], .int .i64 y33.2), (6, [], .int .i64 y50.2), (8, [], .int .i64 y65.2), (9, [], .slice g73.a y72.1.length g73.c), (10, [], .int .i64 y72.2), (13, [], .int .i64 y79.2.2), (16, [], .int .i64 y82.2.2)] H84 rfl rfl rfl rfl (o_make (T := (tI .u8)) (E := 5) (zv := .int .u8 0) (0 : Int) H84 hd rfl rfl (by kernel_rfl) (by kernel_rfl) rfl rfl (fun _ _ => trivial) ho57) (fun _ => rfl) fun _ wd86 v H87 hq => ?_
  clear H84 hd
  obtain ⟨g88, rfl, hq⟩ := hq
  rw [← hq85] at hq
  rw [← hq85] at H87
  replace hS : SH M X w [Ent.own 5 (tI .u8) q85 g88, Ent.own 44 tyToken y72.1 g73, Ent.gint 0] _ := hS.join [] [0, 1] rfl rfl hq
  clear hq
  obtain ⟨y90, hy90, hm⟩ := bindE hm
  refine wl_batch 1 10 [(.string ⟨⟨toB q85⟩⟩), (.tuple ⟨[.int .i64 y90.1, .bool y90.2.1, .int .i64 y90.2.2]⟩)] [4, 6, 8, 9, 10, 13, 16, 19] [(4, [], .int .i64 y33.2), (6, [], .int .i64 y50.2), (8, [], .int .i64 y65.2), (9, [], .slice g73.a y72.1.length g73.c), (10, [], .int .i64 y72.2), (13, [], .int .i64 y79.2.2), (16, [], .int .i64 y82.2.2), (19, [], .int .i64 y90.2.2)] [fun wz => ∀ w', Below wz.heap.size wz w' → (convert 49 9 (.slice g88.a q85.length g88.c)).run Tryz.prog w' = .ok (.string ⟨⟨toB q85⟩⟩) w', fun wz => RetB Tryz.prog 20 ⟨[.string ⟨⟨toB q85⟩⟩]⟩ (.tuple ⟨[.int .i64 y90.1, .bool y90.2.1, .int .i64 y90.2.2]⟩) wz] H87 (by decide) (by kernel_rfl) ⟨(conv_slG (E := 5) (by kernel_rfl) (by kernel_rfl) (by kernel_rfl) (hS.osl 0 rfl)), ((token_Value_ok m _ _ hy90).b), trivial⟩ fun _ wd91 H92 hb => ?_
  clear H87
  replace hS := hS.below hb
  clear hb
  refine wl_end rfl ?_
  replace hS : SH M X w [Ent.own 44 tyToken y72.1 g73, Ent.gint 0] _ := hS.sel [1, 2] rfl
  obtain ⟨y93, hy93, hm⟩ := bindE hm
  refine s_reg [(.tuple ⟨[.string ⟨⟨y93.1⟩⟩, .int .i64 y93.2]⟩)] [4, 6, 8, 9, 10, 13, 16, 19, 21] [(4, [], .int .i64 y33.2), (6, [], .int .i64 y50.2), (8, [], .int .i64 y65.2), (9, [], .slice g73.a y72.1.length g73.c), (10, [], .int .i64 y72.2), (13, [], .int .i64 y79.2.2), (16, [], .int .i64 y82.2.2), (19, [], .int .i64 y90.2.2), (21, [], .int .i64 y93.2)] [fun wz => RetB Tryz.prog 21 ⟨[.string ⟨⟨[97, 32, 98]⟩⟩]⟩ (.tuple ⟨[.string ⟨⟨y93.1⟩⟩, .int .i64 y93.2]⟩) wz] H92 (by kernel_rfl) ⟨((token_Name_ok m _ _ hy93).b), trivial⟩ fun _ wd94 H95 hb => ?_
  clear H92
  replace hS := hS.below hb
  clear hb
  refine w_seq ?_
  refine wl_start ?_
  obtain ⟨q96, hq96, hm⟩ := letE hm
  have hd := hS.hand [] [0, 1] rfl rfl
  refine m_stp [83, 4, 6, 8, 9, 10, 13, 16, 19, 21] [(4, [], .int .i64 y33.2), (6, [], .int .i64 y50.2), (8, [], .int .i64 y65.2), (9, [], .slice g73.a y72.1.length g73.c), (10, [], .int .i64 y72.2), (13, [], .int .i64 y79.2.2), (16, [], .int .i64 y82.2.2), (19, [], .int .i64 y90.2.2), (21, [], .int .i64 y93.2)] H95 rfl rfl rfl rfl (o_make (T := (tI .u8)) (E := 5) (zv := .int .u8 0) (0 : Int) H95 hd rfl rfl (by kernel_rfl) (by kernel_rfl) rfl rfl (fun _ _ => trivial) ho57) (fun _ => rfl) fun _ wd97 v H98 hq => ?_
  clear H95 hd
  obtain ⟨g99, rfl, hq⟩ := hq
  rw [← hq96] at hq
  rw [← hq96] at H98
  replace hS : SH M X w [Ent.own 5 (tI .u8) q96 g99, Ent.own 44 tyToken y72.1 g73, Ent.gint 0] _ := hS.join [] [0, 1] rfl rfl hq
  clear hq
  obtain ⟨y101, hy101, hm⟩ := bindE hm
  refine wl_batch 1 8 [(.string ⟨⟨toB q96⟩⟩), (.tuple ⟨[.string ⟨⟨y101.1⟩⟩, .int .i64 y101.2]⟩)] [4, 6, 8, 9, 10, 13, 16, 19, 21, 23] [(4, [], .int .i64 y33.2), (6, [], .int .i64 y50.2), (8, [], .int .i64 y65.2), (9, [], .slice g73.a y72.1.length g73.c), (10, [], .int .i64 y72.2), (13, [], .int .i64 y79.2.2), (16, [], .int .i64 y82.2.2), (19, [], .int .i64 y90.2.2), (21, [], .int .i64 y93.2), (23, [], .int .i64 y101.2)] [fun wz => ∀ w', Below wz.heap.size wz w' → (convert 49 9 (.slice g99.a q96.length g99.c)).run Tryz.prog w' = .ok (.string ⟨⟨toB q96⟩⟩) w', fun wz => RetB Tryz.prog 21 ⟨[.string ⟨⟨toB q96⟩⟩]⟩ (.tuple ⟨[.string ⟨⟨y101.1⟩⟩, .int .i64 y101.2]⟩) wz] H98 (by decide) (by kernel_rfl) ⟨(conv_slG (E := 5) (by kernel_rfl) (by kernel_rfl) (by kernel_rfl) (hS.osl 0 rfl)), ((token_Name_ok m _ _ hy101).b), trivial⟩ fun _ wd102 H103 hb => ?_
  clear H98
  replace hS := hS.below hb
  clear hb
  refine wl_end rfl ?_
  replace hS : SH M X w [Ent.own 44 tyToken y72.1 g73, Ent.gint 0] _ := hS.sel [1, 2] rfl
  refine w_seq ?_
  refine wl_start ?_
  have hd := hS.hand [] [0, 1] rfl rfl
  refine m_stp [88, 4, 6, 8, 9, 10, 13, 16, 19, 21, 23] [(4, [], .int .i64 y33.2), (6, [], .int .i64 y50.2), (8, [], .int .i64 y65.2), (9, [], .slice g73.a y72.1.length g73.c), (10, [], .int .i64 y72.2), (13, [], .int .i64 y79.2.2), (16, [], .int .i64 y82.2.2), (19, [], .int .i64 y90.2.2), (21, [], .int .i64 y93.2), (23, [], .int .i64 y101.2)] H103 rfl rfl rfl rfl (o_lit (T := (tI .u8)) (E := 5) (zv := .int .u8 0) [.int .u8 239, .int .u8 191, .int .u8 189] ([239, 191, 189] : List Int) [gL [], gL [], gL []] _ H103 hd rfl (by kernel_rfl) (by kernel_rfl) (by kernel_rfl) (by kernel_rfl) (by kernel_rfl) (by kernel_rfl) (by kernel_rfl) rfl (InnL.cons trivial (InnL.cons trivial (InnL.cons trivial InnL.nil)))) (fun _ => rfl) fun _ wd106 v H107 hq => ?_
  clear H103 hd
  obtain ⟨g104, rfl, hq⟩ := hq
  replace hS : SH M X w [Ent.own 5 (tI .u8) ([239, 191, 189] : List Int) g104, Ent.own 44 tyToken y72.1 g73, Ent.gint 0] _ := hS.join [] [0, 1] rfl rfl hq
  clear hq
  refine wl_batch 1 3 [(.string ⟨⟨toB ([239, 191, 189] : List Int)⟩⟩)] [4, 6, 8, 9, 10, 13, 16, 19, 21, 23, 24] [(4, [], .int .i64 y33.2), (6, [], .int .i64 y50.2), (8, [], .int .i64 y65.2), (9, [], .slice g73.a y72.1.length g73.c), (10, [], .int .i64 y72.2), (13, [], .int .i64 y79.2.2), (16, [], .int .i64 y82.2.2), (19, [], .int .i64 y90.2.2), (21, [], .int .i64 y93.2), (23, [], .int .i64 y101.2), (24, [], .string ⟨⟨toB ([239, 191, 189] : List Int)⟩⟩)] [fun wz => ∀ w', Below wz.heap.size wz w' → (convert 49 9 (.slice g104.a 3 g104.c)).run Tryz.prog w' = .ok (.string ⟨⟨toB ([239, 191, 189] : List Int)⟩⟩) w'] H107 (by decide) (by kernel_rfl) ⟨(conv_slG (E := 5) (by kernel_rfl) (by kernel_rfl) (by kernel_rfl) (hS.osl 0 rfl)), trivial⟩ fun _ wd108 H109 hb => ?_
  clear H107
  replace hS := hS.below hb
  clear hb
  refine wl_end rfl ?_
  replace hS : SH M X w [Ent.own 44 tyToken y72.1 g73, Ent.gint 0] _ := hS.sel [1, 2] rfl
  obtain ⟨z110, hz, hm⟩ := bindE hm
  refine w_cut (fun a' w' => Fr 287 [(4, [], .int .i64 y33.2), (6, [], .int .i64 y50.2), (8, [], .int .i64 y65.2), (9, [], .slice g73.a y72.1.length g73.c), (10, [], .int .i64 y72.2), (13, [], .int .i64 y79.2.2), (16, [], .int .i64 y82.2.2), (19, [], .int .i64 y90.2.2), (21, [], .int .i64 y93.2), (23, [], .int .i64 y101.2), (24, [], .string ⟨⟨toB ([239, 191, 189] : List Int)⟩⟩), (25, [], .bool z110)] a' ∧ SH M X w [Ent.own 44 tyToken y72.1 g73, Ent.gint 0] w') ?_ ?_
  ·replace hm := hz
   refine wl_start ?_
   obtain ⟨y111, hy111, hm⟩ := bindE hm
   obtain ⟨y112, hy112, hm⟩ := bindE hm
   obtain ⟨x113, hx113, hm⟩ := letE hm
   refine wl_batch 0 7 [(.bool y111), (.bool y112)] [4, 6, 8, 9, 10, 13, 16, 19, 21, 23, 24, 96] [(4, [], .int .i64 y33.2), (6, [], .int .i64 y50.2), (8, [], .int .i64 y65.2), (9, [], .slice g73.a y72.1.length g73.c), (10, [], .int .i64 y72.2), (13, [], .int .i64 y79.2.2), (16, [], .int .i64 y82.2.2), (19, [], .int .i64 y90.2.2), (21, [], .int .i64 y93.2), (23, [], .int .i64 y101.2), (24, [], .string ⟨⟨toB ([239, 191, 189] : List Int)⟩⟩), (96, [], .bool x113)] [fun wz => RetB Tryz.prog 22 ⟨[.string ⟨⟨[34, 97, 39, 98, 34]⟩⟩, .agg ⟨[.int .u8 5, .string ⟨⟨[97, 39, 98]⟩⟩, .int .i64 0, .string ⟨⟨[]⟩⟩, .bool false]⟩]⟩ (.bool y111) wz, fun wz => (y111 = true ∧ True → RetB Tryz.prog 22 ⟨[.string ⟨⟨[39, 97, 92, 10, 98, 92]⟩⟩, .agg ⟨[.int .u8 5, .string ⟨⟨[97, 98]⟩⟩, .int .i64 0, .string ⟨⟨[]⟩⟩, .bool false]⟩]⟩ (.bool y112) wz)] H109 (by decide) (by subst hx113; kernel_rfl) ⟨(law02_is_ok m _ _ _ hy111 _ (s0gi s0nil (hS.gi 1 rfl))), fun hg => law02_is_ok m _ _ _ (bT (hg.1) hy112) _ (s0gi s0nil (hS.gi 1 rfl)), trivial⟩ fun _ wd114 H115 hb => ?_
   clear H109
   replace hS := hS.below hb
   clear hb
   cases x113
   case true =>
    replace hm := bT rfl hm
    have hd := hS.hand [] [0, 1] rfl rfl
    refine m_stpG 96 [97, 4, 6, 8, 9, 10, 13, 16, 19, 21, 23, 24, 96] [(4, [], .int .i64 y33.2), (6, [], .int .i64 y50.2), (8, [], .int .i64 y65.2), (9, [], .slice g73.a y72.1.length g73.c), (10, [], .int .i64 y72.2), (13, [], .int .i64 y79.2.2), (16, [], .int .i64 y82.2.2), (19, [], .int .i64 y90.2.2), (21, [], .int .i64 y93.2), (23, [], .int .i64 y101.2), (24, [], .string ⟨⟨toB ([239, 191, 189] : List Int)⟩⟩), (96, [], .bool true)] H115 rfl rfl rfl rfl (o_lit (T := (tI .u8)) (E := 5) (zv := .int .u8 0) [.int .u8 6, .int .u8 13, .int .u8 1] ([6, 13, 1] : List Int) [gL [], gL [], gL []] _ H115 hd rfl (by kernel_rfl) (by kernel_rfl) (by kernel_rfl) (by kernel_rfl) (by kernel_rfl) (by kernel_rfl) (by kernel_rfl) rfl (InnL.cons trivial (InnL.cons trivial (InnL.cons trivial InnL.nil)))) (fun _ => rfl) fun _ wd118 v H119 hq => ?_
    clear H115 hd
    obtain ⟨g116, rfl, hq⟩ := hq
    replace hS : SH M X w [Ent.own 5 (tI .u8) ([6, 13, 1] : List Int) g116, Ent.own 44 tyToken y72.1 g73, Ent.gint 0] _ := hS.join [] [0, 1] rfl rfl hq
    clear hq
    obtain ⟨y120, hy120, hm⟩ := bindE hm
    obtain ⟨y121, hy121, hm⟩ := bindE hm
    refine wl_batch 8 15 [(.bool y120), (.bool y121)] [4, 6, 8, 9, 10, 13, 16, 19, 21, 23, 24, 25] [(4, [], .int .i64 y33.2), (6, [], .int .i64 y50.2), (8, [], .int .i64 y65.2), (9, [], .slice g73.a y72.1.length g73.c), (10, [], .int .i64 y72.2), (13, [], .int .i64 y79.2.2), (16, [], .int .i64 y82.2.2), (19, [], .int .i64 y90.2.2), (21, [], .int .i64 y93.2), (23, [], .int .i64 y101.2), (24, [], .string ⟨⟨toB ([239, 191, 189] : List Int)⟩⟩), (25, [], .bool (cond y120 y121 false))] [fun wz => (true = true ∧ True → RetB Tryz.prog 23 ⟨[.string ⟨⟨[39, 97, 10, 98]⟩⟩, .slice g116.a 3 g116.c]⟩ (.bool y120) wz), fun wz => (y120 = true ∧ True → RetB Tryz.prog 22 ⟨[.string ⟨⟨[39]⟩⟩, .agg ⟨[.int .u8 5, .string ⟨⟨[]⟩⟩, .int .i64 0, .string ⟨⟨[]⟩⟩, .bool false]⟩]⟩ (.bool y121) wz)] H119 (by decide) (by kernel_rfl) ⟨fun hg => law02_kinds_ok (g_want := g116) m _ _ _ hy120 _ (s0im (s0gi s0nil (hS.gi 2 rfl)) (hS.osl 0 rfl)), fun hg => law02_is_ok m _ _ _ (bT (hg.1) hy121) _ (s0gi s0nil (hS.gi 2 rfl)), trivial⟩ fun _ wd122 H123 hb => ?_
    clear H119
    replace hS := hS.below hb
    clear hb
    refine wl_end rfl ?_
    replace hS : SH M X w [Ent.own 44 tyToken y72.1 g73, Ent.gint 0] _ := hS.sel [1, 2] rfl
    obtain rfl := someE hm
    exact ⟨FrG.keep (ks := [4, 6, 8, 9, 10, 13, 16, 19, 21, 23, 24, 25]) H123 (by kernel_rfl), hS⟩
   replace hm := bF rfl hm
   refine m_skipG 96 [97, 4, 6, 8, 9, 10, 13, 16, 19, 21, 23, 24, 96] [(97, [], undef), (4, [], .int .i64 y33.2), (6, [], .int .i64 y50.2), (8, [], .int .i64 y65.2), (9, [], .slice g73.a y72.1.length g73.c), (10, [], .int .i64 y72.2), (13, [], .int .i64 y79.2.2), (16, [], .int .i64 y82.2.2), (19, [], .int .i64 y90.2.2), (21, [], .int .i64 y93.2), (23, [], .int .i64 y101.2), (24, [], .string ⟨⟨toB ([239, 191, 189] : List Int)⟩⟩), (96, [], .bool false)] H115 rfl rfl rfl rfl rfl rfl fun _ H124 => ?_
   clear H115
   refine m_skipG 96 [98, 4, 6, 8, 9, 10, 13, 16, 19, 21, 23, 24, 96] [(98, [], undef), (4, [], .int .i64 y33.2), (6, [], .int .i64 y50.2), (8, [], .int .i64 y65.2), (9, [], .slice g73.a y72.1.length g73.c), (10, [], .int .i64 y72.2), (13, [], .int .i64 y79.2.2), (16, [], .int .i64 y82.2.2), (19, [], .int .i64 y90.2.2), (21, [], .int .i64 y93.2), (23, [], .int .i64 y101.2), (24, [], .string ⟨⟨toB ([239, 191, 189] : List Int)⟩⟩), (96, [], .bool false)] H124 rfl rfl rfl rfl rfl rfl fun _ H125 => ?_
   clear H124
   refine wl_batch 9 11 [] [4, 6, 8, 9, 10, 13, 16, 19, 21, 23, 24, 100] [(4, [], .int .i64 y33.2), (6, [], .int .i64 y50.2), (8, [], .int .i64 y65.2), (9, [], .slice g73.a y72.1.length g73.c), (10, [], .int .i64 y72.2), (13, [], .int .i64 y79.2.2), (16, [], .int .i64 y82.2.2), (19, [], .int .i64 y90.2.2), (21, [], .int .i64 y93.2), (23, [], .int .i64 y101.2), (24, [], .string ⟨⟨toB ([239, 191, 189] : List Int)⟩⟩), (100, [], .bool false)] [] H125 (by decide) (by kernel_rfl) trivial fun _ wd126 H127 hb => ?_
   clear H125
   replace hS := hS.below hb
   clear hb
   refine m_skipG 100 [101, 4, 6, 8, 9, 10, 13, 16, 19, 21, 23, 24, 100] [(101, [], undef), (4, [], .int .i64 y33.2), (6, [], .int .i64 y50.2), (8, [], .int .i64 y65.2), (9, [], .slice g73.a y72.1.length g73.c), (10, [], .int .i64 y72.2), (13, [], .int .i64 y79.2.2), (16, [], .int .i64 y82.2.2), (19, [], .int .i64 y90.2.2), (21, [], .int .i64 y93.2), (23, [], .int .i64 y101.2), (24, [], .string ⟨⟨toB ([239, 191, 189] : List Int)⟩⟩), (100, [], .bool false)] H127 rfl rfl rfl rfl rfl rfl fun _ H128 => ?_
   clear H127
   refine m_skipG 100 [102, 4, 6, 8, 9, 10, 13, 16, 19, 21, 23, 24, 100] [(102, [], undef), (4, [], .int .i64 y33.2), (6, [], .int .i64 y50.2), (8, [], .int .i64 y65.2), (9, [], .slice g73.a y72.1.length g73.c), (10, [], .int .i64 y72.2), (13, [], .int .i64 y79.2.2), (16, [], .int .i64 y82.2.2), (19, [], .int .i64 y90.2.2), (21, [], .int .i64 y93.2), (23, [], .int .i64 y101.2), (24, [], .string ⟨⟨toB ([239, 191, 189] : List Int)⟩⟩), (100, [], .bool false)] H128 rfl rfl rfl rfl rfl rfl fun _ H129 => ?_
   clear H128
   refine wl_batch 13 15 [] [4, 6, 8, 9, 10, 13, 16, 19, 21, 23, 24, 25] [(4, [], .int .i64 y33.2), (6, [], .int .i64 y50.2), (8, [], .int .i64 y65.2), (9, [], .slice g73.a y72.1.length g73.c), (10, [], .int .i64 y72.2), (13, [], .int .i64 y79.2.2), (16, [], .int .i64 y82.2.2), (19, [], .int .i64 y90.2.2), (21, [], .int .i64 y93.2), (23, [], .int .i64 y101.2), (24, [], .string ⟨⟨toB ([239, 191, 189] : List Int)⟩⟩), (25, [], .bool false)] [] H129 (by decide) (by kernel_rfl) trivial fun _ wd130 H131 hb => ?_
   clear H129
   replace hS := hS.below hb
   clear hb
   refine wl_end rfl ?_
   obtain rfl := someE hm
   exact ⟨FrG.keep (ks := [4, 6, 8, 9, 10, 13, 16, 19, 21, 23, 24, 25]) H131 (by kernel_rfl), hS⟩
  ·rintro _ wd402 ⟨H, hS⟩
   obtain ⟨z132, hz, hm⟩ := bindE hm
   refine w_cut (fun a' w' => Fr 287 [(4, [], .int .i64 y33.2), (6, [], .int .i64 y50.2), (8, [], .int .i64 y65.2), (9, [], .slice g73.a y72.1.length g73.c), (10, [], .int .i64 y72.2), (13, [], .int .i64 y79.2.2), (16, [], .int .i64 y82.2.2), (19, [], .int .i64 y90.2.2), (21, [], .int .i64 y93.2), (23, [], .int .i64 y101.2), (25, [], .bool z110), (26, [], .bool z132)] a' ∧ SH M X w [Ent.own 44 tyToken y72.1 g73, Ent.gint 0] w') ?_ ?_
   ·replace hm := hz
    refine wl_start ?_
    obtain ⟨y133, hy133, hm⟩ := bindE hm
    obtain ⟨y134, hy134, hm⟩ := bindE hm
    obtain ⟨y135, hy135, hm⟩ := bindE hm
    obtain ⟨y136, hy136, hm⟩ := bindE hm
    obtain ⟨x137, hx137, hm⟩ := letE hm
    obtain ⟨y138, hy138, hm⟩ := bindE hm
    obtain ⟨y139, hy139, hm⟩ := bindE hm
    obtain ⟨y140, hy140, hm⟩ := bindE hm
    obtain ⟨x141, hx141, hm⟩ := letE hm
    obtain ⟨x142, hx142, hm⟩ := letE hm
    refine wl_batch 0 31 [(.bool y133), (.bool y134), (.bool y135), (.bool y136), (.bool y138), (.bool y139), (.bool y140)] [4, 6, 8, 9, 10, 13, 16, 19, 21, 23, 25, 134] [(4, [], .int .i64 y33.2), (6, [], .int .i64 y50.2), (8, [], .int .i64 y65.2), (9, [], .slice g73.a y72.1.length g73.c), (10, [], .int .i64 y72.2), (13, [], .int .i64 y79.2.2), (16, [], .int .i64 y82.2.2), (19, [], .int .i64 y90.2.2), (21, [], .int .i64 y93.2), (23, [], .int .i64 y101.2), (25, [], .bool z110), (134, [], .bool x142)] [fun wz => RetB Tryz.prog 22 ⟨[.string ⟨⟨[45, 45, 120]⟩⟩, .agg ⟨[.int .u8 1, .string ⟨⟨[45, 45, 120]⟩⟩, .int .i64 0, .string ⟨⟨[]⟩⟩, .bool false]⟩]⟩ (.bool y133) wz, fun wz => (y133 = true ∧ True → RetB Tryz.prog 22 ⟨[.string ⟨⟨[45, 92, 45, 97]⟩⟩, .agg ⟨[.int .u8 1, .string ⟨⟨[45, 45, 97]⟩⟩, .int .i64 0, .string ⟨⟨[]⟩⟩, .bool false]⟩]⟩ (.bool y134) wz), fun wz => ((cond y133 y134 false) = true ∧ True → RetB Tryz.prog 22 ⟨[.string ⟨⟨[92]⟩⟩, .agg ⟨[.int .u8 1, .string ⟨⟨toB ([239, 191, 189] : List Int)⟩⟩, .int .i64 0, .string ⟨⟨[]⟩⟩, .bool false]⟩]⟩ (.bool y135) wz), fun wz => ((cond (cond y133 y134 false) y135 false) = true ∧ True → RetB Tryz.prog 22 ⟨[.string ⟨⟨[92, 48]⟩⟩, .agg ⟨[.int .u8 1, .string ⟨⟨toB ([239, 191, 189] : List Int)⟩⟩, .int .i64 0, .string ⟨⟨[]⟩⟩, .bool false]⟩]⟩ (.bool y136) wz), fun wz => (x137 = true ∧ True → RetB Tryz.prog 22 ⟨[.string ⟨⟨[92, 100, 56, 48, 48, 32]⟩⟩, .agg ⟨[.int .u8 1, .string ⟨⟨toB ([239, 191, 189] : List Int)⟩⟩, .int .i64 0, .string ⟨⟨[]⟩⟩, .bool false]⟩]⟩ (.bool y138) wz), fun wz => ((cond x137 y138 false) = true ∧ True → RetB Tryz.prog 22 ⟨[.string ⟨⟨[92, 49, 102, 54, 48, 48]⟩⟩, .agg ⟨[.int .u8 1, .string ⟨⟨[240, 159, 152, 128]⟩⟩, .int .i64 0, .string ⟨⟨[]⟩⟩, .bool false]⟩]⟩ (.bool y139) wz), fun wz => ((cond (cond x137 y138 false) y139 false) = true ∧ True → RetB Tryz.prog 22 ⟨[.string ⟨⟨[0]⟩⟩, .agg ⟨[.int .u8 1, .string ⟨⟨toB ([239, 191, 189] : List Int)⟩⟩, .int .i64 0, .string ⟨⟨[]⟩⟩, .bool false]⟩]⟩ (.bool y140) wz)] H (by decide) (by subst hx137 hx141 hx142; kernel_rfl) ⟨(law02_is_ok m _ _ _ hy133 _ (s0gi s0nil (hS.gi 1 rfl))), fun hg => law02_is_ok m _ _ _ (bT (hg.1) hy134) _ (s0gi s0nil (hS.gi 1 rfl)), fun hg => law02_is_ok m _ _ _ (bT (hg.1) hy135) _ (s0gi s0nil (hS.gi 1 rfl)), fun hg => law02_is_ok m _ _ _ (bT (hg.1) hy136) _ (s0gi s0nil (hS.gi 1 rfl)), fun hg => law02_is_ok m _ _ _ (bT (hg.1) hy138) _ (s0gi s0nil (hS.gi 1 rfl)), fun hg => law02_is_ok m _ _ _ (bT (hg.1) hy139) _ (s0gi s0nil (hS.gi 1 rfl)), fun hg => law02_is_ok m _ _ _ (bT (hg.1) hy140) _ (s0gi s0nil (hS.gi 1 rfl)), trivial⟩ fun _ wd143 H144 hb => ?_
    clear H
    replace hS := hS.below hb
    clear hb
    cases x142
    case false =>
     replace hm := bF rfl hm
     refine m_skipG 134 [135, 4, 6, 8, 9, 10, 13, 16, 19, 21, 23, 25, 134] [(135, [], undef), (4, [], .int .i64 y33.2), (6, [], .int .i64 y50.2), (8, [], .int .i64 y65.2), (9, [], .slice g73.a y72.1.length g73.c), (10, [], .int .i64 y72.2), (13, [], .int .i64 y79.2.2), (16, [], .int .i64 y82.2.2), (19, [], .int .i64 y90.2.2), (21, [], .int .i64 y93.2), (23, [], .int .i64 y101.2), (25, [], .bool z110), (134, [], .bool false)] H144 rfl rfl rfl rfl rfl rfl fun _ H164 => ?_
     clear H144
     refine m_skipG 134 [136, 4, 6, 8, 9, 10, 13, 16, 19, 21, 23, 25, 134] [(136, [], undef), (4, [], .int .i64 y33.2), (6, [], .int .i64 y50.2), (8, [], .int .i64 y65.2), (9, [], .slice g73.a y72.1.length g73.c), (10, [], .int .i64 y72.2), (13, [], .int .i64 y79.2.2), (16, [], .int .i64 y82.2.2), (19, [], .int .i64 y90.2.2), (21, [], .int .i64 y93.2), (23, [], .int .i64 y101.2), (25, [], .bool z110), (134, [], .bool false)] H164 rfl rfl rfl rfl rfl rfl fun _ H165 => ?_
     clear H164
     refine wl_batch 33 35 [] [4, 6, 8, 9, 10, 13, 16, 19, 21, 23, 25, 138] [(4, [], .int .i64 y33.2), (6, [], .int .i64 y50.2), (8, [], .int .i64 y65.2), (9, [], .slice g73.a y72.1.length g73.c), (10, [], .int .i64 y72.2), (13, [], .int .i64 y79.2.2), (16, [], .int .i64 y82.2.2), (19, [], .int .i64 y90.2.2), (21, [], .int .i64 y93.2), (23, [], .int .i64 y101.2), (25, [], .bool z110), (138, [], .bool false)] [] H165 (by decide) (by kernel_rfl) trivial fun _ wd166 H167 hb => ?_
     clear H165
     replace hS := hS.below hb
     clear hb
     refine m_skipG 138 [139, 4, 6, 8, 9, 10, 13, 16, 19, 21, 23, 25, 138] [(139, [], undef), (4, [], .int .i64 y33.2), (6, [], .int .i64 y50.2), (8, [], .int .i64 y65.2), (9, [], .slice g73.a y72.1.length g73.c), (10, [], .int .i64 y72.2), (13, [], .int .i64 y79.2.2), (16, [], .int .i64 y82.2.2), (19, [], .int .i64 y90.2.2), (21, [], .int .i64 y93.2), (23, [], .int .i64 y101.2), (25, [], .bool z110), (138, [], .bool false)] H167 rfl rfl rfl rfl rfl rfl fun _ H168 => ?_
     clear H167
     refine m_skipG 138 [140, 4, 6, 8, 9, 10, 13, 16, 19, 21, 23, 25, 138] [(140, [], undef), (4, [], .int .i64 y33.2), (6, [], .int .i64 y50.2), (8, [], .int .i64 y65.2), (9, [], .slice g73.a y72.1.length g73.c), (10, [], .int .i64 y72.2), (13, [], .int .i64 y79.2.2), (16, [], .int .i64 y82.2.2), (19, [], .int .i64 y90.2.2), (21, [], .int .i64 y93.2), (23, [], .int .i64 y101.2), (25, [], .bool z110), (138, [], .bool false)] H168 rfl rfl rfl rfl rfl rfl fun _ H169 => ?_
     clear H168
     refine wl_batch 37 39 [] [4, 6, 8, 9, 10, 13, 16, 19, 21, 23, 25, 26] [(4, [], .int .i64 y33.2), (6, [], .int .i64 y50.2), (8, [], .int .i64 y65.2), (9, [], .slice g73.a y72.1.length g73.c), (10, [], .int .i64 y72.2), (13, [], .int .i64 y79.2.2), (16, [], .int .i64 y82.2.2), (19, [], .int .i64 y90.2.2), (21, [], .int .i64 y93.2), (23, [], .int .i64 y101.2), (25, [], .bool z110), (26, [], .bool false)] [] H169 (by decide) (by kernel_rfl) trivial fun _ wd170 H171 hb => ?_
     clear H169
     replace hS := hS.below hb
     clear hb
     refine wl_end rfl ?_
     obtain rfl := someE hm
     exact ⟨FrG.keep (ks := [4, 6, 8, 9, 10, 13, 16, 19, 21, 23, 25, 26]) H171 (by kernel_rfl), hS⟩
    replace hm := bT rfl hm
    have hd := hS.hand [] [0, 1] rfl rfl
    refine m_stpG 134 [135, 4, 6, 8, 9, 10, 13, 16, 19, 21, 23, 25, 134] [(4, [], .int .i64 y33.2), (6, [], .int .i64 y50.2), (8, [], .int .i64 y65.2), (9, [], .slice g73.a y72.1.length g73.c), (10, [], .int .i64 y72.2), (13, [], .int .i64 y79.2.2), (16, [], .int .i64 y82.2.2), (19, [], .int .i64 y90.2.2), (21, [], .int .i64 y93.2), (23, [], .int .i64 y101.2), (25, [], .bool z110), (134, [], .bool true)] H144 rfl rfl rfl rfl (o_lit (T := (tI .u8)) (E := 5) (zv := .int .u8 0) [.int .u8 9, .int .u8 13] ([9, 13] : List Int) [gL [], gL []] _ H144 hd rfl (by kernel_rfl) (by kernel_rfl) (by kernel_rfl) (by kernel_rfl) (by kernel_rfl) (by kernel_rfl) (by kernel_rfl) rfl (InnL.cons trivial (InnL.cons trivial InnL.nil))) (fun _ => rfl) fun _ wd147 v H148 hq => ?_
    clear H144 hd
    obtain ⟨g145, rfl, hq⟩ := hq
    replace hS : SH M X w [Ent.own 5 (tI .u8) ([9, 13] : List Int) g145, Ent.own 44 tyToken y72.1 g73, Ent.gint 0] _ := hS.join [] [0, 1] rfl rfl hq
    clear hq
    obtain ⟨y149, hy149, hm⟩ := bindE hm
    obtain ⟨x150, hx150, hm⟩ := letE hm
    refine wl_batch 32 35 [(.bool y149)] [4, 6, 8, 9, 10, 13, 16, 19, 21, 23, 25, 138] [(4, [], .int .i64 y33.2), (6, [], .int .i64 y50.2), (8, [], .int .i64 y65.2), (9, [], .slice g73.a y72.1.length g73.c), (10, [], .int .i64 y72.2), (13, [], .int .i64 y79.2.2), (16, [], .int .i64 y82.2.2), (19, [], .int .i64 y90.2.2), (21, [], .int .i64 y93.2), (23, [], .int .i64 y101.2), (25, [], .bool z110), (138, [], .bool x150)] [fun wz => (true = true ∧ True → RetB Tryz.prog 23 ⟨[.string ⟨⟨[92, 10]⟩⟩, .slice g145.a 2 g145.c]⟩ (.bool y149) wz)] H148 (by decide) (by subst hx150; kernel_rfl) ⟨fun hg => law02_kinds_ok (g_want := g145) m _ _ _ hy149 _ (s0im (s0gi s0nil (hS.gi 2 rfl)) (hS.osl 0 rfl)), trivial⟩ fun _ wd151 H152 hb => ?_
    clear H148
    replace hS := hS.below hb
    clear hb
    cases x150
    case false =>
     replace hm := bF rfl hm
     refine m_skipG 138 [139, 4, 6, 8, 9, 10, 13, 16, 19, 21, 23, 25, 138] [(139, [], undef), (4, [], .int .i64 y33.2), (6, [], .int .i64 y50.2), (8, [], .int .i64 y65.2), (9, [], .slice g73.a y72.1.length g73.c), (10, [], .int .i64 y72.2), (13, [], .int .i64 y79.2.2), (16, [], .int .i64 y82.2.2), (19, [], .int .i64 y90.2.2), (21, [], .int .i64 y93.2), (23, [], .int .i64 y101.2), (25, [], .bool z110), (138, [], .bool false)] H152 rfl rfl rfl rfl rfl rfl fun _ H160 => ?_
     clear H152
     refine m_skipG 138 [140, 4, 6, 8, 9, 10, 13, 16, 19, 21, 23, 25, 138] [(140, [], undef), (4, [], .int .i64 y33.2), (6, [], .int .i64 y50.2), (8, [], .int .i64 y65.2), (9, [], .slice g73.a y72.1.length g73.c), (10, [], .int .i64 y72.2), (13, [], .int .i64 y79.2.2), (16, [], .int .i64 y82.2.2), (19, [], .int .i64 y90.2.2), (21, [], .int .i64 y93.2), (23, [], .int .i64 y101.2), (25, [], .bool z110), (138, [], .bool false)] H160 rfl rfl rfl rfl rfl rfl fun _ H161 => ?_
     clear H160
     refine wl_batch 37 39 [] [4, 6, 8, 9, 10, 13, 16, 19, 21, 23, 25, 26] [(4, [], .int .i64 y33.2), (6, [], .int .i64 y50.2), (8, [], .int .i64 y65.2), (9, [], .slice g73.a y72.1.length g73.c), (10, [], .int .i64 y72.2), (13, [], .int .i64 y79.2.2), (16, [], .int .i64 y82.2.2), (19, [], .int .i64 y90.2.2), (21, [], .int .i64 y93.2), (23, [], .int .i64 y101.2), (25, [], .bool z110), (26, [], .bool false)] [] H161 (by decide) (by kernel_rfl) trivial fun _ wd162 H163 hb => ?_
     clear H161
     replace hS := hS.below hb
     clear hb
     refine wl_end rfl ?_
     replace hS : SH M X w [Ent.own 44 tyToken y72.1 g73, Ent.gint 0] _ := hS.sel [1, 2] rfl
     obtain rfl := someE hm
     exact ⟨FrG.keep (ks := [4, 6, 8, 9, 10, 13, 16, 19, 21, 23, 25, 26]) H163 (by kernel_rfl), hS⟩
    replace hm := bT rfl hm
    have hd := hS.hand [] [0, 1, 2] rfl rfl
    refine m_stpG 138 [139, 4, 6, 8, 9, 10, 13, 16, 19, 21, 23, 25, 138] [(4, [], .int .i64 y33.2), (6, [], .int .i64 y50.2), (8, [], .int .i64 y65.2), (9, [], .slice g73.a y72.1.length g73.c), (10, [], .int .i64 y72.2), (13, [], .int .i64 y79.2.2), (16, [], .int .i64 y82.2.2), (19, [], .int .i64 y90.2.2), (21, [], .int .i64 y93.2), (23, [], .int .i64 y101.2), (25, [], .bool z110), (138, [], .bool true)] H152 rfl rfl rfl rfl (o_lit (T := (tI .u8)) (E := 5) (zv := .int .u8 0) [.int .u8 1] ([1] : List Int) [gL []] _ H152 hd rfl (by kernel_rfl) (by kernel_rfl) (by kernel_rfl) (by kernel_rfl) (by kernel_rfl) (by kernel_rfl) (by kernel_rfl) rfl (InnL.cons trivial InnL.nil)) (fun _ => rfl) fun _ wd155 v H156 hq => ?_
    clear H152 hd
    obtain ⟨g153, rfl, hq⟩ := hq
    replace hS : SH M X w [Ent.own 5 (tI .u8) ([1] : List Int) g153, Ent.own 5 (tI .u8) ([9, 13] : List Int) g145, Ent.own 44 tyToken y72.1 g73, Ent.gint 0] _ := hS.join [] [0, 1, 2] rfl rfl hq
    clear hq
    obtain ⟨y157, hy157, hm⟩ := bindE hm
    refine wl_batch 36 39 [(.bool y157)] [4, 6, 8, 9, 10, 13, 16, 19, 21, 23, 25, 26] [(4, [], .int .i64 y33.2), (6, [], .int .i64 y50.2), (8, [], .int .i64 y65.2), (9, [], .slice g73.a y72.1.length g73.c), (10, [], .int .i64 y72.2), (13, [], .int .i64 y79.2.2), (16, [], .int .i64 y82.2.2), (19, [], .int .i64 y90.2.2), (21, [], .int .i64 y93.2), (23, [], .int .i64 y101.2), (25, [], .bool z110), (26, [], .bool y157)] [fun wz => (true = true ∧ True → RetB Tryz.prog 23 ⟨[.string ⟨⟨[92, 48, 48, 48, 48, 48, 52, 49]⟩⟩, .slice g153.a 1 g153.c]⟩ (.bool y157) wz)] H156 (by decide) (by kernel_rfl) ⟨fun hg => law02_kinds_ok (g_want := g153) m _ _ _ hy157 _ (s0im (s0gi s0nil (hS.gi 3 rfl)) (hS.osl 0 rfl)), trivial⟩ fun _ wd158 H159 hb => ?_
    clear H156
    replace hS := hS.below hb
    clear hb
    refine wl_end rfl ?_
    replace hS : SH M X w [Ent.own 44 tyToken y72.1 g73, Ent.gint 0] _ := hS.sel [2, 3] rfl
    obtain rfl := someE hm
    exact ⟨FrG.keep (ks := [4, 6, 8, 9, 10, 13, 16, 19, 21, 23, 25, 26]) H159 (by kernel_rfl), hS⟩
   ·rintro _ wd401 ⟨H, hS⟩
    obtain ⟨z172, hz, hm⟩ := bindE hm
    refine w_cut (fun a' w' => Fr 287 [(4, [], .int .i64 y33.2), (6, [], .int .i64 y50.2), (8, [], .int .i64 y65.2), (9, [], .slice g73.a y72.1.length g73.c), (10, [], .int .i64 y72.2), (13, [], .int .i64 y79.2.2), (16, [], .int .i64 y82.2.2), (19, [], .int .i64 y90.2.2), (21, [], .int .i64 y93.2), (23, [], .int .i64 y101.2), (25, [], .bool z110), (26, [], .bool z132), (27, [], .bool z172)] a' ∧ SH M X w [Ent.own 44 tyToken y72.1 g73, Ent.gint 0] w') ?_ ?_
    ·replace hm := hz
     refine wl_start ?_
     obtain ⟨y173, hy173, hm⟩ := bindE hm
     obtain ⟨y174, hy174, hm⟩ := bindE hm
     obtain ⟨y175, hy175, hm⟩ := bindE hm
     obtain ⟨y176, hy176, hm⟩ := bindE hm
     obtain ⟨x177, hx177, hm⟩ := letE hm
     obtain ⟨y178, hy178, hm⟩ := bindE hm
     obtain ⟨y179, hy179, hm⟩ := bindE hm
     obtain ⟨y180, hy180, hm⟩ := bindE hm
     obtain ⟨x181, hx181, hm⟩ := letE hm
     obtain ⟨x182, hx182, hm⟩ := letE hm
     refine wl_batch 0 27 [(.bool y173), (.bool y174), (.bool y175), (.bool y176), (.bool y178), (.bool y179), (.bool y180)] [4, 6, 8, 9, 10, 13, 16, 19, 21, 23, 25, 26, 168] [(4, [], .int .i64 y33.2), (6, [], .int .i64 y50.2), (8, [], .int .i64 y65.2), (9, [], .slice g73.a y72.1.length g73.c), (10, [], .int .i64 y72.2), (13, [], .int .i64 y79.2.2), (16, [], .int .i64 y82.2.2), (19, [], .int .i64 y90.2.2), (21, [], .int .i64 y93.2), (23, [], .int .i64 y101.2), (25, [], .bool z110), (26, [], .bool z132), (168, [], .bool x182)] [fun wz => RetB Tryz.prog 22 ⟨[.string ⟨⟨[43, 46, 53]⟩⟩, .agg ⟨[.int .u8 10, .string ⟨⟨[]⟩⟩, .int .i64 500, .string ⟨⟨[]⟩⟩, .bool false]⟩]⟩ (.bool y173) wz, fun wz => (y173 = true ∧ True → RetB Tryz.prog 22 ⟨[.string ⟨⟨[49, 101, 51]⟩⟩, .agg ⟨[.int .u8 10, .string ⟨⟨[]⟩⟩, .int .i64 1000000, .string ⟨⟨[]⟩⟩, .bool false]⟩]⟩ (.bool y174) wz), fun wz => ((cond y173 y174 false) = true ∧ True → RetB Tryz.prog 22 ⟨[.string ⟨⟨[49, 46, 50, 51, 52, 53]⟩⟩, .agg ⟨[.int .u8 10, .string ⟨⟨[]⟩⟩, .int .i64 1234, .string ⟨⟨[]⟩⟩, .bool false]⟩]⟩ (.bool y175) wz), fun wz => ((cond (cond y173 y174 false) y175 false) = true ∧ True → RetB Tryz.prog 22 ⟨[.string ⟨⟨[45, 48, 46, 48, 48, 48, 57]⟩⟩, .agg ⟨[.int .u8 10, .string ⟨⟨[]⟩⟩, .int .i64 0, .string ⟨⟨[]⟩⟩, .bool false]⟩]⟩ (.bool y176) wz), fun wz => (x177 = true ∧ True → RetB Tryz.prog 22 ⟨[.string ⟨⟨[49, 101, 45, 57]⟩⟩, .agg ⟨[.int .u8 10, .string ⟨⟨[]⟩⟩, .int .i64 0, .string ⟨⟨[]⟩⟩, .bool false]⟩]⟩ (.bool y178) wz), fun wz => ((cond x177 y178 false) = true ∧ True → RetB Tryz.prog 22 ⟨[.string ⟨⟨[57, 57, 57, 57, 57, 57, 57, 57, 57, 57]⟩⟩, .agg ⟨[.int .u8 10, .string ⟨⟨[]⟩⟩, .int .i64 1000000000000, .string ⟨⟨[]⟩⟩, .bool true]⟩]⟩ (.bool y179) wz), fun wz => ((cond (cond x177 y178 false) y179 false) = true ∧ True → RetB Tryz.prog 22 ⟨[.string ⟨⟨[53, 48, 37]⟩⟩, .agg ⟨[.int .u8 11, .string ⟨⟨[]⟩⟩, .int .i64 50000, .string ⟨⟨[]⟩⟩, .bool false]⟩]⟩ (.bool y180) wz)] H (by decide) (by subst hx177 hx181 hx182; kernel_rfl) ⟨(law02_is_ok m _ _ _ hy173 _ (s0gi s0nil (hS.gi 1 rfl))), fun hg => law02_is_ok m _ _ _ (bT (hg.1) hy174) _ (s0gi s0nil (hS.gi 1 rfl)), fun hg => law02_is_ok m _ _ _ (bT (hg.1) hy175) _ (s0gi s0nil (hS.gi 1 rfl)), fun hg => law02_is_ok m _ _ _ (bT (hg.1) hy176) _ (s0gi s0nil (hS.gi 1 rfl)), fun hg => law02_is_ok m _ _ _ (bT (hg.1) hy178) _ (s0gi s0nil (hS.gi 1 rfl)), fun hg => law02_is_ok m _ _ _ (bT (hg.1) hy179) _ (s0gi s0nil (hS.gi 1 rfl)), fun hg => law02_is_ok m _ _ _ (bT (hg.1) hy180) _ (s0gi s0nil (hS.gi 1 rfl)), trivial⟩ fun _ wd183 H184 hb => ?_
     clear H
     replace hS := hS.below hb
     clear hb
     cases x182
     case false =>
      replace hm := bF rfl hm
      refine m_skipG 168 [169, 4, 6, 8, 9, 10, 13, 16, 19, 21, 23, 25, 26, 168] [(169, [], undef), (4, [], .int .i64 y33.2), (6, [], .int .i64 y50.2), (8, [], .int .i64 y65.2), (9, [], .slice g73.a y72.1.length g73.c), (10, [], .int .i64 y72.2), (13, [], .int .i64 y79.2.2), (16, [], .int .i64 y82.2.2), (19, [], .int .i64 y90.2.2), (21, [], .int .i64 y93.2), (23, [], .int .i64 y101.2), (25, [], .bool z110), (26, [], .bool z132), (168, [], .bool false)] H184 rfl rfl rfl rfl rfl rfl fun _ H214 => ?_
      clear H184
      refine m_skipG 168 [170, 4, 6, 8, 9, 10, 13, 16, 19, 21, 23, 25, 26, 168] [(170, [], undef), (4, [], .int .i64 y33.2), (6, [], .int .i64 y50.2), (8, [], .int .i64 y65.2), (9, [], .slice g73.a y72.1.length g73.c), (10, [], .int .i64 y72.2), (13, [], .int .i64 y79.2.2), (16, [], .int .i64 y82.2.2), (19, [], .int .i64 y90.2.2), (21, [], .int .i64 y93.2), (23, [], .int .i64 y101.2), (25, [], .bool z110), (26, [], .bool z132), (168, [], .bool false)] H214 rfl rfl rfl rfl rfl rfl fun _ H215 => ?_
      clear H214
      refine wl_batch 29 31 [] [4, 6, 8, 9, 10, 13, 16, 19, 21, 23, 25, 26, 172] [(4, [], .int .i64 y33.2), (6, [], .int .i64 y50.2), (8, [], .int .i64 y65.2), (9, [], .slice g73.a y72.1.length g73.c), (10, [], .int .i64 y72.2), (13, [], .int .i64 y79.2.2), (16, [], .int .i64 y82.2.2), (19, [], .int .i64 y90.2.2), (21, [], .int .i64 y93.2), (23, [], .int .i64 y101.2), (25, [], .bool z110), (26, [], .bool z132), (172, [], .bool false)] [] H215 (by decide) (by kernel_rfl) trivial fun _ wd216 H217 hb => ?_
      clear H215
      replace hS := hS.below hb
      clear hb
      refine m_skipG 172 [173, 4, 6, 8, 9, 10, 13, 16, 19, 21, 23, 25, 26, 172] [(173, [], undef), (4, [], .int .i64 y33.2), (6, [], .int .i64 y50.2), (8, [], .int .i64 y65.2), (9, [], .slice g73.a y72.1.length g73.c), (10, [], .int .i64 y72.2), (13, [], .int .i64 y79.2.2), (16, [], .int .i64 y82.2.2), (19, [], .int .i64 y90.2.2), (21, [], .int .i64 y93.2), (23, [], .int .i64 y101.2), (25, [], .bool z110), (26, [], .bool z132), (172, [], .bool false)] H217 rfl rfl rfl rfl rfl rfl fun _ H218 => ?_
      clear H217
      refine m_skipG 172 [174, 4, 6, 8, 9, 10, 13, 16, 19, 21, 23, 25, 26, 172] [(174, [], undef), (4, [], .int .i64 y33.2), (6, [], .int .i64 y50.2), (8, [], .int .i64 y65.2), (9, [], .slice g73.a y72.1.length g73.c), (10, [], .int .i64 y72.2), (13, [], .int .i64 y79.2.2), (16, [], .int .i64 y82.2.2), (19, [], .int .i64 y90.2.2), (21, [], .int .i64 y93.2), (23, [], .int .i64 y101.2), (25, [], .bool z110), (26, [], .bool z132), (172, [], .bool false)] H218 rfl rfl rfl rfl rfl rfl fun _ H219 => ?_
      clear H218
      refine wl_batch 33 35 [] [4, 6, 8, 9, 10, 13, 16, 19, 21, 23, 25, 26, 176] [(4, [], .int .i64 y33.2), (6, [], .int .i64 y50.2), (8, [], .int .i64 y65.2), (9, [], .slice g73.a y72.1.length g73.c), (10, [], .int .i64 y72.2), (13, [], .int .i64 y79.2.2), (16, [], .int .i64 y82.2.2), (19, [], .int .i64 y90.2.2), (21, [], .int .i64 y93.2), (23, [], .int .i64 y101.2), (25, [], .bool z110), (26, [], .bool z132), (176, [], .bool false)] [] H219 (by decide) (by kernel_rfl) trivial fun _ wd220 H221 hb => ?_
      clear H219
      replace hS := hS.below hb
      clear hb
      refine m_skipG 176 [177, 4, 6, 8, 9, 10, 13, 16, 19, 21, 23, 25, 26, 176] [(177, [], undef), (4, [], .int .i64 y33.2), (6, [], .int .i64 y50.2), (8, [], .int .i64 y65.2), (9, [], .slice g73.a y72.1.length g73.c), (10, [], .int .i64 y72.2), (13, [], .int .i64 y79.2.2), (16, [], .int .i64 y82.2.2), (19, [], .int .i64 y90.2.2), (21, [], .int .i64 y93.2), (23, [], .int .i64 y101.2), (25, [], .bool z110), (26, [], .bool z132), (176, [], .bool false)] H221 rfl rfl rfl rfl rfl rfl fun _ H222 => ?_
      clear H221
      refine m_skipG 176 [178, 4, 6, 8, 9, 10, 13, 16, 19, 21, 23, 25, 26, 176] [(178, [], undef), (4, [], .int .i64 y33.2), (6, [], .int .i64 y50.2), (8, [], .int .i64 y65.2), (9, [], .slice g73.a y72.1.length g73.c), (10, [], .int .i64 y72.2), (13, [], .int .i64 y79.2.2), (16, [], .int .i64 y82.2.2), (19, [], .int .i64 y90.2.2), (21, [], .int .i64 y93.2), (23, [], .int .i64 y101.2), (25, [], .bool z110), (26, [], .bool z132), (176, [], .bool false)] H222 rfl rfl rfl rfl rfl rfl fun _ H223 => ?_
      clear H222
      refine wl_batch 37 39 [] [4, 6, 8, 9, 10, 13, 16, 19, 21, 23, 25, 26, 180] [(4, [], .int .i64 y33.2), (6, [], .int .i64 y50.2), (8, [], .int .i64 y65.2), (9, [], .slice g73.a y72.1.length g73.c), (10, [], .int .i64 y72.2), (13, [], .int .i64 y79.2.2), (16, [], .int .i64 y82.2.2), (19, [], .int .i64 y90.2.2), (21, [], .int .i64 y93.2), (23, [], .int .i64 y101.2), (25, [], .bool z110), (26, [], .bool z132), (180, [], .bool false)] [] H223 (by decide) (by kernel_rfl) trivial fun _ wd224 H225 hb => ?_
      clear H223
      replace hS := hS.below hb
      clear hb
      refine m_skipG 180 [181, 4, 6, 8, 9, 10, 13, 16, 19, 21, 23, 25, 26, 180] [(181, [], undef), (4, [], .int .i64 y33.2), (6, [], .int .i64 y50.2), (8, [], .int .i64 y65.2), (9, [], .slice g73.a y72.1.length g73.c), (10, [], .int .i64 y72.2), (13, [], .int .i64 y79.2.2), (16, [], .int .i64 y82.2.2), (19, [], .int .i64 y90.2.2), (21, [], .int .i64 y93.2), (23, [], .int .i64 y101.2), (25, [], .bool z110), (26, [], .bool z132), (180, [], .bool false)] H225 rfl rfl rfl rfl rfl rfl fun _ H226 => ?_
      clear H225
      refine m_skipG 180 [182, 4, 6, 8, 9, 10, 13, 16, 19, 21, 23, 25, 26, 180] [(182, [], undef), (4, [], .int .i64 y33.2), (6, [], .int .i64 y50.2), (8, [], .int .i64 y65.2), (9, [], .slice g73.a y72.1.length g73.c), (10, [], .int .i64 y72.2), (13, [], .int .i64 y79.2.2), (16, [], .int .i64 y82.2.2), (19, [], .int .i64 y90.2.2), (21, [], .int .i64 y93.2), (23, [], .int .i64 y101.2), (25, [], .bool z110), (26, [], .bool z132), (180, [], .bool false)] H226 rfl rfl rfl rfl rfl rfl fun _ H227 => ?_
      clear H226
      refine wl_batch 41 43 [] [4, 6, 8, 9, 10, 13, 16, 19, 21, 23, 25, 26, 27] [(4, [], .int .i64 y33.2), (6, [], .int .i64 y50.2), (8, [], .int .i64 y65.2), (9, [], .slice g73.a y72.1.length g73.c), (10, [], .int .i64 y72.2), (13, [], .int .i64 y79.2.2), (16, [], .int .i64 y82.2.2), (19, [], .int .i64 y90.2.2), (21, [], .int .i64 y93.2), (23, [], .int .i64 y101.2), (25, [], .bool z110), (26, [], .bool z132), (27, [], .bool false)] [] H227 (by decide) (by kernel_rfl) trivial fun _ wd228 H229 hb => ?_
      clear H227
      replace hS := hS.below hb
      clear hb
      refine wl_end rfl ?_
      obtain rfl := someE hm
      exact ⟨FrG.keep (ks := [4, 6, 8, 9, 10, 13, 16, 19, 21, 23, 25, 26, 27]) H229 (by kernel_rfl), hS⟩
     replace hm := bT rfl hm
     have hd := hS.hand [] [0, 1] rfl rfl
     refine m_stpG 168 [169, 4, 6, 8, 9, 10, 13, 16, 19, 21, 23, 25, 26, 168] [(4, [], .int .i64 y33.2), (6, [], .int .i64 y50.2), (8, [], .int .i64 y65.2), (9, [], .slice g73.a y72.1.length g73.c), (10, [], .int .i64 y72.2), (13, [], .int .i64 y79.2.2), (16, [], .int .i64 y82.2.2), (19, [], .int .i64 y90.2.2), (21, [], .int .i64 y93.2), (23, [], .int .i64 y101.2), (25, [], .bool z110), (26, [], .bool z132), (168, [], .bool true)] H184 rfl rfl rfl rfl (o_lit (T := (tI .u8)) (E := 5) (zv := .int .u8 0) [.int .u8 10, .int .u8 9] ([10, 9] : List Int) [gL [], gL []] _ H184 hd rfl (by kernel_rfl) (by kernel_rfl) (by kernel_rfl) (by kernel_rfl) (by kernel_rfl) (by kernel_rfl) (by kernel_rfl) rfl (InnL.cons trivial (InnL.cons trivial InnL.nil))) (fun _ => rfl) fun _ wd187 v H188 hq => ?_
     clear H184 hd
     obtain ⟨g185, rfl, hq⟩ := hq
     replace hS : SH M X w [Ent.own 5 (tI .u8) ([10, 9] : List Int) g185, Ent.own 44 tyToken y72.1 g73, Ent.gint 0] _ := hS.join [] [0, 1] rfl rfl hq
     clear hq
     obtain ⟨y189, hy189, hm⟩ := bindE hm
     obtain ⟨x190, hx190, hm⟩ := letE hm
     refine wl_batch 28 31 [(.bool y189)] [4, 6, 8, 9, 10, 13, 16, 19, 21, 23, 25, 26, 172] [(4, [], .int .i64 y33.2), (6, [], .int .i64 y50.2), (8, [], .int .i64 y65.2), (9, [], .slice g73.a y72.1.length g73.c), (10, [], .int .i64 y72.2), (13, [], .int .i64 y79.2.2), (16, [], .int .i64 y82.2.2), (19, [], .int .i64 y90.2.2), (21, [], .int .i64 y93.2), (23, [], .int .i64 y101.2), (25, [], .bool z110), (26, [], .bool z132), (172, [], .bool x190)] [fun wz => (true = true ∧ True → RetB Tryz.prog 23 ⟨[.string ⟨⟨[49, 46]⟩⟩, .slice g185.a 2 g185.c]⟩ (.bool y189) wz)] H188 (by decide) (by subst hx190; kernel_rfl) ⟨fun hg => law02_kinds_ok (g_want := g185) m _ _ _ hy189 _ (s0im (s0gi s0nil (hS.gi 2 rfl)) (hS.osl 0 rfl)), trivial⟩ fun _ wd191 H192 hb => ?_
     clear H188
     replace hS := hS.below hb
     clear hb
     cases x190
     case true =>
      replace hm := bT rfl hm
      have hd := hS.hand [] [0, 1, 2] rfl rfl
      refine m_stpG 172 [173, 4, 6, 8, 9, 10, 13, 16, 19, 21, 23, 25, 26, 172] [(4, [], .int .i64 y33.2), (6, [], .int .i64 y50.2), (8, [], .int .i64 y65.2), (9, [], .slice g73.a y72.1.length g73.c), (10, [], .int .i64 y72.2), (13, [], .int .i64 y79.2.2), (16, [], .int .i64 y82.2.2), (19, [], .int .i64 y90.2.2), (21, [], .int .i64 y93.2), (23, [], .int .i64 y101.2), (25, [], .bool z110), (26, [], .bool z132), (172, [], .bool true)] H192 rfl rfl rfl rfl (o_lit (T := (tI .u8)) (E := 5) (zv := .int .u8 0) [.int .u8 9, .int .u8 13, .int .u8 10] ([9, 13, 10] : List Int) [gL [], gL [], gL []] _ H192 hd rfl (by kernel_rfl) (by kernel_rfl) (by kernel_rfl) (by kernel_rfl) (by kernel_rfl) (by kernel_rfl) (by kernel_rfl) rfl (InnL.cons trivial (InnL.cons trivial (InnL.cons trivial InnL.nil)))) (fun _ => rfl) fun _ wd195 v H196 hq => ?_
      clear H192 hd
      obtain ⟨g193, rfl, hq⟩ := hq
      replace hS : SH M X w [Ent.own 5 (tI .u8) ([9, 13, 10] : List Int) g193, Ent.own 5 (tI .u8) ([10, 9] : List Int) g185, Ent.own 44 tyToken y72.1 g73, Ent.gint 0] _ := hS.join [] [0, 1, 2] rfl rfl hq
      clear hq
      obtain ⟨y197, hy197, hm⟩ := bindE hm
      obtain ⟨y198, hy198, hm⟩ := bindE hm
      obtain ⟨y199, hy199, hm⟩ := bindE hm
      refine wl_batch 32 43 [(.bool y197), (.bool y198), (.bool y199)] [4, 6, 8, 9, 10, 13, 16, 19, 21, 23, 25, 26, 27] [(4, [], .int .i64 y33.2), (6, [], .int .i64 y50.2), (8, [], .int .i64 y65.2), (9, [], .slice g73.a y72.1.length g73.c), (10, [], .int .i64 y72.2), (13, [], .int .i64 y79.2.2), (16, [], .int .i64 y82.2.2), (19, [], .int .i64 y90.2.2), (21, [], .int .i64 y93.2), (23, [], .int .i64 y101.2), (25, [], .bool z110), (26, [], .bool z132), (27, [], .bool (cond (cond y197 y198 false) y199 false))] [fun wz => (true = true ∧ True → RetB Tryz.prog 23 ⟨[.string ⟨⟨[43, 32, 49]⟩⟩, .slice g193.a 3 g193.c]⟩ (.bool y197) wz), fun wz => (y197 = true ∧ True → RetB Tryz.prog 22 ⟨[.string ⟨⟨[49, 101]⟩⟩, .agg ⟨[.int .u8 12, .string ⟨⟨[]⟩⟩, .int .i64 1000, .string ⟨⟨[101]⟩⟩, .bool true]⟩]⟩ (.bool y198) wz), fun wz => ((cond y197 y198 false) = true ∧ True → RetB Tryz.prog 22 ⟨[.string ⟨⟨[49, 45, 45, 120]⟩⟩, .agg ⟨[.int .u8 12, .string ⟨⟨[]⟩⟩, .int .i64 1000, .string ⟨⟨[45, 45, 120]⟩⟩, .bool true]⟩]⟩ (.bool y199) wz)] H196 (by decide) (by kernel_rfl) ⟨fun hg => law02_kinds_ok (g_want := g193) m _ _ _ hy197 _ (s0im (s0gi s0nil (hS.gi 3 rfl)) (hS.osl 0 rfl)), fun hg => law02_is_ok m _ _ _ (bT (hg.1) hy198) _ (s0gi s0nil (hS.gi 3 rfl)), fun hg => law02_is_ok m _ _ _ (bT (hg.1) hy199) _ (s0gi s0nil (hS.gi 3 rfl)), trivial⟩ fun _ wd200 H201 hb => ?_
      clear H196
      replace hS := hS.below hb
      clear hb
      refine wl_end rfl ?_
      replace hS : SH M X w [Ent.own 44 tyToken y72.1 g73, Ent.gint 0] _ := hS.sel [2, 3] rfl
      obtain rfl := someE hm
      exact ⟨FrG.keep (ks := [4, 6, 8, 9, 10, 13, 16, 19, 21, 23, 25, 26, 27]) H201 (by kernel_rfl), hS⟩
     replace hm := bF rfl hm
     refine m_skipG 172 [173, 4, 6, 8, 9, 10, 13, 16, 19, 21, 23, 25, 26, 172] [(173, [], undef), (4, [], .int .i64 y33.2), (6, [], .int .i64 y50.2), (8, [], .int .i64 y65.2), (9, [], .slice g73.a y72.1.length g73.c), (10, [], .int .i64 y72.2), (13, [], .int .i64 y79.2.2), (16, [], .int .i64 y82.2.2), (19, [], .int .i64 y90.2.2), (21, [], .int .i64 y93.2), (23, [], .int .i64 y101.2), (25, [], .bool z110), (26, [], .bool z132), (172, [], .bool false)] H192 rfl rfl rfl rfl rfl rfl fun _ H202 => ?_
     clear H192
     refine m_skipG 172 [174, 4, 6, 8, 9, 10, 13, 16, 19, 21, 23, 25, 26, 172] [(174, [], undef), (4, [], .int .i64 y33.2), (6, [], .int .i64 y50.2), (8, [], .int .i64 y65.2), (9, [], .slice g73.a y72.1.length g73.c), (10, [], .int .i64 y72.2), (13, [], .int .i64 y79.2.2), (16, [], .int .i64 y82.2.2), (19, [], .int .i64 y90.2.2), (21, [], .int .i64 y93.2), (23, [], .int .i64 y101.2), (25, [], .bool z110), (26, [], .bool z132), (172, [], .bool false)] H202 rfl rfl rfl rfl rfl rfl fun _ H203 => ?_
     clear H202
     refine wl_batch 33 35 [] [4, 6, 8, 9, 10, 13, 16, 19, 21, 23, 25, 26, 176] [(4, [], .int .i64 y33.2), (6, [], .int .i64 y50.2), (8, [], .int .i64 y65.2), (9, [], .slice g73.a y72.1.length g73.c), (10, [], .int .i64 y72.2), (13, [], .int .i64 y79.2.2), (16, [], .int .i64 y82.2.2), (19, [], .int .i64 y90.2.2), (21, [], .int .i64 y93.2), (23, [], .int .i64 y101.2), (25, [], .bool z110), (26, [], .bool z132), (176, [], .bool false)] [] H203 (by decide) (by kernel_rfl) trivial fun _ wd204 H205 hb => ?_
     clear H203
     replace hS := hS.below hb
     clear hb
     refine m_skipG 176 [177, 4, 6, 8, 9, 10, 13, 16, 19, 21, 23, 25, 26, 176] [(177, [], undef), (4, [], .int .i64 y33.2), (6, [], .int .i64 y50.2), (8, [], .int .i64 y65.2), (9, [], .slice g73.a y72.1.length g73.c), (10, [], .int .i64 y72.2), (13, [], .int .i64 y79.2.2), (16, [], .int .i64 y82.2.2), (19, [], .int .i64 y90.2.2), (21, [], .int .i64 y93.2), (23, [], .int .i64 y101.2), (25, [], .bool z110), (26, [], .bool z132), (176, [], .bool false)] H205 rfl rfl rfl rfl rfl rfl fun _ H206 => ?_
     clear H205
     refine m_skipG 176 [178, 4, 6, 8, 9, 10, 13, 16, 19, 21, 23, 25, 26, 176] [(178, [], undef), (4, [], .int .i64 y33.2), (6, [], .int .i64 y50.2), (8, [], .int .i64 y65.2), (9, [], .slice g73.a y72.1.length g73.c), (10, [], .int .i64 y72.2), (13, [], .int .i64 y79.2.2), (16, [], .int .i64 y82.2.2), (19, [], .int .i64 y90.2.2), (21, [], .int .i64 y93.2), (23, [], .int .i64 y101.2), (25, [], .bool z110), (26, [], .bool z132), (176, [], .bool false)] H206 rfl rfl rfl rfl rfl rfl fun _ H207 => ?_
     clear H206
     refine wl_batch 37 39 [] [4, 6, 8, 9, 10, 13, 16, 19, 21, 23, 25, 26, 180] [(4, [], .int .i64 y33.2), (6, [], .int .i64 y50.2), (8, [], .int .i64 y65.2), (9, [], .slice g73.a y72.1.length g73.c), (10, [], .int .i64 y72.2), (13, [], .int .i64 y79.2.2), (16, [], .int .i64 y82.2.2), (19, [], .int .i64 y90.2.2), (21, [], .int .i64 y93.2), (23, [], .int .i64 y101.2), (25, [], .bool z110), (26, [], .bool z132), (180, [], .bool false)] [] H207 (by decide) (by kernel_rfl) trivial fun _ wd208 H209 hb => ?_
     clear H207
     replace hS := hS.below hb
     clear hb
     refine m_skipG 180 [181, 4, 6, 8, 9, 10, 13, 16, 19, 21, 23, 25, 26, 180] [(181, [], undef), (4, [], .int .i64 y33.2), (6, [], .int .i64 y50.2), (8, [], .int .i64 y65.2), (9, [], .slice g73.a y72.1.length g73.c), (10, [], .int .i64 y72.2), (13, [], .int .i64 y79.2.2), (16, [], .int .i64 y82.2.2), (19, [], .int .i64 y90.2.2), (21, [], .int .i64 y93.2), (23, [], .int .i64 y101.2), (25, [], .bool z110), (26, [], .bool z132), (180, [], .bool false)] H209 rfl rfl rfl rfl rfl rfl fun _ H210 => ?_
     clear H209
     refine m_skipG 180 [182, 4, 6, 8, 9, 10, 13, 16, 19, 21, 23, 25, 26, 180] [(182, [], undef), (4, [], .int .i64 y33.2), (6, [], .int .i64 y50.2), (8, [], .int .i64 y65.2), (9, [], .slice g73.a y72.1.length g73.c), (10, [], .int .i64 y72.2), (13, [], .int .i64 y79.2.2), (16, [], .int .i64 y82.2.2), (19, [], .int .i64 y90.2.2), (21, [], .int .i64 y93.2), (23, [], .int .i64 y101.2), (25, [], .bool z110), (26, [], .bool z132), (180, [], .bool false)] H210 rfl rfl rfl rfl rfl rfl fun _ H211 => ?_
     clear H210
     refine wl_batch 41 43 [] [4, 6, 8, 9, 10, 13, 16, 19, 21, 23, 25, 26, 27] [(4, [], .int .i64 y33.2), (6, [], .int .i64 y50.2), (8, [], .int .i64 y65.2), (9, [], .slice g73.a y72.1.length g73.c), (10, [], .int .i64 y72.2), (13, [], .int .i64 y79.2.2), (16, [], .int .i64 y82.2.2), (19, [], .int .i64 y90.2.2), (21, [], .int .i64 y93.2), (23, [], .int .i64 y101.2), (25, [], .bool z110), (26, [], .bool z132), (27, [], .bool false)] [] H211 (by decide) (by kernel_rfl) trivial fun _ wd212 H213 hb => ?_
     clear H211
     replace hS := hS.below hb
     clear hb
     refine wl_end rfl ?_
     replace hS : SH M X w [Ent.own 44 tyToken y72.1 g73, Ent.gint 0] _ := hS.sel [1, 2] rfl
     obtain rfl := someE hm
     exact ⟨FrG.keep (ks := [4, 6, 8, 9, 10, 13, 16, 19, 21, 23, 25, 26, 27]) H213 (by kernel_rfl), hS⟩
    ·rintro _ wd400 ⟨H, hS⟩
     obtain ⟨z230, hz, hm⟩ := bindE hm
     refine w_cut (fun a' w' => Fr 287 [(4, [], .int .i64 y33.2), (6, [], .int .i64 y50.2), (8, [], .int .i64 y65.2), (9, [], .slice g73.a y72.1.length g73.c), (10, [], .int .i64 y72.2), (13, [], .int .i64 y79.2.2), (16, [], .int .i64 y82.2.2), (19, [], .int .i64 y90.2.2), (21, [], .int .i64 y93.2), (23, [], .int .i64 y101.2), (25, [], .bool z110), (26, [], .bool z132), (27, [], .bool z172), (28, [], .bool z230)] a' ∧ SH M X w [Ent.own 44 tyToken y72.1 g73, Ent.gint 0] w') ?_ ?_
     ·replace hm := hz
      refine wl_start ?_
      have hd := hS.hand [] [0, 1] rfl rfl
      refine m_stp [184, 4, 6, 8, 9, 10, 13, 16, 19, 21, 23, 25, 26, 27] [(4, [], .int .i64 y33.2), (6, [], .int .i64 y50.2), (8, [], .int .i64 y65.2), (9, [], .slice g73.a y72.1.length g73.c), (10, [], .int .i64 y72.2), (13, [], .int .i64 y79.2.2), (16, [], .int .i64 y82.2.2), (19, [], .int .i64 y90.2.2), (21, [], .int .i64 y93.2), (23, [], .int .i64 y101.2), (25, [], .bool z110), (26, [], .bool z132), (27, [], .bool z172)] H rfl rfl rfl rfl (o_lit (T := (tI .u8)) (E := 5) (zv := .int .u8 0) [.int .u8 16, .int .u8 17, .int .u8 18, .int .u8 19, .int .u8 20, .int .u8 21, .int .u8 22, .int .u8 23, .int .u8 24] ([16, 17, 18, 19, 20, 21, 22, 23, 24] : List Int) [gL [], gL [], gL [], gL [], gL [], gL [], gL [], gL [], gL []] _ H hd rfl (by kernel_rfl) (by kernel_rfl) (by kernel_rfl) (by kernel_rfl) (by kernel_rfl) (by kernel_rfl) (by kernel_rfl) rfl (InnL.cons trivial (InnL.cons trivial (InnL.cons trivial (InnL.cons trivial (InnL.cons trivial (InnL.cons trivial (InnL.cons trivial (InnL.cons trivial (InnL.cons trivial InnL.nil)))))))))) (fun _ => rfl) fun _ wd233 v H234 hq => ?_
      clear H hd
      obtain ⟨g231, rfl, hq⟩ := hq
      replace hS : SH M X w [Ent.own 5 (tI .u8) ([16, 17, 18, 19, 20, 21, 22, 23, 24] : List Int) g231, Ent.own 44 tyToken y72.1 g73, Ent.gint 0] _ := hS.join [] [0, 1] rfl rfl hq
      clear hq
      obtain ⟨y235, hy235, hm⟩ := bindE hm
      obtain ⟨x236, hx236, hm⟩ := letE hm
      refine wl_batch 1 3 [(.bool y235)] [4, 6, 8, 9, 10, 13, 16, 19, 21, 23, 25, 26, 27, 186] [(4, [], .int .i64 y33.2), (6, [], .int .i64 y50.2), (8, [], .int .i64 y65.2), (9, [], .slice g73.a y72.1.length g73.c), (10, [], .int .i64 y72.2), (13, [], .int .i64 y79.2.2), (16, [], .int .i64 y82.2.2), (19, [], .int .i64 y90.2.2), (21, [], .int .i64 y93.2), (23, [], .int .i64 y101.2), (25, [], .bool z110), (26, [], .bool z132), (27, [], .bool z172), (186, [], .bool x236)] [fun wz => RetB Tryz.prog 23 ⟨[.string ⟨⟨[58, 59, 44, 91, 93, 40, 41, 123, 125]⟩⟩, .slice g231.a 9 g231.c]⟩ (.bool y235) wz] H234 (by decide) (by subst hx236; kernel_rfl) ⟨(law02_kinds_ok (g_want := g231) m _ _ _ hy235 _ (s0im (s0gi s0nil (hS.gi 2 rfl)) (hS.osl 0 rfl))), trivial⟩ fun _ wd237 H238 hb => ?_
      clear H234
      replace hS := hS.below hb
      clear hb
      cases x236
      case false =>
       replace hm := bF rfl hm
       refine m_skipG 186 [187, 4, 6, 8, 9, 10, 13, 16, 19, 21, 23, 25, 26, 27, 186] [(187, [], undef), (4, [], .int .i64 y33.2), (6, [], .int .i64 y50.2), (8, [], .int .i64 y65.2), (9, [], .slice g73.a y72.1.length g73.c), (10, [], .int .i64 y72.2), (13, [], .int .i64 y79.2.2), (16, [], .int .i64 y82.2.2), (19, [], .int .i64 y90.2.2), (21, [], .int .i64 y93.2), (23, [], .int .i64 y101.2), (25, [], .bool z110), (26, [], .bool z132), (27, [], .bool z172), (186, [], .bool false)] H238 rfl rfl rfl rfl rfl rfl fun _ H307 => ?_
       clear H238
       refine m_skipG 186 [188, 4, 6, 8, 9, 10, 13, 16, 19, 21, 23, 25, 26, 27, 186] [(188, [], undef), (4, [], .int .i64 y33.2), (6, [], .int .i64 y50.2), (8, [], .int .i64 y65.2), (9, [], .slice g73.a y72.1.length g73.c), (10, [], .int .i64 y72.2), (13, [], .int .i64 y79.2.2), (16, [], .int .i64 y82.2.2), (19, [], .int .i64 y90.2.2), (21, [], .int .i64 y93.2), (23, [], .int .i64 y101.2), (25, [], .bool z110), (26, [], .bool z132), (27, [], .bool z172), (186, [], .bool false)] H307 rfl rfl rfl rfl rfl rfl fun _ H308 => ?_
       clear H307
       refine wl_batch 5 7 [] [4, 6, 8, 9, 10, 13, 16, 19, 21, 23, 25, 26, 27, 190] [(4, [], .int .i64 y33.2), (6, [], .int .i64 y50.2), (8, [], .int .i64 y65.2), (9, [], .slice g73.a y72.1.length g73.c), (10, [], .int .i64 y72.2), (13, [], .int .i64 y79.2.2), (16, [], .int .i64 y82.2.2), (19, [], .int .i64 y90.2.2), (21, [], .int .i64 y93.2), (23, [], .int .i64 y101.2), (25, [], .bool z110), (26, [], .bool z132), (27, [], .bool z172), (190, [], .bool false)] [] H308 (by decide) (by kernel_rfl) trivial fun _ wd309 H310 hb => ?_
       clear H308
       replace hS := hS.below hb
       clear hb
       refine m_skipG 190 [191, 4, 6, 8, 9, 10, 13, 16, 19, 21, 23, 25, 26, 27, 190] [(191, [], undef), (4, [], .int .i64 y33.2), (6, [], .int .i64 y50.2), (8, [], .int .i64 y65.2), (9, [], .slice g73.a y72.1.length g73.c), (10, [], .int .i64 y72.2), (13, [], .int .i64 y79.2.2), (16, [], .int .i64 y82.2.2), (19, [], .int .i64 y90.2.2), (21, [], .int .i64 y93.2), (23, [], .int .i64 y101.2), (25, [], .bool z110), (26, [], .bool z132), (27, [], .bool z172), (190, [], .bool false)] H310 rfl rfl rfl rfl rfl rfl fun _ H311 => ?_
       clear H310
       refine m_skipG 190 [192, 4, 6, 8, 9, 10, 13, 16, 19, 21, 23, 25, 26, 27, 190] [(192, [], undef), (4, [], .int .i64 y33.2), (6, [], .int .i64 y50.2), (8, [], .int .i64 y65.2), (9, [], .slice g73.a y72.1.length g73.c), (10, [], .int .i64 y72.2), (13, [], .int .i64 y79.2.2), (16, [], .int .i64 y82.2.2), (19, [], .int .i64 y90.2.2), (21, [], .int .i64 y93.2), (23, [], .int .i64 y101.2), (25, [], .bool z110), (26, [], .bool z132), (27, [], .bool z172), (190, [], .bool false)] H311 rfl rfl rfl rfl rfl rfl fun _ H312 => ?_
       clear H311
       refine wl_batch 9 11 [] [4, 6, 8, 9, 10, 13, 16, 19, 21, 23, 25, 26, 27, 194] [(4, [], .int .i64 y33.2), (6, [], .int .i64 y50.2), (8, [], .int .i64 y65.2), (9, [], .slice g73.a y72.1.length g73.c), (10, [], .int .i64 y72.2), (13, [], .int .i64 y79.2.2), (16, [], .int .i64 y82.2.2), (19, [], .int .i64 y90.2.2), (21, [], .int .i64 y93.2), (23, [], .int .i64 y101.2), (25, [], .bool z110), (26, [], .bool z132), (27, [], .bool z172), (194, [], .bool false)] [] H312 (by decide) (by kernel_rfl) trivial fun _ wd313 H314 hb => ?_
       clear H312
       replace hS := hS.below hb
       clear hb
       refine m_skipG 194 [195, 4, 6, 8, 9, 10, 13, 16, 19, 21, 23, 25, 26, 27, 194] [(195, [], undef), (4, [], .int .i64 y33.2), (6, [], .int .i64 y50.2), (8, [], .int .i64 y65.2), (9, [], .slice g73.a y72.1.length g73.c), (10, [], .int .i64 y72.2), (13, [], .int .i64 y79.2.2), (16, [], .int .i64 y82.2.2), (19, [], .int .i64 y90.2.2), (21, [], .int .i64 y93.2), (23, [], .int .i64 y101.2), (25, [], .bool z110), (26, [], .bool z132), (27, [], .bool z172), (194, [], .bool false)] H314 rfl rfl rfl rfl rfl rfl fun _ H315 => ?_
       clear H314
       refine m_skipG 194 [196, 4, 6, 8, 9, 10, 13, 16, 19, 21, 23, 25, 26, 27, 194] [(196, [], undef), (4, [], .int .i64 y33.2), (6, [], .int .i64 y50.2), (8, [], .int .i64 y65.2), (9, [], .slice g73.a y72.1.length g73.c), (10, [], .int .i64 y72.2), (13, [], .int .i64 y79.2.2), (16, [], .int .i64 y82.2.2), (19, [], .int .i64 y90.2.2), (21, [], .int .i64 y93.2), (23, [], .int .i64 y101.2), (25, [], .bool z110), (26, [], .bool z132), (27, [], .bool z172), (194, [], .bool false)] H315 rfl rfl rfl rfl rfl rfl fun _ H316 => ?_
       clear H315
       refine wl_batch 13 15 [] [4, 6, 8, 9, 10, 13, 16, 19, 21, 23, 25, 26, 27, 198] [(4, [], .int .i64 y33.2), (6, [], .int .i64 y50.2), (8, [], .int .i64 y65.2), (9, [], .slice g73.a y72.1.length g73.c), (10, [], .int .i64 y72.2), (13, [], .int .i64 y79.2.2), (16, [], .int .i64 y82.2.2), (19, [], .int .i64 y90.2.2), (21, [], .int .i64 y93.2), (23, [], .int .i64 y101.2), (25, [], .bool z110), (26, [], .bool z132), (27, [], .bool z172), (198, [], .bool false)] [] H316 (by decide) (by kernel_rfl) trivial fun _ wd317 H318 hb => ?_
       clear H316
       replace hS := hS.below hb
       clear hb
       refine m_skipG 198 [199, 4, 6, 8, 9, 10, 13, 16, 19, 21, 23, 25, 26, 27, 198] [(199, [], undef), (4, [], .int .i64 y33.2), (6, [], .int .i64 y50.2), (8, [], .int .i64 y65.2), (9, [], .slice g73.a y72.1.length g73.c), (10, [], .int .i64 y72.2), (13, [], .int .i64 y79.2.2), (16, [], .int .i64 y82.2.2), (19, [], .int .i64 y90.2.2), (21, [], .int .i64 y93.2), (23, [], .int .i64 y101.2), (25, [], .bool z110), (26, [], .bool z132), (27, [], .bool z172), (198, [], .bool false)] H318 rfl rfl rfl rfl rfl rfl fun _ H319 => ?_
       clear H318
       refine m_skipG 198 [200, 4, 6, 8, 9, 10, 13, 16, 19, 21, 23, 25, 26, 27, 198] [(200, [], undef), (4, [], .int .i64 y33.2), (6, [], .int .i64 y50.2), (8, [], .int .i64 y65.2), (9, [], .slice g73.a y72.1.length g73.c), (10, [], .int .i64 y72.2), (13, [], .int .i64 y79.2.2), (16, [], .int .i64 y82.2.2), (19, [], .int .i64 y90.2.2), (21, [], .int .i64 y93.2), (23, [], .int .i64 y101.2), (25, [], .bool z110), (26, [], .bool z132), (27, [], .bool z172), (198, [], .bool false)] H319 rfl rfl rfl rfl rfl rfl fun _ H320 => ?_
       clear H319
       refine wl_batch 17 19 [] [4, 6, 8, 9, 10, 13, 16, 19, 21, 23, 25, 26, 27, 202] [(4, [], .int .i64 y33.2), (6, [], .int .i64 y50.2), (8, [], .int .i64 y65.2), (9, [], .slice g73.a y72.1.length g73.c), (10, [], .int .i64 y72.2), (13, [], .int .i64 y79.2.2), (16, [], .int .i64 y82.2.2), (19, [], .int .i64 y90.2.2), (21, [], .int .i64 y93.2), (23, [], .int .i64 y101.2), (25, [], .bool z110), (26, [], .bool z132), (27, [], .bool z172), (202, [], .bool false)] [] H320 (by decide) (by kernel_rfl) trivial fun _ wd321 H322 hb => ?_
       clear H320
       replace hS := hS.below hb
       clear hb
       refine m_skipG 202 [203, 4, 6, 8, 9, 10, 13, 16, 19, 21, 23, 25, 26, 27, 202] [(203, [], undef), (4, [], .int .i64 y33.2), (6, [], .int .i64 y50.2), (8, [], .int .i64 y65.2), (9, [], .slice g73.a y72.1.length g73.c), (10, [], .int .i64 y72.2), (13, [], .int .i64 y79.2.2), (16, [], .int .i64 y82.2.2), (19, [], .int .i64 y90.2.2), (21, [], .int .i64 y93.2), (23, [], .int .i64 y101.2), (25, [], .bool z110), (26, [], .bool z132), (27, [], .bool z172), (202, [], .bool false)] H322 rfl rfl rfl rfl rfl rfl fun _ H323 => ?_
       clear H322
       refine m_skipG 202 [204, 4, 6, 8, 9, 10, 13, 16, 19, 21, 23, 25, 26, 27, 202] [(204, [], undef), (4, [], .int .i64 y33.2), (6, [], .int .i64 y50.2), (8, [], .int .i64 y65.2), (9, [], .slice g73.a y72.1.length g73.c), (10, [], .int .i64 y72.2), (13, [], .int .i64 y79.2.2), (16, [], .int .i64 y82.2.2), (19, [], .int .i64 y90.2.2), (21, [], .int .i64 y93.2), (23, [], .int .i64 y101.2), (25, [], .bool z110), (26, [], .bool z132), (27, [], .bool z172), (202, [], .bool false)] H323 rfl rfl rfl rfl rfl rfl fun _ H324 => ?_
       clear H323
       refine wl_batch 21 23 [] [4, 6, 8, 9, 10, 13, 16, 19, 21, 23, 25, 26, 27, 28] [(4, [], .int .i64 y33.2), (6, [], .int .i64 y50.2), (8, [], .int .i64 y65.2), (9, [], .slice g73.a y72.1.length g73.c), (10, [], .int .i64 y72.2), (13, [], .int .i64 y79.2.2), (16, [], .int .i64 y82.2.2), (19, [], .int .i64 y90.2.2), (21, [], .int .i64 y93.2), (23, [], .int .i64 y101.2), (25, [], .bool z110), (26, [], .bool z132), (27, [], .bool z172), (28, [], .bool false)] [] H324 (by decide) (by kernel_rfl) trivial fun _ wd325 H326 hb => ?_
       clear H324
       replace hS := hS.below hb
       clear hb
       refine wl_end rfl ?_
       replace hS : SH M X w [Ent.own 44 tyToken y72.1 g73, Ent.gint 0] _ := hS.sel [1, 2] rfl
       obtain rfl := someE hm
       exact ⟨FrG.keep (ks := [4, 6, 8, 9, 10, 13, 16, 19, 21, 23, 25, 26, 27, 28]) H326 (by kernel_rfl), hS⟩
      replace hm := bT rfl hm
      have hd := hS.hand [] [0, 1, 2] rfl rfl
      refine m_stpG 186 [187, 4, 6, 8, 9, 10, 13, 16, 19, 21, 23, 25, 26, 27, 186] [(4, [], .int .i64 y33.2), (6, [], .int .i64 y50.2), (8, [], .int .i64 y65.2), (9, [], .slice g73.a y72.1.length g73.c), (10, [], .int .i64 y72.2), (13, [], .int .i64 y79.2.2), (16, [], .int .i64 y82.2.2), (19, [], .int .i64 y90.2.2), (21, [], .int .i64 y93.2), (23, [], .int .i64 y101.2), (25, [], .bool z110), (26, [], .bool z132), (27, [], .bool z172), (186, [], .bool true)] H238 rfl rfl rfl rfl (o_lit (T := (tI .u8)) (E := 5) (zv := .int .u8 0) [.int .u8 14, .int .u8 15] ([14, 15] : List Int) [gL [], gL []] _ H238 hd rfl (by kernel_rfl) (by kernel_rfl) (by kernel_rfl) (by kernel_rfl) (by kernel_rfl) (by kernel_rfl) (by kernel_rfl) rfl (InnL.cons trivial (InnL.cons trivial InnL.nil))) (fun _ => rfl) fun _ wd241 v H242 hq => ?_
      clear H238 hd
      obtain ⟨g239, rfl, hq⟩ := hq
      replace hS : SH M X w [Ent.own 5 (tI .u8) ([14, 15] : List Int) g239, Ent.own 5 (tI .u8) ([16, 17, 18, 19, 20, 21, 22, 23, 24] : List Int) g231, Ent.own 44 tyToken y72.1 g73, Ent.gint 0] _ := hS.join [] [0, 1, 2] rfl rfl hq
      clear hq
      obtain ⟨y243, hy243, hm⟩ := bindE hm
      obtain ⟨x244, hx244, hm⟩ := letE hm
      refine wl_batch 4 7 [(.bool y243)] [4, 6, 8, 9, 10, 13, 16, 19, 21, 23, 25, 26, 27, 190] [(4, [], .int .i64 y33.2), (6, [], .int .i64 y50.2), (8, [], .int .i64 y65.2), (9, [], .slice g73.a y72.1.length g73.c), (10, [], .int .i64 y72.2), (13, [], .int .i64 y79.2.2), (16, [], .int .i64 y82.2.2), (19, [], .int .i64 y90.2.2), (21, [], .int .i64 y93.2), (23, [], .int .i64 y101.2), (25, [], .bool z110), (26, [], .bool z132), (27, [], .bool z172), (190, [], .bool x244)] [fun wz => (true = true ∧ True → RetB Tryz.prog 23 ⟨[.string ⟨⟨[60, 33, 45, 45, 45, 45, 62]⟩⟩, .slice g239.a 2 g239.c]⟩ (.bool y243) wz)] H242 (by decide) (by subst hx244; kernel_rfl) ⟨fun hg => law02_kinds_ok (g_want := g239) m _ _ _ hy243 _ (s0im (s0gi s0nil (hS.gi 3 rfl)) (hS.osl 0 rfl)), trivial⟩ fun _ wd245 H246 hb => ?_
      clear H242
      replace hS := hS.below hb
      clear hb
      cases x244
      case false =>
       replace hm := bF rfl hm
       refine m_skipG 190 [191, 4, 6, 8, 9, 10, 13, 16, 19, 21, 23, 25, 26, 27, 190] [(191, [], undef), (4, [], .int .i64 y33.2), (6, [], .int .i64 y50.2), (8, [], .int .i64 y65.2), (9, [], .slice g73.a y72.1.length g73.c), (10, [], .int .i64 y72.2), (13, [], .int .i64 y79.2.2), (16, [], .int .i64 y82.2.2), (19, [], .int .i64 y90.2.2), (21, [], .int .i64 y93.2), (23, [], .int .i64 y101.2), (25, [], .bool z110), (26, [], .bool z132), (27, [], .bool z172), (190, [], .bool false)] H246 rfl rfl rfl rfl rfl rfl fun _ H291 => ?_
       clear H246
       refine m_skipG 190 [192, 4, 6, 8, 9, 10, 13, 16, 19, 21, 23, 25, 26, 27, 190] [(192, [], undef), (4, [], .int .i64 y33.2), (6, [], .int .i64 y50.2), (8, [], .int .i64 y65.2), (9, [], .slice g73.a y72.1.length g73.c), (10, [], .int .i64 y72.2), (13, [], .int .i64 y79.2.2), (16, [], .int .i64 y82.2.2), (19, [], .int .i64 y90.2.2), (21, [], .int .i64 y93.2), (23, [], .int .i64 y101.2), (25, [], .bool z110), (26, [], .bool z132), (27, [], .bool z172), (190, [], .bool false)] H291 rfl rfl rfl rfl rfl rfl fun _ H292 => ?_
       clear H291
       refine wl_batch 9 11 [] [4, 6, 8, 9, 10, 13, 16, 19, 21, 23, 25, 26, 27, 194] [(4, [], .int .i64 y33.2), (6, [], .int .i64 y50.2), (8, [], .int .i64 y65.2), (9, [], .slice g73.a y72.1.length g73.c), (10, [], .int .i64 y72.2), (13, [], .int .i64 y79.2.2), (16, [], .int .i64 y82.2.2), (19, [], .int .i64 y90.2.2), (21, [], .int .i64 y93.2), (23, [], .int .i64 y101.2), (25, [], .bool z110), (26, [], .bool z132), (27, [], .bool z172), (194, [], .bool false)] [] H292 (by decide) (by kernel_rfl) trivial fun _ wd293 H294 hb => ?_
       clear H292
       replace hS := hS.below hb
       clear hb
       refine m_skipG 194 [195, 4, 6, 8, 9, 10, 13, 16, 19, 21, 23, 25, 26, 27, 194] [(195, [], undef), (4, [], .int .i64 y33.2), (6, [], .int .i64 y50.2), (8, [], .int .i64 y65.2), (9, [], .slice g73.a y72.1.length g73.c), (10, [], .int .i64 y72.2), (13, [], .int .i64 y79.2.2), (16, [], .int .i64 y82.2.2), (19, [], .int .i64 y90.2.2), (21, [], .int .i64 y93.2), (23, [], .int .i64 y101.2), (25, [], .bool z110), (26, [], .bool z132), (27, [], .bool z172), (194, [], .bool false)] H294 rfl rfl rfl rfl rfl rfl fun _ H295 => ?_
       clear H294
       refine m_skipG 194 [196, 4, 6, 8, 9, 10, 13, 16, 19, 21, 23, 25, 26, 27, 194] [(196, [], undef), (4, [], .int .i64 y33.2), (6, [], .int .i64 y50.2), (8, [], .int .i64 y65.2), (9, [], .slice g73.a y72.1.length g73.c), (10, [], .int .i64 y72.2), (13, [], .int .i64 y79.2.2), (16, [], .int .i64 y82.2.2), (19, [], .int .i64 y90.2.2), (21, [], .int .i64 y93.2), (23, [], .int .i64 y101.2), (25, [], .bool z110), (26, [], .bool z132), (27, [], .bool z172), (194, [], .bool false)] H295 rfl rfl rfl rfl rfl rfl fun _ H296 => ?_
       clear H295
       refine wl_batch 13 15 [] [4, 6, 8, 9, 10, 13, 16, 19, 21, 23, 25, 26, 27, 198] [(4, [], .int .i64 y33.2), (6, [], .int .i64 y50.2), (8, [], .int .i64 y65.2), (9, [], .slice g73.a y72.1.length g73.c), (10, [], .int .i64 y72.2), (13, [], .int .i64 y79.2.2), (16, [], .int .i64 y82.2.2), (19, [], .int .i64 y90.2.2), (21, [], .int .i64 y93.2), (23, [], .int .i64 y101.2), (25, [], .bool z110), (26, [], .bool z132), (27, [], .bool z172), (198, [], .bool false)] [] H296 (by decide) (by kernel_rfl) trivial fun _ wd297 H298 hb => ?_
       clear H296
       replace hS := hS.below hb
       clear hb
       refine m_skipG 198 [199, 4, 6, 8, 9, 10, 13, 16, 19, 21, 23, 25, 26, 27, 198] [(199, [], undef), (4, [], .int .i64 y33.2), (6, [], .int .i64 y50.2), (8, [], .int .i64 y65.2), (9, [], .slice g73.a y72.1.length g73.c), (10, [], .int .i64 y72.2), (13, [], .int .i64 y79.2.2), (16, [], .int .i64 y82.2.2), (19, [], .int .i64 y90.2.2), (21, [], .int .i64 y93.2), (23, [], .int .i64 y101.2), (25, [], .bool z110), (26, [], .bool z132), (27, [], .bool z172), (198, [], .bool false)] H298 rfl rfl rfl rfl rfl rfl fun _ H299 => ?_
       clear H298
       refine m_skipG 198 [200, 4, 6, 8, 9, 10, 13, 16, 19, 21, 23, 25, 26, 27, 198] [(200, [], undef), (4, [], .int .i64 y33.2), (6, [], .int .i64 y50.2), (8, [], .int .i64 y65.2), (9, [], .slice g73.a y72.1.length g73.c), (10, [], .int .i64 y72.2), (13, [], .int .i64 y79.2.2), (16, [], .int .i64 y82.2.2), (19, [], .int .i64 y90.2.2), (21, [], .int .i64 y93.2), (23, [], .int .i64 y101.2), (25, [], .bool z110), (26, [], .bool z132), (27, [], .bool z172), (198, [], .bool false)] H299 rfl rfl rfl rfl rfl rfl fun _ H300 => ?_
       clear H299
       refine wl_batch 17 19 [] [4, 6, 8, 9, 10, 13, 16, 19, 21, 23, 25, 26, 27, 202] [(4, [], .int .i64 y33.2), (6, [], .int .i64 y50.2), (8, [], .int .i64 y65.2), (9, [], .slice g73.a y72.1.length g73.c), (10, [], .int .i64 y72.2), (13, [], .int .i64 y79.2.2), (16, [], .int .i64 y82.2.2), (19, [], .int .i64 y90.2.2), (21, [], .int .i64 y93.2), (23, [], .int .i64 y101.2), (25, [], .bool z110), (26, [], .bool z132), (27, [], .bool z172), (202, [], .bool false)] [] H300 (by decide) (by kernel_rfl) trivial fun _ wd301 H302 hb => ?_
       clear H300
       replace hS := hS.below hb
       clear hb
       refine m_skipG 202 [203, 4, 6, 8, 9, 10, 13, 16, 19, 21, 23, 25, 26, 27, 202] [(203, [], undef), (4, [], .int .i64 y33.2), (6, [], .int .i64 y50.2), (8, [], .int .i64 y65.2), (9, [], .slice g73.a y72.1.length g73.c), (10, [], .int .i64 y72.2), (13, [], .int .i64 y79.2.2), (16, [], .int .i64 y82.2.2), (19, [], .int .i64 y90.2.2), (21, [], .int .i64 y93.2), (23, [], .int .i64 y101.2), (25, [], .bool z110), (26, [], .bool z132), (27, [], .bool z172), (202, [], .bool false)] H302 rfl rfl rfl rfl rfl rfl fun _ H303 => ?_
       clear H302
       refine m_skipG 202 [204, 4, 6, 8, 9, 10, 13, 16, 19, 21, 23, 25, 26, 27, 202] [(204, [], undef), (4, [], .int .i64 y33.2), (6, [], .int .i64 y50.2), (8, [], .int .i64 y65.2), (9, [], .slice g73.a y72.1.length g73.c), (10, [], .int .i64 y72.2), (13, [], .int .i64 y79.2.2), (16, [], .int .i64 y82.2.2), (19, [], .int .i64 y90.2.2), (21, [], .int .i64 y93.2), (23, [], .int .i64 y101.2), (25, [], .bool z110), (26, [], .bool z132), (27, [], .bool z172), (202, [], .bool false)] H303 rfl rfl rfl rfl rfl rfl fun _ H304 => ?_
       clear H303
       refine wl_batch 21 23 [] [4, 6, 8, 9, 10, 13, 16, 19, 21, 23, 25, 26, 27, 28] [(4, [], .int .i64 y33.2), (6, [], .int .i64 y50.2), (8, [], .int .i64 y65.2), (9, [], .slice g73.a y72.1.length g73.c), (10, [], .int .i64 y72.2), (13, [], .int .i64 y79.2.2), (16, [], .int .i64 y82.2.2), (19, [], .int .i64 y90.2.2), (21, [], .int .i64 y93.2), (23, [], .int .i64 y101.2), (25, [], .bool z110), (26, [], .bool z132), (27, [], .bool z172), (28, [], .bool false)] [] H304 (by decide) (by kernel_rfl) trivial fun _ wd305 H306 hb => ?_
       clear H304
       replace hS := hS.below hb
       clear hb
       refine wl_end rfl ?_
       replace hS : SH M X w [Ent.own 44 tyToken y72.1 g73, Ent.gint 0] _ := hS.sel [2, 3] rfl
       obtain rfl := someE hm
       exact ⟨FrG.keep (ks := [4, 6, 8, 9, 10, 13, 16, 19, 21, 23, 25, 26, 27, 28]) H306 (by kernel_rfl), hS⟩
      replace hm := bT rfl hm
      have hd := hS.hand [] [0, 1, 2, 3] rfl rfl
      refine m_stpG 190 [191, 4, 6, 8, 9, 10, 13, 16, 19, 21, 23, 25, 26, 27, 190] [(4, [], .int .i64 y33.2), (6, [], .int .i64 y50.2), (8, [], .int .i64 y65.2), (9, [], .slice g73.a y72.1.length g73.c), (10, [], .int .i64 y72.2), (13, [], .int .i64 y79.2.2), (16, [], .int .i64 y82.2.2), (19, [], .int .i64 y90.2.2), (21, [], .int .i64 y93.2), (23, [], .int .i64 y101.2), (25, [], .bool z110), (26, [], .bool z132), (27, [], .bool z172), (190, [], .bool true)] H246 rfl rfl rfl rfl (o_lit (T := (tI .u8)) (E := 5) (zv := .int .u8 0) [.int .u8 15, .int .u8 1] ([15, 1] : List Int) [gL [], gL []] _ H246 hd rfl (by kernel_rfl) (by kernel_rfl) (by kernel_rfl) (by kernel_rfl) (by kernel_rfl) (by kernel_rfl) (by kernel_rfl) rfl (InnL.cons trivial (InnL.cons trivial InnL.nil))) (fun _ => rfl) fun _ wd249 v H250 hq => ?_
      clear H246 hd
      obtain ⟨g247, rfl, hq⟩ := hq
      replace hS : SH M X w [Ent.own 5 (tI .u8) ([15, 1] : List Int) g247, Ent.own 5 (tI .u8) ([14, 15] : List Int) g239, Ent.own 5 (tI .u8) ([16, 17, 18, 19, 20, 21, 22, 23, 24] : List Int) g231, Ent.own 44 tyToken y72.1 g73, Ent.gint 0] _ := hS.join [] [0, 1, 2, 3] rfl rfl hq
      clear hq
      obtain ⟨y251, hy251, hm⟩ := bindE hm
      obtain ⟨x252, hx252, hm⟩ := letE hm
      refine wl_batch 8 11 [(.bool y251)] [4, 6, 8, 9, 10, 13, 16, 19, 21, 23, 25, 26, 27, 194] [(4, [], .int .i64 y33.2), (6, [], .int .i64 y50.2), (8, [], .int .i64 y65.2), (9, [], .slice g73.a y72.1.length g73.c), (10, [], .int .i64 y72.2), (13, [], .int .i64 y79.2.2), (16, [], .int .i64 y82.2.2), (19, [], .int .i64 y90.2.2), (21, [], .int .i64 y93.2), (23, [], .int .i64 y101.2), (25, [], .bool z110), (26, [], .bool z132), (27, [], .bool z172), (194, [], .bool x252)] [fun wz => (true = true ∧ True → RetB Tryz.prog 23 ⟨[.string ⟨⟨[45, 45, 62, 45, 45]⟩⟩, .slice g247.a 2 g247.c]⟩ (.bool y251) wz)] H250 (by decide) (by subst hx252; kernel_rfl) ⟨fun hg => law02_kinds_ok (g_want := g247) m _ _ _ hy251 _ (s0im (s0gi s0nil (hS.gi 4 rfl)) (hS.osl 0 rfl)), trivial⟩ fun _ wd253 H254 hb => ?_
      clear H250
      replace hS := hS.below hb
      clear hb
      cases x252
      case false =>
       replace hm := bF rfl hm
       refine m_skipG 194 [195, 4, 6, 8, 9, 10, 13, 16, 19, 21, 23, 25, 26, 27, 194] [(195, [], undef), (4, [], .int .i64 y33.2), (6, [], .int .i64 y50.2), (8, [], .int .i64 y65.2), (9, [], .slice g73.a y72.1.length g73.c), (10, [], .int .i64 y72.2), (13, [], .int .i64 y79.2.2), (16, [], .int .i64 y82.2.2), (19, [], .int .i64 y90.2.2), (21, [], .int .i64 y93.2), (23, [], .int .i64 y101.2), (25, [], .bool z110), (26, [], .bool z132), (27, [], .bool z172), (194, [], .bool false)] H254 rfl rfl rfl rfl rfl rfl fun _ H279 => ?_
       clear H254
       refine m_skipG 194 [196, 4, 6, 8, 9, 10, 13, 16, 19, 21, 23, 25, 26, 27, 194] [(196, [], undef), (4, [], .int .i64 y33.2), (6, [], .int .i64 y50.2), (8, [], .int .i64 y65.2), (9, [], .slice g73.a y72.1.length g73.c), (10, [], .int .i64 y72.2), (13, [], .int .i64 y79.2.2), (16, [], .int .i64 y82.2.2), (19, [], .int .i64 y90.2.2), (21, [], .int .i64 y93.2), (23, [], .int .i64 y101.2), (25, [], .bool z110), (26, [], .bool z132), (27, [], .bool z172), (194, [], .bool false)] H279 rfl rfl rfl rfl rfl rfl fun _ H280 => ?_
       clear H279
       refine wl_batch 13 15 [] [4, 6, 8, 9, 10, 13, 16, 19, 21, 23, 25, 26, 27, 198] [(4, [], .int .i64 y33.2), (6, [], .int .i64 y50.2), (8, [], .int .i64 y65.2), (9, [], .slice g73.a y72.1.length g73.c), (10, [], .int .i64 y72.2), (13, [], .int .i64 y79.2.2), (16, [], .int .i64 y82.2.2), (19, [], .int .i64 y90.2.2), (21, [], .int .i64 y93.2), (23, [], .int .i64 y101.2), (25, [], .bool z110), (26, [], .bool z132), (27, [], .bool z172), (198, [], .bool false)] [] H280 (by decide) (by kernel_rfl) trivial fun _ wd281 H282 hb => ?_
       clear H280
       replace hS := hS.below hb
       clear hb
       refine m_skipG 198 [199, 4, 6, 8, 9, 10, 13, 16, 19, 21, 23, 25, 26, 27, 198] [(199, [], undef), (4, [], .int .i64 y33.2), (6, [], .int .i64 y50.2), (8, [], .int .i64 y65.2), (9, [], .slice g73.a y72.1.length g73.c), (10, [], .int .i64 y72.2), (13, [], .int .i64 y79.2.2), (16, [], .int .i64 y82.2.2), (19, [], .int .i64 y90.2.2), (21, [], .int .i64 y93.2), (23, [], .int .i64 y101.2), (25, [], .bool z110), (26, [], .bool z132), (27, [], .bool z172), (198, [], .bool false)] H282 rfl rfl rfl rfl rfl rfl fun _ H283 => ?_
       clear H282
       refine m_skipG 198 [200, 4, 6, 8, 9, 10, 13, 16, 19, 21, 23, 25, 26, 27, 198] [(200, [], undef), (4, [], .int .i64 y33.2), (6, [], .int .i64 y50.2), (8, [], .int .i64 y65.2), (9, [], .slice g73.a y72.1.length g73.c), (10, [], .int .i64 y72.2), (13, [], .int .i64 y79.2.2), (16, [], .int .i64 y82.2.2), (19, [], .int .i64 y90.2.2), (21, [], .int .i64 y93.2), (23, [], .int .i64 y101.2), (25, [], .bool z110), (26, [], .bool z132), (27, [], .bool z172), (198, [], .bool false)] H283 rfl rfl rfl rfl rfl rfl fun _ H284 => ?_
       clear H283
       refine wl_batch 17 19 [] [4, 6, 8, 9, 10, 13, 16, 19, 21, 23, 25, 26, 27, 202] [(4, [], .int .i64 y33.2), (6, [], .int .i64 y50.2), (8, [], .int .i64 y65.2), (9, [], .slice g73.a y72.1.length g73.c), (10, [], .int .i64 y72.2), (13, [], .int .i64 y79.2.2), (16, [], .int .i64 y82.2.2), (19, [], .int .i64 y90.2.2), (21, [], .int .i64 y93.2), (23, [], .int .i64 y101.2), (25, [], .bool z110), (26, [], .bool z132), (27, [], .bool z172), (202, [], .bool false)] [] H284 (by decide) (by kernel_rfl) trivial fun _ wd285 H286 hb => ?_
       clear H284
       replace hS := hS.below hb
       clear hb
       refine m_skipG 202 [203, 4, 6, 8, 9, 10, 13, 16, 19, 21, 23, 25, 26, 27, 202] [(203, [], undef), (4, [], .int .i64 y33.2), (6, [], .int .i64 y50.2), (8, [], .int .i64 y65.2), (9, [], .slice g73.a y72.1.length g73.c), (10, [], .int .i64 y72.2), (13, [], .int .i64 y79.2.2), (16, [], .int .i64 y82.2.2), (19, [], .int .i64 y90.2.2), (21, [], .int .i64 y93.2), (23, [], .int .i64 y101.2), (25, [], .bool z110), (26, [], .bool z132), (27, [], .bool z172), (202, [], .bool false)] H286 rfl rfl rfl rfl rfl rfl fun _ H287 => ?_
       clear H286
       refine m_skipG 202 [204, 4, 6, 8, 9, 10, 13, 16, 19, 21, 23, 25, 26, 27, 202] [(204, [], undef), (4, [], .int .i64 y33.2), (6, [], .int .i64 y50.2), (8, [], .int .i64 y65.2), (9, [], .slice g73.a y72.1.length g73.c), (10, [], .int .i64 y72.2), (13, [], .int .i64 y79.2.2), (16, [], .int .i64 y82.2.2), (19, [], .int .i64 y90.2.2), (21, [], .int .i64 y93.2), (23, [], .int .i64 y101.2), (25, [], .bool z110), (26, [], .bool z132), (27, [], .bool z172), (202, [], .bool false)] H287 rfl rfl rfl rfl rfl rfl fun _ H288 => ?_
       clear H287
       refine wl_batch 21 23 [] [4, 6, 8, 9, 10, 13, 16, 19, 21, 23, 25, 26, 27, 28] [(4, [], .int .i64 y33.2), (6, [], .int .i64 y50.2), (8, [], .int .i64 y65.2), (9, [], .slice g73.a y72.1.length g73.c), (10, [], .int .i64 y72.2), (13, [], .int .i64 y79.2.2), (16, [], .int .i64 y82.2.2), (19, [], .int .i64 y90.2.2), (21, [], .int .i64 y93.2), (23, [], .int .i64 y101.2), (25, [], .bool z110), (26, [], .bool z132), (27, [], .bool z172), (28, [], .bool false)] [] H288 (by decide) (by kernel_rfl) trivial fun _ wd289 H290 hb => ?_
       clear H288
       replace hS := hS.below hb
       clear hb
       refine wl_end rfl ?_
       replace hS : SH M X w [Ent.own 44 tyToken y72.1 g73, Ent.gint 0] _ := hS.sel [3, 4] rfl
       obtain rfl := someE hm
       exact ⟨FrG.keep (ks := [4, 6, 8, 9, 10, 13, 16, 19, 21, 23, 25, 26, 27, 28]) H290 (by kernel_rfl), hS⟩
      replace hm := bT rfl hm
      have hd := hS.hand [] [0, 1, 2, 3, 4] rfl rfl
      refine m_stpG 194 [195, 4, 6, 8, 9, 10, 13, 16, 19, 21, 23, 25, 26, 27, 194] [(4, [], .int .i64 y33.2), (6, [], .int .i64 y50.2), (8, [], .int .i64 y65.2), (9, [], .slice g73.a y72.1.length g73.c), (10, [], .int .i64 y72.2), (13, [], .int .i64 y79.2.2), (16, [], .int .i64 y82.2.2), (19, [], .int .i64 y90.2.2), (21, [], .int .i64 y93.2), (23, [], .int .i64 y101.2), (25, [], .bool z110), (26, [], .bool z132), (27, [], .bool z172), (194, [], .bool true)] H254 rfl rfl rfl rfl (o_lit (T := (tI .u8)) (E := 5) (zv := .int .u8 0) [.int .u8 3, .int .u8 13, .int .u8 9, .int .u8 10] ([3, 13, 9, 10] : List Int) [gL [], gL [], gL [], gL []] _ H254 hd rfl (by kernel_rfl) (by kernel_rfl) (by kernel_rfl) (by kernel_rfl) (by kernel_rfl) (by kernel_rfl) (by kernel_rfl) rfl (InnL.cons trivial (InnL.cons trivial (InnL.cons trivial (InnL.cons trivial InnL.nil))))) (fun _ => rfl) fun _ wd257 v H258 hq => ?_
      clear H254 hd
      obtain ⟨g255, rfl, hq⟩ := hq
      replace hS : SH M X w [Ent.own 5 (tI .u8) ([3, 13, 9, 10] : List Int) g255, Ent.own 5 (tI .u8) ([15, 1] : List Int) g247, Ent.own 5 (tI .u8) ([14, 15] : List Int) g239, Ent.own 5 (tI .u8) ([16, 17, 18, 19, 20, 21, 22, 23, 24] : List Int) g231, Ent.own 44 tyToken y72.1 g73, Ent.gint 0] _ := hS.join [] [0, 1, 2, 3, 4] rfl rfl hq
      clear hq
      obtain ⟨y259, hy259, hm⟩ := bindE hm
      obtain ⟨x260, hx260, hm⟩ := letE hm
      refine wl_batch 12 15 [(.bool y259)] [4, 6, 8, 9, 10, 13, 16, 19, 21, 23, 25, 26, 27, 198] [(4, [], .int .i64 y33.2), (6, [], .int .i64 y50.2), (8, [], .int .i64 y65.2), (9, [], .slice g73.a y72.1.length g73.c), (10, [], .int .i64 y72.2), (13, [], .int .i64 y79.2.2), (16, [], .int .i64 y82.2.2), (19, [], .int .i64 y90.2.2), (21, [], .int .i64 y93.2), (23, [], .int .i64 y101.2), (25, [], .bool z110), (26, [], .bool z132), (27, [], .bool z172), (198, [], .bool x260)] [fun wz => (true = true ∧ True → RetB Tryz.prog 23 ⟨[.string ⟨⟨[64, 109, 101, 100, 105, 97, 32, 64, 49]⟩⟩, .slice g255.a 4 g255.c]⟩ (.bool y259) wz)] H258 (by decide) (by subst hx260; kernel_rfl) ⟨fun hg => law02_kinds_ok (g_want := g255) m _ _ _ hy259 _ (s0im (s0gi s0nil (hS.gi 5 rfl)) (hS.osl 0 rfl)), trivial⟩ fun _ wd261 H262 hb => ?_
      clear H258
      replace hS := hS.below hb
      clear hb
      cases x260
      case true =>
       replace hm := bT rfl hm
       have hd := hS.hand [] [0, 1, 2, 3, 4, 5] rfl rfl
       refine m_stpG 198 [199, 4, 6, 8, 9, 10, 13, 16, 19, 21, 23, 25, 26, 27, 198] [(4, [], .int .i64 y33.2), (6, [], .int .i64 y50.2), (8, [], .int .i64 y65.2), (9, [], .slice g73.a y72.1.length g73.c), (10, [], .int .i64 y72.2), (13, [], .int .i64 y79.2.2), (16, [], .int .i64 y82.2.2), (19, [], .int .i64 y90.2.2), (21, [], .int .i64 y93.2), (23, [], .int .i64 y101.2), (25, [], .bool z110), (26, [], .bool z132), (27, [], .bool z172), (198, [], .bool true)] H262 rfl rfl rfl rfl (o_lit (T := (tI .u8)) (E := 5) (zv := .int .u8 0) [.int .u8 4, .int .u8 13, .int .u8 9] ([4, 13, 9] : List Int) [gL [], gL [], gL []] _ H262 hd rfl (by kernel_rfl) (by kernel_rfl) (by kernel_rfl) (by kernel_rfl) (by kernel_rfl) (by kernel_rfl) (by kernel_rfl) rfl (InnL.cons trivial (InnL.cons trivial (InnL.cons trivial InnL.nil)))) (fun _ => rfl) fun _ wd265 v H266 hq => ?_
       clear H262 hd
       obtain ⟨g263, rfl, hq⟩ := hq
       replace hS : SH M X w [Ent.own 5 (tI .u8) ([4, 13, 9] : List Int) g263, Ent.own 5 (tI .u8) ([3, 13, 9, 10] : List Int) g255, Ent.own 5 (tI .u8) ([15, 1] : List Int) g247, Ent.own 5 (tI .u8) ([14, 15] : List Int) g239, Ent.own 5 (tI .u8) ([16, 17, 18, 19, 20, 21, 22, 23, 24] : List Int) g231, Ent.own 44 tyToken y72.1 g73, Ent.gint 0] _ := hS.join [] [0, 1, 2, 3, 4, 5] rfl rfl hq
       clear hq
       obtain ⟨y267, hy267, hm⟩ := bindE hm
       obtain ⟨y268, hy268, hm⟩ := bindE hm
       refine wl_batch 16 23 [(.bool y267), (.bool y268)] [4, 6, 8, 9, 10, 13, 16, 19, 21, 23, 25, 26, 27, 28] [(4, [], .int .i64 y33.2), (6, [], .int .i64 y50.2), (8, [], .int .i64 y65.2), (9, [], .slice g73.a y72.1.length g73.c), (10, [], .int .i64 y72.2), (13, [], .int .i64 y79.2.2), (16, [], .int .i64 y82.2.2), (19, [], .int .i64 y90.2.2), (21, [], .int .i64 y93.2), (23, [], .int .i64 y101.2), (25, [], .bool z110), (26, [], .bool z132), (27, [], .bool z172), (28, [], .bool (cond y267 y268 false))] [fun wz => (true = true ∧ True → RetB Tryz.prog 23 ⟨[.string ⟨⟨[35, 49, 32, 35]⟩⟩, .slice g263.a 3 g263.c]⟩ (.bool y267) wz), fun wz => (y267 = true ∧ True → RetB Tryz.prog 22 ⟨[.string ⟨⟨[35, 49]⟩⟩, .agg ⟨[.int .u8 4, .string ⟨⟨[49]⟩⟩, .int .i64 0, .string ⟨⟨[]⟩⟩, .bool false]⟩]⟩ (.bool y268) wz)] H266 (by decide) (by kernel_rfl) ⟨fun hg => law02_kinds_ok (g_want := g263) m _ _ _ hy267 _ (s0im (s0gi s0nil (hS.gi 6 rfl)) (hS.osl 0 rfl)), fun hg => law02_is_ok m _ _ _ (bT (hg.1) hy268) _ (s0gi s0nil (hS.gi 6 rfl)), trivial⟩ fun _ wd269 H270 hb => ?_
       clear H266
       replace hS := hS.below hb
       clear hb
       refine wl_end rfl ?_
       replace hS : SH M X w [Ent.own 44 tyToken y72.1 g73, Ent.gint 0] _ := hS.sel [5, 6] rfl
       obtain rfl := someE hm
       exact ⟨FrG.keep (ks := [4, 6, 8, 9, 10, 13, 16, 19, 21, 23, 25, 26, 27, 28]) H270 (by kernel_rfl), hS⟩
      replace hm := bF rfl hm
      refine m_skipG 198 [199, 4, 6, 8, 9, 10, 13, 16, 19, 21, 23, 25, 26, 27, 198] [(199, [], undef), (4, [], .int .i64 y33.2), (6, [], .int .i64 y50.2), (8, [], .int .i64 y65.2), (9, [], .slice g73.a y72.1.length g73.c), (10, [], .int .i64 y72.2), (13, [], .int .i64 y79.2.2), (16, [], .int .i64 y82.2.2), (19, [], .int .i64 y90.2.2), (21, [], .int .i64 y93.2), (23, [], .int .i64 y101.2), (25, [], .bool z110), (26, [], .bool z132), (27, [], .bool z172), (198, [], .bool false)] H262 rfl rfl rfl rfl rfl rfl fun _ H271 => ?_
      clear H262
      refine m_skipG 198 [200, 4, 6, 8, 9, 10, 13, 16, 19, 21, 23, 25, 26, 27, 198] [(200, [], undef), (4, [], .int .i64 y33.2), (6, [], .int .i64 y50.2), (8, [], .int .i64 y65.2), (9, [], .slice g73.a y72.1.length g73.c), (10, [], .int .i64 y72.2), (13, [], .int .i64 y79.2.2), (16, [], .int .i64 y82.2.2), (19, [], .int .i64 y90.2.2), (21, [], .int .i64 y93.2), (23, [], .int .i64 y101.2), (25, [], .bool z110), (26, [], .bool z132), (27, [], .bool z172), (198, [], .bool false)] H271 rfl rfl rfl rfl rfl rfl fun _ H272 => ?_
      clear H271
      refine wl_batch 17 19 [] [4, 6, 8, 9, 10, 13, 16, 19, 21, 23, 25, 26, 27, 202] [(4, [], .int .i64 y33.2), (6, [], .int .i64 y50.2), (8, [], .int .i64 y65.2), (9, [], .slice g73.a y72.1.length g73.c), (10, [], .int .i64 y72.2), (13, [], .int .i64 y79.2.2), (16, [], .int .i64 y82.2.2), (19, [], .int .i64 y90.2.2), (21, [], .int .i64 y93.2), (23, [], .int .i64 y101.2), (25, [], .bool z110), (26, [], .bool z132), (27, [], .bool z172), (202, [], .bool false)] [] H272 (by decide) (by kernel_rfl) trivial fun _ wd273 H274 hb => ?_
      clear H272
      replace hS := hS.below hb
      clear hb
      refine m_skipG 202 [203, 4, 6, 8, 9, 10, 13, 16, 19, 21, 23, 25, 26, 27, 202] [(203, [], undef), (4, [], .int .i64 y33.2), (6, [], .int .i64 y50.2), (8, [], .int .i64 y65.2), (9, [], .slice g73.a y72.1.length g73.c), (10, [], .int .i64 y72.2), (13, [], .int .i64 y79.2.2), (16, [], .int .i64 y82.2.2), (19, [], .int .i64 y90.2.2), (21, [], .int .i64 y93.2), (23, [], .int .i64 y101.2), (25, [], .bool z110), (26, [], .bool z132), (27, [], .bool z172), (202, [], .bool false)] H274 rfl rfl rfl rfl rfl rfl fun _ H275 => ?_
      clear H274
      refine m_skipG 202 [204, 4, 6, 8, 9, 10, 13, 16, 19, 21, 23, 25, 26, 27, 202] [(204, [], undef), (4, [], .int .i64 y33.2), (6, [], .int .i64 y50.2), (8, [], .int .i64 y65.2), (9, [], .slice g73.a y72.1.length g73.c), (10, [], .int .i64 y72.2), (13, [], .int .i64 y79.2.2), (16, [], .int .i64 y82.2.2), (19, [], .int .i64 y90.2.2), (21, [], .int .i64 y93.2), (23, [], .int .i64 y101.2), (25, [], .bool z110), (26, [], .bool z132), (27, [], .bool z172), (202, [], .bool false)] H275 rfl rfl rfl rfl rfl rfl fun _ H276 => ?_
      clear H275
      refine wl_batch 21 23 [] [4, 6, 8, 9, 10, 13, 16, 19, 21, 23, 25, 26, 27, 28] [(4, [], .int .i64 y33.2), (6, [], .int .i64 y50.2), (8, [], .int .i64 y65.2), (9, [], .slice g73.a y72.1.length g73.c), (10, [], .int .i64 y72.2), (13, [], .int .i64 y79.2.2), (16, [], .int .i64 y82.2.2), (19, [], .int .i64 y90.2.2), (21, [], .int .i64 y93.2), (23, [], .int .i64 y101.2), (25, [], .bool z110), (26, [], .bool z132), (27, [], .bool z172), (28, [], .bool false)] [] H276 (by decide) (by kernel_rfl) trivial fun _ wd277 H278 hb => ?_
      clear H276
      replace hS := hS.below hb
      clear hb
      refine wl_end rfl ?_
      replace hS : SH M X w [Ent.own 44 tyToken y72.1 g73, Ent.gint 0] _ := hS.sel [4, 5] rfl
      obtain rfl := someE hm
      exact ⟨FrG.keep (ks := [4, 6, 8, 9, 10, 13, 16, 19, 21, 23, 25, 26, 27, 28]) H278 (by kernel_rfl), hS⟩
     ·rintro _ wd399 ⟨H, hS⟩
      obtain ⟨z327, hz, hm⟩ := bindE hm
      refine w_cut (fun a' w' => Fr 287 [(4, [], .int .i64 y33.2), (6, [], .int .i64 y50.2), (8, [], .int .i64 y65.2), (9, [], .slice g73.a y72.1.length g73.c), (10, [], .int .i64 y72.2), (13, [], .int .i64 y79.2.2), (16, [], .int .i64 y82.2.2), (19, [], .int .i64 y90.2.2), (21, [], .int .i64 y93.2), (23, [], .int .i64 y101.2), (25, [], .bool z110), (26, [], .bool z132), (27, [], .bool z172), (28, [], .bool z230), (29, [], .bool z327)] a' ∧ SH M X w [Ent.own 44 tyToken y72.1 g73, Ent.gint 0] w') ?_ ?_
      ·replace hm := hz
       refine wl_start ?_
       obtain ⟨y328, hy328, hm⟩ := bindE hm
       obtain ⟨x329, hx329, hm⟩ := letE hm
       refine wl_batch 0 3 [(.bool y328)] [4, 6, 8, 9, 10, 13, 16, 19, 21, 23, 25, 26, 27, 28, 208] [(4, [], .int .i64 y33.2), (6, [], .int .i64 y50.2), (8, [], .int .i64 y65.2), (9, [], .slice g73.a y72.1.length g73.c), (10, [], .int .i64 y72.2), (13, [], .int .i64 y79.2.2), (16, [], .int .i64 y82.2.2), (19, [], .int .i64 y90.2.2), (21, [], .int .i64 y93.2), (23, [], .int .i64 y101.2), (25, [], .bool z110), (26, [], .bool z132), (27, [], .bool z172), (28, [], .bool z230), (208, [], .bool x329)] [fun wz => RetB Tryz.prog 22 ⟨[.string ⟨⟨[85, 82, 76, 40, 97, 92, 41, 98]⟩⟩, .agg ⟨[.int .u8 7, .string ⟨⟨[97, 41, 98]⟩⟩, .int .i64 0, .string ⟨⟨[]⟩⟩, .bool false]⟩]⟩ (.bool y328) wz] H (by decide) (by subst hx329; kernel_rfl) ⟨(law02_is_ok m _ _ _ hy328 _ (s0gi s0nil (hS.gi 1 rfl))), trivial⟩ fun _ wd330 H331 hb => ?_
       clear H
       replace hS := hS.below hb
       clear hb
       cases x329
       case false =>
        replace hm := bF rfl hm
        refine m_skipG 208 [209, 4, 6, 8, 9, 10, 13, 16, 19, 21, 23, 25, 26, 27, 28, 208] [(209, [], undef), (4, [], .int .i64 y33.2), (6, [], .int .i64 y50.2), (8, [], .int .i64 y65.2), (9, [], .slice g73.a y72.1.length g73.c), (10, [], .int .i64 y72.2), (13, [], .int .i64 y79.2.2), (16, [], .int .i64 y82.2.2), (19, [], .int .i64 y90.2.2), (21, [], .int .i64 y93.2), (23, [], .int .i64 y101.2), (25, [], .bool z110), (26, [], .bool z132), (27, [], .bool z172), (28, [], .bool z230), (208, [], .bool false)] H331 rfl rfl rfl rfl rfl rfl fun _ H369 => ?_
        clear H331
        refine m_skipG 208 [210, 4, 6, 8, 9, 10, 13, 16, 19, 21, 23, 25, 26, 27, 28, 208] [(210, [], undef), (4, [], .int .i64 y33.2), (6, [], .int .i64 y50.2), (8, [], .int .i64 y65.2), (9, [], .slice g73.a y72.1.length g73.c), (10, [], .int .i64 y72.2), (13, [], .int .i64 y79.2.2), (16, [], .int .i64 y82.2.2), (19, [], .int .i64 y90.2.2), (21, [], .int .i64 y93.2), (23, [], .int .i64 y101.2), (25, [], .bool z110), (26, [], .bool z132), (27, [], .bool z172), (28, [], .bool z230), (208, [], .bool false)] H369 rfl rfl rfl rfl rfl rfl fun _ H370 => ?_
        clear H369
        refine wl_batch 5 7 [] [4, 6, 8, 9, 10, 13, 16, 19, 21, 23, 25, 26, 27, 28, 212] [(4, [], .int .i64 y33.2), (6, [], .int .i64 y50.2), (8, [], .int .i64 y65.2), (9, [], .slice g73.a y72.1.length g73.c), (10, [], .int .i64 y72.2), (13, [], .int .i64 y79.2.2), (16, [], .int .i64 y82.2.2), (19, [], .int .i64 y90.2.2), (21, [], .int .i64 y93.2), (23, [], .int .i64 y101.2), (25, [], .bool z110), (26, [], .bool z132), (27, [], .bool z172), (28, [], .bool z230), (212, [], .bool false)] [] H370 (by decide) (by kernel_rfl) trivial fun _ wd371 H372 hb => ?_
        clear H370
        replace hS := hS.below hb
        clear hb
        refine m_skipG 212 [213, 4, 6, 8, 9, 10, 13, 16, 19, 21, 23, 25, 26, 27, 28, 212] [(213, [], undef), (4, [], .int .i64 y33.2), (6, [], .int .i64 y50.2), (8, [], .int .i64 y65.2), (9, [], .slice g73.a y72.1.length g73.c), (10, [], .int .i64 y72.2), (13, [], .int .i64 y79.2.2), (16, [], .int .i64 y82.2.2), (19, [], .int .i64 y90.2.2), (21, [], .int .i64 y93.2), (23, [], .int .i64 y101.2), (25, [], .bool z110), (26, [], .bool z132), (27, [], .bool z172), (28, [], .bool z230), (212, [], .bool false)] H372 rfl rfl rfl rfl rfl rfl fun _ H373 => ?_
        clear H372
        refine m_skipG 212 [214, 4, 6, 8, 9, 10, 13, 16, 19, 21, 23, 25, 26, 27, 28, 212] [(214, [], undef), (4, [], .int .i64 y33.2), (6, [], .int .i64 y50.2), (8, [], .int .i64 y65.2), (9, [], .slice g73.a y72.1.length g73.c), (10, [], .int .i64 y72.2), (13, [], .int .i64 y79.2.2), (16, [], .int .i64 y82.2.2), (19, [], .int .i64 y90.2.2), (21, [], .int .i64 y93.2), (23, [], .int .i64 y101.2), (25, [], .bool z110), (26, [], .bool z132), (27, [], .bool z172), (28, [], .bool z230), (212, [], .bool false)] H373 rfl rfl rfl rfl rfl rfl fun _ H374 => ?_
        clear H373
        refine wl_batch 9 11 [] [4, 6, 8, 9, 10, 13, 16, 19, 21, 23, 25, 26, 27, 28, 216] [(4, [], .int .i64 y33.2), (6, [], .int .i64 y50.2), (8, [], .int .i64 y65.2), (9, [], .slice g73.a y72.1.length g73.c), (10, [], .int .i64 y72.2), (13, [], .int .i64 y79.2.2), (16, [], .int .i64 y82.2.2), (19, [], .int .i64 y90.2.2), (21, [], .int .i64 y93.2), (23, [], .int .i64 y101.2), (25, [], .bool z110), (26, [], .bool z132), (27, [], .bool z172), (28, [], .bool z230), (216, [], .bool false)] [] H374 (by decide) (by kernel_rfl) trivial fun _ wd375 H376 hb => ?_
        clear H374
        replace hS := hS.below hb
        clear hb
        refine m_skipG 216 [217, 4, 6, 8, 9, 10, 13, 16, 19, 21, 23, 25, 26, 27, 28, 216] [(217, [], undef), (4, [], .int .i64 y33.2), (6, [], .int .i64 y50.2), (8, [], .int .i64 y65.2), (9, [], .slice g73.a y72.1.length g73.c), (10, [], .int .i64 y72.2), (13, [], .int .i64 y79.2.2), (16, [], .int .i64 y82.2.2), (19, [], .int .i64 y90.2.2), (21, [], .int .i64 y93.2), (23, [], .int .i64 y101.2), (25, [], .bool z110), (26, [], .bool z132), (27, [], .bool z172), (28, [], .bool z230), (216, [], .bool false)] H376 rfl rfl rfl rfl rfl rfl fun _ H377 => ?_
        clear H376
        refine m_skipG 216 [218, 4, 6, 8, 9, 10, 13, 16, 19, 21, 23, 25, 26, 27, 28, 216] [(218, [], undef), (4, [], .int .i64 y33.2), (6, [], .int .i64 y50.2), (8, [], .int .i64 y65.2), (9, [], .slice g73.a y72.1.length g73.c), (10, [], .int .i64 y72.2), (13, [], .int .i64 y79.2.2), (16, [], .int .i64 y82.2.2), (19, [], .int .i64 y90.2.2), (21, [], .int .i64 y93.2), (23, [], .int .i64 y101.2), (25, [], .bool z110), (26, [], .bool z132), (27, [], .bool z172), (28, [], .bool z230), (216, [], .bool false)] H377 rfl rfl rfl rfl rfl rfl fun _ H378 => ?_
        clear H377
        refine wl_batch 13 15 [] [4, 6, 8, 9, 10, 13, 16, 19, 21, 23, 25, 26, 27, 28, 220] [(4, [], .int .i64 y33.2), (6, [], .int .i64 y50.2), (8, [], .int .i64 y65.2), (9, [], .slice g73.a y72.1.length g73.c), (10, [], .int .i64 y72.2), (13, [], .int .i64 y79.2.2), (16, [], .int .i64 y82.2.2), (19, [], .int .i64 y90.2.2), (21, [], .int .i64 y93.2), (23, [], .int .i64 y101.2), (25, [], .bool z110), (26, [], .bool z132), (27, [], .bool z172), (28, [], .bool z230), (220, [], .bool false)] [] H378 (by decide) (by kernel_rfl) trivial fun _ wd379 H380 hb => ?_
        clear H378
        replace hS := hS.below hb
        clear hb
        refine m_skipG 220 [221, 4, 6, 8, 9, 10, 13, 16, 19, 21, 23, 25, 26, 27, 28, 220] [(221, [], undef), (4, [], .int .i64 y33.2), (6, [], .int .i64 y50.2), (8, [], .int .i64 y65.2), (9, [], .slice g73.a y72.1.length g73.c), (10, [], .int .i64 y72.2), (13, [], .int .i64 y79.2.2), (16, [], .int .i64 y82.2.2), (19, [], .int .i64 y90.2.2), (21, [], .int .i64 y93.2), (23, [], .int .i64 y101.2), (25, [], .bool z110), (26, [], .bool z132), (27, [], .bool z172), (28, [], .bool z230), (220, [], .bool false)] H380 rfl rfl rfl rfl rfl rfl fun _ H381 => ?_
        clear H380
        refine m_skipG 220 [222, 4, 6, 8, 9, 10, 13, 16, 19, 21, 23, 25, 26, 27, 28, 220] [(222, [], undef), (4, [], .int .i64 y33.2), (6, [], .int .i64 y50.2), (8, [], .int .i64 y65.2), (9, [], .slice g73.a y72.1.length g73.c), (10, [], .int .i64 y72.2), (13, [], .int .i64 y79.2.2), (16, [], .int .i64 y82.2.2), (19, [], .int .i64 y90.2.2), (21, [], .int .i64 y93.2), (23, [], .int .i64 y101.2), (25, [], .bool z110), (26, [], .bool z132), (27, [], .bool z172), (28, [], .bool z230), (220, [], .bool false)] H381 rfl rfl rfl rfl rfl rfl fun _ H382 => ?_
        clear H381
        refine wl_batch 17 19 [] [4, 6, 8, 9, 10, 13, 16, 19, 21, 23, 25, 26, 27, 28, 224] [(4, [], .int .i64 y33.2), (6, [], .int .i64 y50.2), (8, [], .int .i64 y65.2), (9, [], .slice g73.a y72.1.length g73.c), (10, [], .int .i64 y72.2), (13, [], .int .i64 y79.2.2), (16, [], .int .i64 y82.2.2), (19, [], .int .i64 y90.2.2), (21, [], .int .i64 y93.2), (23, [], .int .i64 y101.2), (25, [], .bool z110), (26, [], .bool z132), (27, [], .bool z172), (28, [], .bool z230), (224, [], .bool false)] [] H382 (by decide) (by kernel_rfl) trivial fun _ wd383 H384 hb => ?_
        clear H382
        replace hS := hS.below hb
        clear hb
        refine m_skipG 224 [225, 4, 6, 8, 9, 10, 13, 16, 19, 21, 23, 25, 26, 27, 28, 224] [(225, [], undef), (4, [], .int .i64 y33.2), (6, [], .int .i64 y50.2), (8, [], .int .i64 y65.2), (9, [], .slice g73.a y72.1.length g73.c), (10, [], .int .i64 y72.2), (13, [], .int .i64 y79.2.2), (16, [], .int .i64 y82.2.2), (19, [], .int .i64 y90.2.2), (21, [], .int .i64 y93.2), (23, [], .int .i64 y101.2), (25, [], .bool z110), (26, [], .bool z132), (27, [], .bool z172), (28, [], .bool z230), (224, [], .bool false)] H384 rfl rfl rfl rfl rfl rfl fun _ H385 => ?_
        clear H384
        refine m_skipG 224 [226, 4, 6, 8, 9, 10, 13, 16, 19, 21, 23, 25, 26, 27, 28, 224] [(226, [], undef), (4, [], .int .i64 y33.2), (6, [], .int .i64 y50.2), (8, [], .int .i64 y65.2), (9, [], .slice g73.a y72.1.length g73.c), (10, [], .int .i64 y72.2), (13, [], .int .i64 y79.2.2), (16, [], .int .i64 y82.2.2), (19, [], .int .i64 y90.2.2), (21, [], .int .i64 y93.2), (23, [], .int .i64 y101.2), (25, [], .bool z110), (26, [], .bool z132), (27, [], .bool z172), (28, [], .bool z230), (224, [], .bool false)] H385 rfl rfl rfl rfl rfl rfl fun _ H386 => ?_
        clear H385
        refine wl_batch 21 23 [] [4, 6, 8, 9, 10, 13, 16, 19, 21, 23, 25, 26, 27, 28, 29] [(4, [], .int .i64 y33.2), (6, [], .int .i64 y50.2), (8, [], .int .i64 y65.2), (9, [], .slice g73.a y72.1.length g73.c), (10, [], .int .i64 y72.2), (13, [], .int .i64 y79.2.2), (16, [], .int .i64 y82.2.2), (19, [], .int .i64 y90.2.2), (21, [], .int .i64 y93.2), (23, [], .int .i64 y101.2), (25, [], .bool z110), (26, [], .bool z132), (27, [], .bool z172), (28, [], .bool z230), (29, [], .bool false)] [] H386 (by decide) (by kernel_rfl) trivial fun _ wd387 H388 hb => ?_
        clear H386
        replace hS := hS.below hb
        clear hb
        refine wl_end rfl ?_
        obtain rfl := someE hm
        exact ⟨FrG.keep (ks := [4, 6, 8, 9, 10, 13, 16, 19, 21, 23, 25, 26, 27, 28, 29]) H388 (by kernel_rfl), hS⟩
       replace hm := bT rfl hm
       have hd := hS.hand [] [0, 1] rfl rfl
       refine m_stpG 208 [209, 4, 6, 8, 9, 10, 13, 16, 19, 21, 23, 25, 26, 27, 28, 208] [(4, [], .int .i64 y33.2), (6, [], .int .i64 y50.2), (8, [], .int .i64 y65.2), (9, [], .slice g73.a y72.1.length g73.c), (10, [], .int .i64 y72.2), (13, [], .int .i64 y79.2.2), (16, [], .int .i64 y82.2.2), (19, [], .int .i64 y90.2.2), (21, [], .int .i64 y93.2), (23, [], .int .i64 y101.2), (25, [], .bool z110), (26, [], .bool z132), (27, [], .bool z172), (28, [], .bool z230), (208, [], .bool true)] H331 rfl rfl rfl rfl (o_lit (T := (tI .u8)) (E := 5) (zv := .int .u8 0) [.int .u8 2, .int .u8 13, .int .u8 5, .int .u8 22] ([2, 13, 5, 22] : List Int) [gL [], gL [], gL [], gL []] _ H331 hd rfl (by kernel_rfl) (by kernel_rfl) (by kernel_rfl) (by kernel_rfl) (by kernel_rfl) (by kernel_rfl) (by kernel_rfl) rfl (InnL.cons trivial (InnL.cons trivial (InnL.cons trivial (InnL.cons trivial InnL.nil))))) (fun _ => rfl) fun _ wd334 v H335 hq => ?_
       clear H331 hd
       obtain ⟨g332, rfl, hq⟩ := hq
       replace hS : SH M X w [Ent.own 5 (tI .u8) ([2, 13, 5, 22] : List Int) g332, Ent.own 44 tyToken y72.1 g73, Ent.gint 0] _ := hS.join [] [0, 1] rfl rfl hq
       clear hq
       obtain ⟨y336, hy336, hm⟩ := bindE hm
       obtain ⟨y337, hy337, hm⟩ := bindE hm
       obtain ⟨y338, hy338, hm⟩ := bindE hm
       obtain ⟨x339, hx339, hm⟩ := letE hm
       refine wl_batch 4 15 [(.bool y336), (.bool y337), (.bool y338)] [4, 6, 8, 9, 10, 13, 16, 19, 21, 23, 25, 26, 27, 28, 220] [(4, [], .int .i64 y33.2), (6, [], .int .i64 y50.2), (8, [], .int .i64 y65.2), (9, [], .slice g73.a y72.1.length g73.c), (10, [], .int .i64 y72.2), (13, [], .int .i64 y79.2.2), (16, [], .int .i64 y82.2.2), (19, [], .int .i64 y90.2.2), (21, [], .int .i64 y93.2), (23, [], .int .i64 y101.2), (25, [], .bool z110), (26, [], .bool z132), (27, [], .bool z172), (28, [], .bool z230), (220, [], .bool x339)] [fun wz => (true = true ∧ True → RetB Tryz.prog 23 ⟨[.string ⟨⟨[117, 114, 108, 40, 32, 39, 120, 39, 41]⟩⟩, .slice g332.a 4 g332.c]⟩ (.bool y336) wz), fun wz => (y336 = true ∧ True → RetB Tryz.prog 22 ⟨[.string ⟨⟨[117, 114, 108, 40, 97, 32, 98, 92, 41, 41]⟩⟩, .agg ⟨[.int .u8 8, .string ⟨⟨[]⟩⟩, .int .i64 0, .string ⟨⟨[]⟩⟩, .bool false]⟩]⟩ (.bool y337) wz), fun wz => ((cond y336 y337 false) = true ∧ True → RetB Tryz.prog 22 ⟨[.string ⟨⟨[117, 114, 108, 40]⟩⟩, .agg ⟨[.int .u8 7, .string ⟨⟨[]⟩⟩, .int .i64 0, .string ⟨⟨[]⟩⟩, .bool false]⟩]⟩ (.bool y338) wz)] H335 (by decide) (by subst hx339; kernel_rfl) ⟨fun hg => law02_kinds_ok (g_want := g332) m _ _ _ hy336 _ (s0im (s0gi s0nil (hS.gi 2 rfl)) (hS.osl 0 rfl)), fun hg => law02_is_ok m _ _ _ (bT (hg.1) hy337) _ (s0gi s0nil (hS.gi 2 rfl)), fun hg => law02_is_ok m _ _ _ (bT (hg.1) hy338) _ (s0gi s0nil (hS.gi 2 rfl)), trivial⟩ fun _ wd340 H341 hb => ?_
       clear H335
       replace hS := hS.below hb
       clear hb
       cases x339
       case false =>
        replace hm := bF rfl hm
        refine m_skipG 220 [221, 4, 6, 8, 9, 10, 13, 16, 19, 21, 23, 25, 26, 27, 28, 220] [(221, [], undef), (4, [], .int .i64 y33.2), (6, [], .int .i64 y50.2), (8, [], .int .i64 y65.2), (9, [], .slice g73.a y72.1.length g73.c), (10, [], .int .i64 y72.2), (13, [], .int .i64 y79.2.2), (16, [], .int .i64 y82.2.2), (19, [], .int .i64 y90.2.2), (21, [], .int .i64 y93.2), (23, [], .int .i64 y101.2), (25, [], .bool z110), (26, [], .bool z132), (27, [], .bool z172), (28, [], .bool z230), (220, [], .bool false)] H341 rfl rfl rfl rfl rfl rfl fun _ H361 => ?_
        clear H341
        refine m_skipG 220 [222, 4, 6, 8, 9, 10, 13, 16, 19, 21, 23, 25, 26, 27, 28, 220] [(222, [], undef), (4, [], .int .i64 y33.2), (6, [], .int .i64 y50.2), (8, [], .int .i64 y65.2), (9, [], .slice g73.a y72.1.length g73.c), (10, [], .int .i64 y72.2), (13, [], .int .i64 y79.2.2), (16, [], .int .i64 y82.2.2), (19, [], .int .i64 y90.2.2), (21, [], .int .i64 y93.2), (23, [], .int .i64 y101.2), (25, [], .bool z110), (26, [], .bool z132), (27, [], .bool z172), (28, [], .bool z230), (220, [], .bool false)] H361 rfl rfl rfl rfl rfl rfl fun _ H362 => ?_
        clear H361
        refine wl_batch 17 19 [] [4, 6, 8, 9, 10, 13, 16, 19, 21, 23, 25, 26, 27, 28, 224] [(4, [], .int .i64 y33.2), (6, [], .int .i64 y50.2), (8, [], .int .i64 y65.2), (9, [], .slice g73.a y72.1.length g73.c), (10, [], .int .i64 y72.2), (13, [], .int .i64 y79.2.2), (16, [], .int .i64 y82.2.2), (19, [], .int .i64 y90.2.2), (21, [], .int .i64 y93.2), (23, [], .int .i64 y101.2), (25, [], .bool z110), (26, [], .bool z132), (27, [], .bool z172), (28, [], .bool z230), (224, [], .bool false)] [] H362 (by decide) (by kernel_rfl) trivial fun _ wd363 H364 hb => ?_
        clear H362
        replace hS := hS.below hb
        clear hb
        refine m_skipG 224 [225, 4, 6, 8, 9, 10, 13, 16, 19, 21, 23, 25, 26, 27, 28, 224] [(225, [], undef), (4, [], .int .i64 y33.2), (6, [], .int .i64 y50.2), (8, [], .int .i64 y65.2), (9, [], .slice g73.a y72.1.length g73.c), (10, [], .int .i64 y72.2), (13, [], .int .i64 y79.2.2), (16, [], .int .i64 y82.2.2), (19, [], .int .i64 y90.2.2), (21, [], .int .i64 y93.2), (23, [], .int .i64 y101.2), (25, [], .bool z110), (26, [], .bool z132), (27, [], .bool z172), (28, [], .bool z230), (224, [], .bool false)] H364 rfl rfl rfl rfl rfl rfl fun _ H365 => ?_
        clear H364
        refine m_skipG 224 [226, 4, 6, 8, 9, 10, 13, 16, 19, 21, 23, 25, 26, 27, 28, 224] [(226, [], undef), (4, [], .int .i64 y33.2), (6, [], .int .i64 y50.2), (8, [], .int .i64 y65.2), (9, [], .slice g73.a y72.1.length g73.c), (10, [], .int .i64 y72.2), (13, [], .int .i64 y79.2.2), (16, [], .int .i64 y82.2.2), (19, [], .int .i64 y90.2.2), (21, [], .int .i64 y93.2), (23, [], .int .i64 y101.2), (25, [], .bool z110), (26, [], .bool z132), (27, [], .bool z172), (28, [], .bool z230), (224, [], .bool false)] H365 rfl rfl rfl rfl rfl rfl fun _ H366 => ?_
        clear H365
        refine wl_batch 21 23 [] [4, 6, 8, 9, 10, 13, 16, 19, 21, 23, 25, 26, 27, 28, 29] [(4, [], .int .i64 y33.2), (6, [], .int .i64 y50.2), (8, [], .int .i64 y65.2), (9, [], .slice g73.a y72.1.length g73.c), (10, [], .int .i64 y72.2), (13, [], .int .i64 y79.2.2), (16, [], .int .i64 y82.2.2), (19, [], .int .i64 y90.2.2), (21, [], .int .i64 y93.2), (23, [], .int .i64 y101.2), (25, [], .bool z110), (26, [], .bool z132), (27, [], .bool z172), (28, [], .bool z230), (29, [], .bool false)] [] H366 (by decide) (by kernel_rfl) trivial fun _ wd367 H368 hb => ?_
        clear H366
        replace hS := hS.below hb
        clear hb
        refine wl_end rfl ?_
        replace hS : SH M X w [Ent.own 44 tyToken y72.1 g73, Ent.gint 0] _ := hS.sel [1, 2] rfl
        obtain rfl := someE hm
        exact ⟨FrG.keep (ks := [4, 6, 8, 9, 10, 13, 16, 19, 21, 23, 25, 26, 27, 28, 29]) H368 (by kernel_rfl), hS⟩
       replace hm := bT rfl hm
       have hd := hS.hand [] [0, 1, 2] rfl rfl
       refine m_stpG 220 [221, 4, 6, 8, 9, 10, 13, 16, 19, 21, 23, 25, 26, 27, 28, 220] [(4, [], .int .i64 y33.2), (6, [], .int .i64 y50.2), (8, [], .int .i64 y65.2), (9, [], .slice g73.a y72.1.length g73.c), (10, [], .int .i64 y72.2), (13, [], .int .i64 y79.2.2), (16, [], .int .i64 y82.2.2), (19, [], .int .i64 y90.2.2), (21, [], .int .i64 y93.2), (23, [], .int .i64 y101.2), (25, [], .bool z110), (26, [], .bool z132), (27, [], .bool z172), (28, [], .bool z230), (220, [], .bool true)] H341 rfl rfl rfl rfl (o_lit (T := (tI .u8)) (E := 5) (zv := .int .u8 0) [.int .u8 8, .int .u8 1] ([8, 1] : List Int) [gL [], gL []] _ H341 hd rfl (by kernel_rfl) (by kernel_rfl) (by kernel_rfl) (by kernel_rfl) (by kernel_rfl) (by kernel_rfl) (by kernel_rfl) rfl (InnL.cons trivial (InnL.cons trivial InnL.nil))) (fun _ => rfl) fun _ wd344 v H345 hq => ?_
       clear H341 hd
       obtain ⟨g342, rfl, hq⟩ := hq
       replace hS : SH M X w [Ent.own 5 (tI .u8) ([8, 1] : List Int) g342, Ent.own 5 (tI .u8) ([2, 13, 5, 22] : List Int) g332, Ent.own 44 tyToken y72.1 g73, Ent.gint 0] _ := hS.join [] [0, 1, 2] rfl rfl hq
       clear hq
       obtain ⟨y346, hy346, hm⟩ := bindE hm
       obtain ⟨x347, hx347, hm⟩ := letE hm
       refine wl_batch 16 19 [(.bool y346)] [4, 6, 8, 9, 10, 13, 16, 19, 21, 23, 25, 26, 27, 28, 224] [(4, [], .int .i64 y33.2), (6, [], .int .i64 y50.2), (8, [], .int .i64 y65.2), (9, [], .slice g73.a y72.1.length g73.c), (10, [], .int .i64 y72.2), (13, [], .int .i64 y79.2.2), (16, [], .int .i64 y82.2.2), (19, [], .int .i64 y90.2.2), (21, [], .int .i64 y93.2), (23, [], .int .i64 y101.2), (25, [], .bool z110), (26, [], .bool z132), (27, [], .bool z172), (28, [], .bool z230), (224, [], .bool x347)] [fun wz => (true = true ∧ True → RetB Tryz.prog 23 ⟨[.string ⟨⟨[117, 114, 108, 40, 97, 34, 98, 41, 99]⟩⟩, .slice g342.a 2 g342.c]⟩ (.bool y346) wz)] H345 (by decide) (by subst hx347; kernel_rfl) ⟨fun hg => law02_kinds_ok (g_want := g342) m _ _ _ hy346 _ (s0im (s0gi s0nil (hS.gi 3 rfl)) (hS.osl 0 rfl)), trivial⟩ fun _ wd348 H349 hb => ?_
       clear H345
       replace hS := hS.below hb
       clear hb
       cases x347
       case false =>
        replace hm := bF rfl hm
        refine m_skipG 224 [225, 4, 6, 8, 9, 10, 13, 16, 19, 21, 23, 25, 26, 27, 28, 224] [(225, [], undef), (4, [], .int .i64 y33.2), (6, [], .int .i64 y50.2), (8, [], .int .i64 y65.2), (9, [], .slice g73.a y72.1.length g73.c), (10, [], .int .i64 y72.2), (13, [], .int .i64 y79.2.2), (16, [], .int .i64 y82.2.2), (19, [], .int .i64 y90.2.2), (21, [], .int .i64 y93.2), (23, [], .int .i64 y101.2), (25, [], .bool z110), (26, [], .bool z132), (27, [], .bool z172), (28, [], .bool z230), (224, [], .bool false)] H349 rfl rfl rfl rfl rfl rfl fun _ H357 => ?_
        clear H349
        refine m_skipG 224 [226, 4, 6, 8, 9, 10, 13, 16, 19, 21, 23, 25, 26, 27, 28, 224] [(226, [], undef), (4, [], .int .i64 y33.2), (6, [], .int .i64 y50.2), (8, [], .int .i64 y65.2), (9, [], .slice g73.a y72.1.length g73.c), (10, [], .int .i64 y72.2), (13, [], .int .i64 y79.2.2), (16, [], .int .i64 y82.2.2), (19, [], .int .i64 y90.2.2), (21, [], .int .i64 y93.2), (23, [], .int .i64 y101.2), (25, [], .bool z110), (26, [], .bool z132), (27, [], .bool z172), (28, [], .bool z230), (224, [], .bool false)] H357 rfl rfl rfl rfl rfl rfl fun _ H358 => ?_
        clear H357
        refine wl_batch 21 23 [] [4, 6, 8, 9, 10, 13, 16, 19, 21, 23, 25, 26, 27, 28, 29] [(4, [], .int .i64 y33.2), (6, [], .int .i64 y50.2), (8, [], .int .i64 y65.2), (9, [], .slice g73.a y72.1.length g73.c), (10, [], .int .i64 y72.2), (13, [], .int .i64 y79.2.2), (16, [], .int .i64 y82.2.2), (19, [], .int .i64 y90.2.2), (21, [], .int .i64 y93.2), (23, [], .int .i64 y101.2), (25, [], .bool z110), (26, [], .bool z132), (27, [], .bool z172), (28, [], .bool z230), (29, [], .bool false)] [] H358 (by decide) (by kernel_rfl) trivial fun _ wd359 H360 hb => ?_
        clear H358
        replace hS := hS.below hb
        clear hb
        refine wl_end rfl ?_
        replace hS : SH M X w [Ent.own 44 tyToken y72.1 g73, Ent.gint 0] _ := hS.sel [2, 3] rfl
        obtain rfl := someE hm
        exact ⟨FrG.keep (ks := [4, 6, 8, 9, 10, 13, 16, 19, 21, 23, 25, 26, 27, 28, 29]) H360 (by kernel_rfl), hS⟩
       replace hm := bT rfl hm
       have hd := hS.hand [] [0, 1, 2, 3] rfl rfl
       refine m_stpG 224 [225, 4, 6, 8, 9, 10, 13, 16, 19, 21, 23, 25, 26, 27, 28, 224] [(4, [], .int .i64 y33.2), (6, [], .int .i64 y50.2), (8, [], .int .i64 y65.2), (9, [], .slice g73.a y72.1.length g73.c), (10, [], .int .i64 y72.2), (13, [], .int .i64 y79.2.2), (16, [], .int .i64 y82.2.2), (19, [], .int .i64 y90.2.2), (21, [], .int .i64 y93.2), (23, [], .int .i64 y101.2), (25, [], .bool z110), (26, [], .bool z132), (27, [], .bool z172), (28, [], .bool z230), (224, [], .bool true)] H349 rfl rfl rfl rfl (o_lit (T := (tI .u8)) (E := 5) (zv := .int .u8 0) [.int .u8 2] ([2] : List Int) [gL []] _ H349 hd rfl (by kernel_rfl) (by kernel_rfl) (by kernel_rfl) (by kernel_rfl) (by kernel_rfl) (by kernel_rfl) (by kernel_rfl) rfl (InnL.cons trivial InnL.nil)) (fun _ => rfl) fun _ wd352 v H353 hq => ?_
       clear H349 hd
       obtain ⟨g350, rfl, hq⟩ := hq
       replace hS : SH M X w [Ent.own 5 (tI .u8) ([2] : List Int) g350, Ent.own 5 (tI .u8) ([8, 1] : List Int) g342, Ent.own 5 (tI .u8) ([2, 13, 5, 22] : List Int) g332, Ent.own 44 tyToken y72.1 g73, Ent.gint 0] _ := hS.join [] [0, 1, 2, 3] rfl rfl hq
       clear hq
       obtain ⟨y354, hy354, hm⟩ := bindE hm
       refine wl_batch 20 23 [(.bool y354)] [4, 6, 8, 9, 10, 13, 16, 19, 21, 23, 25, 26, 27, 28, 29] [(4, [], .int .i64 y33.2), (6, [], .int .i64 y50.2), (8, [], .int .i64 y65.2), (9, [], .slice g73.a y72.1.length g73.c), (10, [], .int .i64 y72.2), (13, [], .int .i64 y79.2.2), (16, [], .int .i64 y82.2.2), (19, [], .int .i64 y90.2.2), (21, [], .int .i64 y93.2), (23, [], .int .i64 y101.2), (25, [], .bool z110), (26, [], .bool z132), (27, [], .bool z172), (28, [], .bool z230), (29, [], .bool y354)] [fun wz => (true = true ∧ True → RetB Tryz.prog 23 ⟨[.string ⟨⟨[117, 114, 108, 115, 40]⟩⟩, .slice g350.a 1 g350.c]⟩ (.bool y354) wz)] H353 (by decide) (by kernel_rfl) ⟨fun hg => law02_kinds_ok (g_want := g350) m _ _ _ hy354 _ (s0im (s0gi s0nil (hS.gi 4 rfl)) (hS.osl 0 rfl)), trivial⟩ fun _ wd355 H356 hb => ?_
       clear H353
       replace hS := hS.below hb
       clear hb
       refine wl_end rfl ?_
       replace hS : SH M X w [Ent.own 44 tyToken y72.1 g73, Ent.gint 0] _ := hS.sel [3, 4] rfl
       obtain rfl := someE hm
       exact ⟨FrG.keep (ks := [4, 6, 8, 9, 10, 13, 16, 19, 21, 23, 25, 26, 27, 28, 29]) H356 (by kernel_rfl), hS⟩
      ·rintro _ wd398 ⟨H, hS⟩
       obtain ⟨x389, hx389, hm⟩ := letE hm
       obtain ⟨x390, hx390, hm⟩ := letE hm
       obtain ⟨x391, hx391, hm⟩ := letE hm
       obtain ⟨x392, hx392, hm⟩ := letE hm
       obtain ⟨x393, hx393, hm⟩ := letE hm
       obtain ⟨x394, hx394, hm⟩ := letE hm
       obtain ⟨y395, hy395, hm⟩ := bindE hm
       refine s_reg [(.bool y395)] [0] [(0, [], .bool (cond (cond x394 z327 false) y395 false))] [fun wz => ((cond x394 z327 false) = true ∧ True → RetB Tryz.prog 15 ⟨[]⟩ (.bool y395) wz)] H (by subst hx389 hx390 hx391 hx392 hx393 hx394; kernel_rfl) ⟨fun hg => law02_alive_ok m _ (bT (hg.1) hy395) _ (s0gi s0nil (hS.gi 1 rfl)), trivial⟩ fun _ wd396 H397 hb => ?_
       clear H
       replace hS := hS.below hb
       clear hb
       replace hS : SH M X w [Ent.gint 0] _ := hS.sel [1] rfl
       refine w_ret ?_
       obtain rfl := someE hm
       exact retR1 H397 rfl rfl ⟨_, rfl, rfl, (hS.sel [] rfl)⟩
theorem law02_TokenNames_ok  (m : Nat)  (r : Bool) (hm : law02_TokenNames m = some r) (w : World) (hL : S0 F0 [Ent.gint 0] w ∧ fpl [Ent.gint 0] = []) : RetB Tryz.prog 8 ⟨[]⟩ (.bool r) w := retB_of hL (Tryz.call8 _) (fun w' h => law02_TokenNames_w F0 m    r hm w' h)

end Go.Proofs.YtfancfogkhclfaaGreatDoor
