/-
  What the Go functions compute, as Lean functions, and that a call returns just that. Printed by a program.
-/
import Derived.Test.YtipafpkdkhnjmaaDoorRows
import Derived.Test.YtipafpkdkhnjmaaDoorA
import Derived.Test.YtipafpkdkhnjmaaDoorIA
import Derived.Test.YtipafpkdkhnjmaaDoorM
import Derived.Test.YtipafpkdkhnjmaaDoorW40La
set_option linter.unusedVariables false
set_option maxRecDepth 20000
set_option maxHeartbeats 4000000
namespace Go.Proofs.YtipafpkdkhnjmaaDoor
open Go.V Go.RowKit

theorem answer_read_w  (M : Av) (m : Nat) (s : Str) (r : TAnswer × Bool) (hm : answer_read m s = some r) (w : World) (hS : S0 M [Ent.gifc 2, Ent.gifc 3] w) : Calls Tryd.prog 32 ⟨[.string ⟨⟨s⟩⟩]⟩ w (fun e w' => ∃ v, e = .returned v ∧ ∃ (g901 : Gh) (g903 : Gh), v = .tuple ⟨[.agg ⟨[.int .i64 r.1.Err, .int .i64 r.1.Num, .slice g901.a r.1.Texts.length g901.c, .slice g903.a r.1.Numbers.length g903.c]⟩, .bool r.2]⟩ ∧ SH M (fpl [Ent.gifc 2, Ent.gifc 3]) w [Ent.im tS r.1.Texts g901, Ent.own 3 (tI .i64) r.1.Numbers g903] w') := by
 rw [answer_read] at hm
 have hS0 : SH M (fpl [Ent.gifc 2, Ent.gifc 3]) w [Ent.gifc 2, Ent.gifc 3] w := hS
 generalize hX : fpl [Ent.gifc 2, Ent.gifc 3] = X at hS0 ⊢
 clear hS hX
 have hS := hS0
 clear hS0
 refine calls_entryP Tryd.func32 rfl Tryd.ntmps32 rfl fun _ H => ?_
 refine w_seq ?_
 refine wl_start ?_
 have hd := hS.hand [] [0, 1] rfl rfl
 refine m_stp [2, 0] [(0, [], .string ⟨⟨s⟩⟩)] H rfl rfl rfl rfl (o_alloc [.int .i64 0, .int .i64 0, .slice none 0 0, .slice none 0 0] (z := .agg ⟨[.int .i64 0, .int .i64 0, .slice none 0 0, .slice none 0 0]⟩) hd (by kernel_rfl) rfl) (fun _ => rfl) fun _ wd2 v H3 hq => ?_
 clear H hd
 obtain ⟨b1, rfl, hq⟩ := hq
 replace hS : SH M X w [Ent.blk b1 [.int .i64 0, .int .i64 0, .slice none 0 0, .slice none 0 0], Ent.gifc 2, Ent.gifc 3] _ := hS.join [] [0, 1] rfl rfl hq
 clear hq
 refine wl_batch 1 2 [] [0, 2] [(0, [], .string ⟨⟨s⟩⟩), (2, [], .pointer (some ⟨b1, 0, none⟩))] [] H3 (by decide) (by kernel_rfl) trivial fun _ wd4 H5 hb => ?_
 clear H3
 replace hS := hS.below hb
 clear hb
 refine wl_end rfl ?_
 refine w_seq ?_
 refine wl_start ?_
 have hd := hS.hand [] [0, 1, 2] rfl rfl
 refine m_stp [4, 0, 2] [(0, [], .string ⟨⟨s⟩⟩), (2, [], .pointer (some ⟨b1, 0, none⟩))] H5 rfl rfl rfl rfl (o_alloc [.int .i64 0, .int .i64 0, .slice none 0 0, .slice none 0 0] (z := .agg ⟨[.int .i64 0, .int .i64 0, .slice none 0 0, .slice none 0 0]⟩) hd (by kernel_rfl) rfl) (fun _ => rfl) fun _ wd7 v H8 hq => ?_
 clear H5 hd
 obtain ⟨b6, rfl, hq⟩ := hq
 replace hS : SH M X w [Ent.blk b6 [.int .i64 0, .int .i64 0, .slice none 0 0, .slice none 0 0], Ent.blk b1 [.int .i64 0, .int .i64 0, .slice none 0 0, .slice none 0 0], Ent.gifc 2, Ent.gifc 3] _ := hS.join [] [0, 1, 2] rfl rfl hq
 clear hq
 refine wl_end rfl ?_
 refine w_seq ?_
 refine wl_start ?_
 refine wl_batch 0 1 [] [2, 4, 13] [(2, [], .pointer (some ⟨b1, 0, none⟩)), (4, [], .pointer (some ⟨b6, 0, none⟩)), (13, [], .string ⟨⟨s⟩⟩)] [] H8 (by decide) (by kernel_rfl) trivial fun _ wd9 H10 hb => ?_
 clear H8
 replace hS := hS.below hb
 clear hb
 have hd := hS.hand [] [0, 1, 2, 3] rfl rfl
 refine m_stp [5, 2, 4, 13] [(2, [], .pointer (some ⟨b1, 0, none⟩)), (4, [], .pointer (some ⟨b6, 0, none⟩)), (13, [], .string ⟨⟨s⟩⟩)] H10 rfl rfl rfl rfl (o_alloc [.string ⟨⟨[]⟩⟩] (z := .string ⟨⟨[]⟩⟩) hd (by kernel_rfl) rfl) (fun _ => rfl) fun _ wd12 v H13 hq => ?_
 clear H10 hd
 obtain ⟨b11, rfl, hq⟩ := hq
 replace hS : SH M X w [Ent.blk b11 [.string ⟨⟨[]⟩⟩], Ent.blk b6 [.int .i64 0, .int .i64 0, .slice none 0 0, .slice none 0 0], Ent.blk b1 [.int .i64 0, .int .i64 0, .slice none 0 0, .slice none 0 0], Ent.gifc 2, Ent.gifc 3] _ := hS.join [] [0, 1, 2, 3] rfl rfl hq
 clear hq
 have hd := hS.hand [0] [1, 2, 3, 4] rfl rfl
 refine m_stp0 [2, 4, 5] [(2, [], .pointer (some ⟨b1, 0, none⟩)), (4, [], .pointer (some ⟨b6, 0, none⟩)), (5, [], .pointer (some ⟨b11, 0, none⟩))] H13 rfl rfl rfl (o_store [.string ⟨⟨s⟩⟩] H13 hd rfl rfl (by kernel_rfl) rfl rfl rfl) rfl fun _ wd14 H15 hq => ?_
 clear H13 hd
 obtain ⟨_, hq⟩ := hq
 replace hS : SH M X w [Ent.blk b11 [.string ⟨⟨s⟩⟩], Ent.blk b6 [.int .i64 0, .int .i64 0, .slice none 0 0, .slice none 0 0], Ent.blk b1 [.int .i64 0, .int .i64 0, .slice none 0 0, .slice none 0 0], Ent.gifc 2, Ent.gifc 3] _ := hS.join [0] [1, 2, 3, 4] rfl rfl hq
 clear hq
 refine wl_end rfl ?_
 refine w_seq ?_
 refine wl_start ?_
 refine wl_batch 0 1 [] [2, 4, 5, 14] [(2, [], .pointer (some ⟨b1, 0, none⟩)), (4, [], .pointer (some ⟨b6, 0, none⟩)), (5, [], .pointer (some ⟨b11, 0, none⟩)), (14, [], .func (.func 50) ⟨[]⟩ ⟨[.pointer (some ⟨b11, 0, none⟩)]⟩)] [] H15 (by decide) (by kernel_rfl) trivial fun _ wd16 H17 hb => ?_
 clear H15
 replace hS := hS.below hb
 clear hb
 have hd := hS.hand [] [0, 1, 2, 3, 4] rfl rfl
 refine m_stp [6, 2, 4, 5, 14] [(2, [], .pointer (some ⟨b1, 0, none⟩)), (4, [], .pointer (some ⟨b6, 0, none⟩)), (5, [], .pointer (some ⟨b11, 0, none⟩)), (14, [], .func (.func 50) ⟨[]⟩ ⟨[.pointer (some ⟨b11, 0, none⟩)]⟩)] H17 rfl rfl rfl rfl (o_alloc [.nilFunc] (z := .nilFunc) hd (by kernel_rfl) rfl) (fun _ => rfl) fun _ wd19 v H20 hq => ?_
 clear H17 hd
 obtain ⟨b18, rfl, hq⟩ := hq
 replace hS : SH M X w [Ent.blk b18 [.nilFunc], Ent.blk b11 [.string ⟨⟨s⟩⟩], Ent.blk b6 [.int .i64 0, .int .i64 0, .slice none 0 0, .slice none 0 0], Ent.blk b1 [.int .i64 0, .int .i64 0, .slice none 0 0, .slice none 0 0], Ent.gifc 2, Ent.gifc 3] _ := hS.join [] [0, 1, 2, 3, 4] rfl rfl hq
 clear hq
 have hd := hS.hand [0] [1, 2, 3, 4, 5] rfl rfl
 refine m_stp0 [2, 4, 5, 6] [(2, [], .pointer (some ⟨b1, 0, none⟩)), (4, [], .pointer (some ⟨b6, 0, none⟩)), (5, [], .pointer (some ⟨b11, 0, none⟩)), (6, [], .pointer (some ⟨b18, 0, none⟩))] H20 rfl rfl rfl (o_store [.func (.func 50) ⟨[]⟩ ⟨[.pointer (some ⟨b11, 0, none⟩)]⟩] H20 hd rfl rfl (by kernel_rfl) rfl rfl rfl) rfl fun _ wd21 H22 hq => ?_
 clear H20 hd
 obtain ⟨_, hq⟩ := hq
 replace hS : SH M X w [Ent.blk b18 [.func (.func 50) ⟨[]⟩ ⟨[.pointer (some ⟨b11, 0, none⟩)]⟩], Ent.blk b11 [.string ⟨⟨s⟩⟩], Ent.blk b6 [.int .i64 0, .int .i64 0, .slice none 0 0, .slice none 0 0], Ent.blk b1 [.int .i64 0, .int .i64 0, .slice none 0 0, .slice none 0 0], Ent.gifc 2, Ent.gifc 3] _ := hS.join [0] [1, 2, 3, 4, 5] rfl rfl hq
 clear hq
 refine wl_end rfl ?_
 refine w_seq ?_
 refine wl_start ?_
 refine wl_batch 0 1 [] [2, 4, 5, 6, 15] [(2, [], .pointer (some ⟨b1, 0, none⟩)), (4, [], .pointer (some ⟨b6, 0, none⟩)), (5, [], .pointer (some ⟨b11, 0, none⟩)), (6, [], .pointer (some ⟨b18, 0, none⟩)), (15, [], .func (.func 52) ⟨[]⟩ ⟨[.pointer (some ⟨b11, 0, none⟩)]⟩)] [] H22 (by decide) (by kernel_rfl) trivial fun _ wd23 H24 hb => ?_
 clear H22
 replace hS := hS.below hb
 clear hb
 have hd := hS.hand [] [0, 1, 2, 3, 4, 5] rfl rfl
 refine m_stp [7, 2, 4, 5, 6, 15] [(2, [], .pointer (some ⟨b1, 0, none⟩)), (4, [], .pointer (some ⟨b6, 0, none⟩)), (5, [], .pointer (some ⟨b11, 0, none⟩)), (6, [], .pointer (some ⟨b18, 0, none⟩)), (15, [], .func (.func 52) ⟨[]⟩ ⟨[.pointer (some ⟨b11, 0, none⟩)]⟩)] H24 rfl rfl rfl rfl (o_alloc [.nilFunc] (z := .nilFunc) hd (by kernel_rfl) rfl) (fun _ => rfl) fun _ wd26 v H27 hq => ?_
 clear H24 hd
 obtain ⟨b25, rfl, hq⟩ := hq
 replace hS : SH M X w [Ent.blk b25 [.nilFunc], Ent.blk b18 [.func (.func 50) ⟨[]⟩ ⟨[.pointer (some ⟨b11, 0, none⟩)]⟩], Ent.blk b11 [.string ⟨⟨s⟩⟩], Ent.blk b6 [.int .i64 0, .int .i64 0, .slice none 0 0, .slice none 0 0], Ent.blk b1 [.int .i64 0, .int .i64 0, .slice none 0 0, .slice none 0 0], Ent.gifc 2, Ent.gifc 3] _ := hS.join [] [0, 1, 2, 3, 4, 5] rfl rfl hq
 clear hq
 have hd := hS.hand [0] [1, 2, 3, 4, 5, 6] rfl rfl
 refine m_stp0 [2, 4, 5, 6, 7] [(2, [], .pointer (some ⟨b1, 0, none⟩)), (4, [], .pointer (some ⟨b6, 0, none⟩)), (5, [], .pointer (some ⟨b11, 0, none⟩)), (6, [], .pointer (some ⟨b18, 0, none⟩)), (7, [], .pointer (some ⟨b25, 0, none⟩))] H27 rfl rfl rfl (o_store [.func (.func 52) ⟨[]⟩ ⟨[.pointer (some ⟨b11, 0, none⟩)]⟩] H27 hd rfl rfl (by kernel_rfl) rfl rfl rfl) rfl fun _ wd28 H29 hq => ?_
 clear H27 hd
 obtain ⟨_, hq⟩ := hq
 replace hS : SH M X w [Ent.blk b25 [.func (.func 52) ⟨[]⟩ ⟨[.pointer (some ⟨b11, 0, none⟩)]⟩], Ent.blk b18 [.func (.func 50) ⟨[]⟩ ⟨[.pointer (some ⟨b11, 0, none⟩)]⟩], Ent.blk b11 [.string ⟨⟨s⟩⟩], Ent.blk b6 [.int .i64 0, .int .i64 0, .slice none 0 0, .slice none 0 0], Ent.blk b1 [.int .i64 0, .int .i64 0, .slice none 0 0, .slice none 0 0], Ent.gifc 2, Ent.gifc 3] _ := hS.join [0] [1, 2, 3, 4, 5, 6] rfl rfl hq
 clear hq
 refine wl_end rfl ?_
 refine s_reg [] [2, 4, 5, 6, 7, 8] [(2, [], .pointer (some ⟨b1, 0, none⟩)), (4, [], .pointer (some ⟨b6, 0, none⟩)), (5, [], .pointer (some ⟨b11, 0, none⟩)), (6, [], .pointer (some ⟨b18, 0, none⟩)), (7, [], .pointer (some ⟨b25, 0, none⟩)), (8, [], .func (.func 55) ⟨[]⟩ ⟨[.pointer (some ⟨b18, 0, none⟩)]⟩)] [] H29 (by kernel_rfl) trivial fun _ wd30 H31 hb => ?_
 clear H29
 replace hS := hS.below hb
 clear hb
 refine w_seq ?_
 refine wl_start ?_
 refine wl_batch 0 1 [(.func (.func 52) ⟨[]⟩ ⟨[.pointer (some ⟨b11, 0, none⟩)]⟩)] [2, 4, 5, 6, 7, 8, 18] [(2, [], .pointer (some ⟨b1, 0, none⟩)), (4, [], .pointer (some ⟨b6, 0, none⟩)), (5, [], .pointer (some ⟨b11, 0, none⟩)), (6, [], .pointer (some ⟨b18, 0, none⟩)), (7, [], .pointer (some ⟨b25, 0, none⟩)), (8, [], .func (.func 55) ⟨[]⟩ ⟨[.pointer (some ⟨b18, 0, none⟩)]⟩), (18, [], .func (.func 52) ⟨[]⟩ ⟨[.pointer (some ⟨b11, 0, none⟩)]⟩)] [fun wz => V.at1 ⟨b25, 0, none⟩ (.func (.func 52) ⟨[]⟩ ⟨[.pointer (some ⟨b11, 0, none⟩)]⟩) wz] H31 (by decide) (by kernel_rfl) ⟨((hS.bk 0 rfl).at1 rfl), trivial⟩ fun _ wd32 H33 hb => ?_
 clear H31
 replace hS := hS.below hb
 clear hb
 obtain ⟨y34, hy34, hm⟩ := bindE hm
 have hd := hS.hand [2, 5, 6] [0, 1, 3, 4, 5, 6] rfl rfl
 refine m_stp [19, 2, 4, 5, 6, 7, 8] [(2, [], .pointer (some ⟨b1, 0, none⟩)), (4, [], .pointer (some ⟨b6, 0, none⟩)), (5, [], .pointer (some ⟨b11, 0, none⟩)), (6, [], .pointer (some ⟨b18, 0, none⟩)), (7, [], .pointer (some ⟨b25, 0, none⟩)), (8, [], .func (.func 55) ⟨[]⟩ ⟨[.pointer (some ⟨b18, 0, none⟩)]⟩)] H33 rfl rfl rfl rfl (o_callx H33 rfl rfl (answer_read_2_ok (b_u0 := b11) _ _ hy34 _ _ hd)) (fun _ => rfl) fun _ wd35 v H36 hq => ?_
 clear H33 hd
 obtain ⟨rfl, hq⟩ := hq
 replace hS : SH M X w [Ent.blk b11 [.string ⟨⟨y34.2.2⟩⟩], Ent.blk b25 [.func (.func 52) ⟨[]⟩ ⟨[.pointer (some ⟨b11, 0, none⟩)]⟩], Ent.blk b18 [.func (.func 50) ⟨[]⟩ ⟨[.pointer (some ⟨b11, 0, none⟩)]⟩], Ent.blk b6 [.int .i64 0, .int .i64 0, .slice none 0 0, .slice none 0 0], Ent.blk b1 [.int .i64 0, .int .i64 0, .slice none 0 0, .slice none 0 0], Ent.gifc 2, Ent.gifc 3] _ := hS.join [2, 5, 6] [0, 1, 3, 4, 5, 6] rfl rfl hq
 clear hq
 refine wl_batch 2 7 [] [2, 4, 5, 6, 7, 8, 9, 10] [(2, [], .pointer (some ⟨b1, 0, none⟩)), (4, [], .pointer (some ⟨b6, 0, none⟩)), (5, [], .pointer (some ⟨b11, 0, none⟩)), (6, [], .pointer (some ⟨b18, 0, none⟩)), (7, [], .pointer (some ⟨b25, 0, none⟩)), (8, [], .func (.func 55) ⟨[]⟩ ⟨[.pointer (some ⟨b18, 0, none⟩)]⟩), (9, [], .int .i64 y34.1), (10, [], .bool y34.2.1)] [] H36 (by decide) (by kernel_rfl) trivial fun _ wd37 H38 hb => ?_
 clear H36
 replace hS := hS.below hb
 clear hb
 refine wl_end rfl ?_
 refine w_seq ?_
 obtain ⟨z39, hz, hm⟩ := bindE hm
 refine w_cut (fun a' w' => Fr 66 [(2, [], .pointer (some ⟨b1, 0, none⟩)), (4, [], .pointer (some ⟨b6, 0, none⟩)), (5, [], .pointer (some ⟨b11, 0, none⟩)), (6, [], .pointer (some ⟨b18, 0, none⟩)), (7, [], .pointer (some ⟨b25, 0, none⟩)), (8, [], .func (.func 55) ⟨[]⟩ ⟨[.pointer (some ⟨b18, 0, none⟩)]⟩), (9, [], .int .i64 y34.1), (28, [], .bool z39.1)] a' ∧ SH M X w [Ent.blk b11 [.string ⟨⟨z39.2⟩⟩], Ent.blk b25 [.func (.func 52) ⟨[]⟩ ⟨[.pointer (some ⟨b11, 0, none⟩)]⟩], Ent.blk b18 [.func (.func 50) ⟨[]⟩ ⟨[.pointer (some ⟨b11, 0, none⟩)]⟩], Ent.blk b6 [.int .i64 0, .int .i64 0, .slice none 0 0, .slice none 0 0], Ent.blk b1 [.int .i64 0, .int .i64 0, .slice none 0 0, .slice none 0 0], Ent.gifc 2, Ent.gifc 3] w') ?_ ?_
 ·replace hm := hz
  refine wl_start ?_
  obtain ⟨x40, hx40, hm⟩ := letE hm
  refine wl_batch 0 3 [] [2, 4, 5, 6, 7, 8, 9, 24] [(2, [], .pointer (some ⟨b1, 0, none⟩)), (4, [], .pointer (some ⟨b6, 0, none⟩)), (5, [], .pointer (some ⟨b11, 0, none⟩)), (6, [], .pointer (some ⟨b18, 0, none⟩)), (7, [], .pointer (some ⟨b25, 0, none⟩)), (8, [], .func (.func 55) ⟨[]⟩ ⟨[.pointer (some ⟨b18, 0, none⟩)]⟩), (9, [], .int .i64 y34.1), (24, [], .bool x40)] [] H38 (by decide) (by subst hx40; kernel_rfl) trivial fun _ wd41 H42 hb => ?_
  clear H38
  replace hS := hS.below hb
  clear hb
  cases x40
  case true =>
   replace hm := bT rfl hm
   refine m_skipG 24 [25, 2, 4, 5, 6, 7, 8, 9, 24] [(25, [], undef), (2, [], .pointer (some ⟨b1, 0, none⟩)), (4, [], .pointer (some ⟨b6, 0, none⟩)), (5, [], .pointer (some ⟨b11, 0, none⟩)), (6, [], .pointer (some ⟨b18, 0, none⟩)), (7, [], .pointer (some ⟨b25, 0, none⟩)), (8, [], .func (.func 55) ⟨[]⟩ ⟨[.pointer (some ⟨b18, 0, none⟩)]⟩), (9, [], .int .i64 y34.1), (24, [], .bool true)] H42 rfl rfl rfl rfl rfl rfl fun _ H43 => ?_
   clear H42
   refine m_skipG 24 [26, 2, 4, 5, 6, 7, 8, 9, 24] [(26, [], undef), (2, [], .pointer (some ⟨b1, 0, none⟩)), (4, [], .pointer (some ⟨b6, 0, none⟩)), (5, [], .pointer (some ⟨b11, 0, none⟩)), (6, [], .pointer (some ⟨b18, 0, none⟩)), (7, [], .pointer (some ⟨b25, 0, none⟩)), (8, [], .func (.func 55) ⟨[]⟩ ⟨[.pointer (some ⟨b18, 0, none⟩)]⟩), (9, [], .int .i64 y34.1), (24, [], .bool true)] H43 rfl rfl rfl rfl rfl rfl fun _ H44 => ?_
   clear H43
   refine m_skipG 24 [27, 2, 4, 5, 6, 7, 8, 9, 24] [(27, [], undef), (2, [], .pointer (some ⟨b1, 0, none⟩)), (4, [], .pointer (some ⟨b6, 0, none⟩)), (5, [], .pointer (some ⟨b11, 0, none⟩)), (6, [], .pointer (some ⟨b18, 0, none⟩)), (7, [], .pointer (some ⟨b25, 0, none⟩)), (8, [], .func (.func 55) ⟨[]⟩ ⟨[.pointer (some ⟨b18, 0, none⟩)]⟩), (9, [], .int .i64 y34.1), (24, [], .bool true)] H44 rfl rfl rfl rfl rfl rfl fun _ H45 => ?_
   clear H44
   refine wl_batch 6 7 [] [2, 4, 5, 6, 7, 8, 9, 28] [(2, [], .pointer (some ⟨b1, 0, none⟩)), (4, [], .pointer (some ⟨b6, 0, none⟩)), (5, [], .pointer (some ⟨b11, 0, none⟩)), (6, [], .pointer (some ⟨b18, 0, none⟩)), (7, [], .pointer (some ⟨b25, 0, none⟩)), (8, [], .func (.func 55) ⟨[]⟩ ⟨[.pointer (some ⟨b18, 0, none⟩)]⟩), (9, [], .int .i64 y34.1), (28, [], .bool true)] [] H45 (by decide) (by kernel_rfl) trivial fun _ wd46 H47 hb => ?_
   clear H45
   replace hS := hS.below hb
   clear hb
   refine wl_end rfl ?_
   obtain rfl := someE hm
   exact ⟨FrG.keep (ks := [2, 4, 5, 6, 7, 8, 9, 28]) H47 (by kernel_rfl), hS⟩
  replace hm := bF rfl hm
  refine wl_batchM 3 4 [(.func (.func 50) ⟨[]⟩ ⟨[.pointer (some ⟨b11, 0, none⟩)]⟩)] [(2, 0), (4, 0), (5, 0), (6, 0), (7, 0), (8, 0), (9, 0), (24, 0), (25, 1)] [(2, [], .pointer (some ⟨b1, 0, none⟩)), (4, [], .pointer (some ⟨b6, 0, none⟩)), (5, [], .pointer (some ⟨b11, 0, none⟩)), (6, [], .pointer (some ⟨b18, 0, none⟩)), (7, [], .pointer (some ⟨b25, 0, none⟩)), (8, [], .func (.func 55) ⟨[]⟩ ⟨[.pointer (some ⟨b18, 0, none⟩)]⟩), (9, [], .int .i64 y34.1), (24, [], .bool false), (25, [], .func (.func 50) ⟨[]⟩ ⟨[.pointer (some ⟨b11, 0, none⟩)]⟩)] [fun wz => (false = false ∧ True → V.at1 ⟨b18, 0, none⟩ (.func (.func 50) ⟨[]⟩ ⟨[.pointer (some ⟨b11, 0, none⟩)]⟩) wz)] H42 (by decide) (by kernel_rfl) ⟨fun hg => (hS.bk 2 rfl).at1 rfl, trivial⟩ fun _ wd48 H49 hb => ?_
  clear H42
  replace hS := hS.below hb
  clear hb
  obtain ⟨y50, hy50, hm⟩ := bindE hm
  have hd := hS.hand [0] [1, 2, 3, 4, 5, 6] rfl rfl
  refine m_stpG 24 [26, 2, 4, 5, 6, 7, 8, 9, 24] [(2, [], .pointer (some ⟨b1, 0, none⟩)), (4, [], .pointer (some ⟨b6, 0, none⟩)), (5, [], .pointer (some ⟨b11, 0, none⟩)), (6, [], .pointer (some ⟨b18, 0, none⟩)), (7, [], .pointer (some ⟨b25, 0, none⟩)), (8, [], .func (.func 55) ⟨[]⟩ ⟨[.pointer (some ⟨b18, 0, none⟩)]⟩), (9, [], .int .i64 y34.1), (24, [], .bool false)] H49 rfl rfl rfl rfl (o_callx H49 rfl rfl (answer_read_1_ok (b_u0 := b11) _ _ _ hy50 _ _ hd)) (fun _ => rfl) fun _ wd51 v H52 hq => ?_
  clear H49 hd
  obtain ⟨rfl, hq⟩ := hq
  replace hS : SH M X w [Ent.blk b11 [.string ⟨⟨y50.2⟩⟩], Ent.blk b25 [.func (.func 52) ⟨[]⟩ ⟨[.pointer (some ⟨b11, 0, none⟩)]⟩], Ent.blk b18 [.func (.func 50) ⟨[]⟩ ⟨[.pointer (some ⟨b11, 0, none⟩)]⟩], Ent.blk b6 [.int .i64 0, .int .i64 0, .slice none 0 0, .slice none 0 0], Ent.blk b1 [.int .i64 0, .int .i64 0, .slice none 0 0, .slice none 0 0], Ent.gifc 2, Ent.gifc 3] _ := hS.join [0] [1, 2, 3, 4, 5, 6] rfl rfl hq
  clear hq
  refine wl_batch 5 7 [] [2, 4, 5, 6, 7, 8, 9, 28] [(2, [], .pointer (some ⟨b1, 0, none⟩)), (4, [], .pointer (some ⟨b6, 0, none⟩)), (5, [], .pointer (some ⟨b11, 0, none⟩)), (6, [], .pointer (some ⟨b18, 0, none⟩)), (7, [], .pointer (some ⟨b25, 0, none⟩)), (8, [], .func (.func 55) ⟨[]⟩ ⟨[.pointer (some ⟨b18, 0, none⟩)]⟩), (9, [], .int .i64 y34.1), (28, [], .bool (!y50.1))] [] H52 (by decide) (by kernel_rfl) trivial fun _ wd53 H54 hb => ?_
  clear H52
  replace hS := hS.below hb
  clear hb
  refine wl_end rfl ?_
  obtain rfl := someE hm
  exact ⟨FrG.keep (ks := [2, 4, 5, 6, 7, 8, 9, 28]) H54 (by kernel_rfl), hS⟩
 ·rintro _ wd160 ⟨H, hS⟩
  refine w_if H rfl (fun hc => ?c159) (fun hc => ?_)
  case c159 =>
   replace hm := bT hc hm
   refine w_seq ?_
   refine wl_start ?_
   refine wl_batch 0 1 [(.agg ⟨[.int .i64 0, .int .i64 0, .slice none 0 0, .slice none 0 0]⟩)] [2, 29] [(2, [], .pointer (some ⟨b1, 0, none⟩)), (29, [], .agg ⟨[.int .i64 0, .int .i64 0, .slice none 0 0, .slice none 0 0]⟩)] [fun wz => V.atN b6 0 [.int .i64 0, .int .i64 0, .slice none 0 0, .slice none 0 0] 0 wz] H (by decide) (by kernel_rfl) ⟨((hS.bk 3 rfl).atD rfl), trivial⟩ fun _ wd55 H56 hb => ?_
   clear H
   replace hS := hS.below hb
   clear hb
   have hd := hS.hand [4] [0, 1, 2, 3, 5, 6] rfl rfl
   refine m_stp0 [2] [(2, [], .pointer (some ⟨b1, 0, none⟩))] H56 rfl rfl rfl (o_store [.int .i64 0, .int .i64 0, .slice none 0 0, .slice none 0 0] H56 hd rfl rfl (by kernel_rfl) rfl rfl rfl) rfl fun _ wd57 H58 hq => ?_
   clear H56 hd
   obtain ⟨_, hq⟩ := hq
   replace hS : SH M X w [Ent.blk b1 [.int .i64 0, .int .i64 0, .slice none 0 0, .slice none 0 0], Ent.blk b11 [.string ⟨⟨z39.2⟩⟩], Ent.blk b25 [.func (.func 52) ⟨[]⟩ ⟨[.pointer (some ⟨b11, 0, none⟩)]⟩], Ent.blk b18 [.func (.func 50) ⟨[]⟩ ⟨[.pointer (some ⟨b11, 0, none⟩)]⟩], Ent.blk b6 [.int .i64 0, .int .i64 0, .slice none 0 0, .slice none 0 0], Ent.gifc 2, Ent.gifc 3] _ := hS.join [4] [0, 1, 2, 3, 5, 6] rfl rfl hq
   clear hq
   refine wl_batch 2 3 [] [2, 3] [(2, [], .pointer (some ⟨b1, 0, none⟩)), (3, [], .bool false)] [] H58 (by decide) (by kernel_rfl) trivial fun _ wd59 H60 hb => ?_
   clear H58
   replace hS := hS.below hb
   clear hb
   refine wl_end rfl ?_
   replace hS : SH M X w [Ent.blk b1 [.int .i64 0, .int .i64 0, .slice none 0 0, .slice none 0 0], Ent.gifc 2, Ent.gifc 3] _ := hS.sel [0, 5, 6] rfl
   refine w_ret ?_
   obtain rfl := someE hm
   replace hS : SH M X w [Ent.own 9 tS ([] : List Str) (.nil), Ent.blk b1 [.int .i64 0, .int .i64 0, .slice none 0 0, .slice none 0 0], Ent.gifc 2, Ent.gifc 3] _ := hS.addNil 9 tS
   replace hS : SH M X w [Ent.im tS ([] : List Str) (.nil), Ent.blk b1 [.int .i64 0, .int .i64 0, .slice none 0 0, .slice none 0 0], Ent.gifc 2, Ent.gifc 3] _ := SH.frz1 (hS.sel [0, 1, 2, 3] rfl)
   replace hS : SH M X w [Ent.own 3 (tI .i64) ([] : List Int) (.nil), Ent.im tS ([] : List Str) (.nil), Ent.blk b1 [.int .i64 0, .int .i64 0, .slice none 0 0, .slice none 0 0], Ent.gifc 2, Ent.gifc 3] _ := hS.addNil 3 (tI .i64)
   exact retR2 H60 rfl (oneRes_agg rfl (hS.bk 2 rfl) Tryd.underlying26 rfl (by kernel_rfl)) rfl ⟨_, rfl, Gh.nil, Gh.nil, rfl, (hS.sel [1, 0] rfl)⟩
  replace hm := bF hc hm
  refine w_skip ?_
  refine w_seq ?_
  refine wl_start ?_
  refine wl_batch 0 2 [] [2, 4, 5, 6, 7, 8, 30, 31] [(2, [], .pointer (some ⟨b1, 0, none⟩)), (4, [], .pointer (some ⟨b6, 0, none⟩)), (5, [], .pointer (some ⟨b11, 0, none⟩)), (6, [], .pointer (some ⟨b18, 0, none⟩)), (7, [], .pointer (some ⟨b25, 0, none⟩)), (8, [], .func (.func 55) ⟨[]⟩ ⟨[.pointer (some ⟨b18, 0, none⟩)]⟩), (30, [], .int .i64 y34.1), (31, [], .pointer (some ⟨b6, 0, none⟩))] [] H (by decide) (by kernel_rfl) trivial fun _ wd63 H64 hb => ?_
  clear H
  replace hS := hS.below hb
  clear hb
  have hd := hS.hand [3] [0, 1, 2, 4, 5, 6] rfl rfl
  refine m_stp0 [2, 4, 5, 6, 7, 8] [(2, [], .pointer (some ⟨b1, 0, none⟩)), (4, [], .pointer (some ⟨b6, 0, none⟩)), (5, [], .pointer (some ⟨b11, 0, none⟩)), (6, [], .pointer (some ⟨b18, 0, none⟩)), (7, [], .pointer (some ⟨b25, 0, none⟩)), (8, [], .func (.func 55) ⟨[]⟩ ⟨[.pointer (some ⟨b18, 0, none⟩)]⟩)] H64 rfl rfl rfl (o_store [.int .i64 y34.1, .int .i64 0, .slice none 0 0, .slice none 0 0] H64 hd rfl rfl (by kernel_rfl) rfl rfl rfl) rfl fun _ wd65 H66 hq => ?_
  clear H64 hd
  obtain ⟨_, hq⟩ := hq
  replace hS : SH M X w [Ent.blk b6 [.int .i64 y34.1, .int .i64 0, .slice none 0 0, .slice none 0 0], Ent.blk b11 [.string ⟨⟨z39.2⟩⟩], Ent.blk b25 [.func (.func 52) ⟨[]⟩ ⟨[.pointer (some ⟨b11, 0, none⟩)]⟩], Ent.blk b18 [.func (.func 50) ⟨[]⟩ ⟨[.pointer (some ⟨b11, 0, none⟩)]⟩], Ent.blk b1 [.int .i64 0, .int .i64 0, .slice none 0 0, .slice none 0 0], Ent.gifc 2, Ent.gifc 3] _ := hS.join [3] [0, 1, 2, 4, 5, 6] rfl rfl hq
  clear hq
  refine wl_end rfl ?_
  refine w_seq ?_
  refine w_seq ?_
  refine wl_start ?_
  refine wl_batch 0 1 [(.func (.func 52) ⟨[]⟩ ⟨[.pointer (some ⟨b11, 0, none⟩)]⟩)] [2, 4, 5, 6, 7, 8, 33] [(2, [], .pointer (some ⟨b1, 0, none⟩)), (4, [], .pointer (some ⟨b6, 0, none⟩)), (5, [], .pointer (some ⟨b11, 0, none⟩)), (6, [], .pointer (some ⟨b18, 0, none⟩)), (7, [], .pointer (some ⟨b25, 0, none⟩)), (8, [], .func (.func 55) ⟨[]⟩ ⟨[.pointer (some ⟨b18, 0, none⟩)]⟩), (33, [], .func (.func 52) ⟨[]⟩ ⟨[.pointer (some ⟨b11, 0, none⟩)]⟩)] [fun wz => V.at1 ⟨b25, 0, none⟩ (.func (.func 52) ⟨[]⟩ ⟨[.pointer (some ⟨b11, 0, none⟩)]⟩) wz] H66 (by decide) (by kernel_rfl) ⟨((hS.bk 2 rfl).at1 rfl), trivial⟩ fun _ wd67 H68 hb => ?_
  clear H66
  replace hS := hS.below hb
  clear hb
  obtain ⟨y69, hy69, hm⟩ := bindE hm
  have hd := hS.hand [1, 5, 6] [0, 2, 3, 4, 5, 6] rfl rfl
  refine m_stp [34, 2, 4, 5, 6, 7, 8] [(2, [], .pointer (some ⟨b1, 0, none⟩)), (4, [], .pointer (some ⟨b6, 0, none⟩)), (5, [], .pointer (some ⟨b11, 0, none⟩)), (6, [], .pointer (some ⟨b18, 0, none⟩)), (7, [], .pointer (some ⟨b25, 0, none⟩)), (8, [], .func (.func 55) ⟨[]⟩ ⟨[.pointer (some ⟨b18, 0, none⟩)]⟩)] H68 rfl rfl rfl rfl (o_callx H68 rfl rfl (answer_read_2_ok (b_u0 := b11) _ _ hy69 _ _ hd)) (fun _ => rfl) fun _ wd70 v H71 hq => ?_
  clear H68 hd
  obtain ⟨rfl, hq⟩ := hq
  replace hS : SH M X w [Ent.blk b11 [.string ⟨⟨y69.2.2⟩⟩], Ent.blk b6 [.int .i64 y34.1, .int .i64 0, .slice none 0 0, .slice none 0 0], Ent.blk b25 [.func (.func 52) ⟨[]⟩ ⟨[.pointer (some ⟨b11, 0, none⟩)]⟩], Ent.blk b18 [.func (.func 50) ⟨[]⟩ ⟨[.pointer (some ⟨b11, 0, none⟩)]⟩], Ent.blk b1 [.int .i64 0, .int .i64 0, .slice none 0 0, .slice none 0 0], Ent.gifc 2, Ent.gifc 3] _ := hS.join [1, 5, 6] [0, 2, 3, 4, 5, 6] rfl rfl hq
  clear hq
  refine wl_batch 2 6 [] [2, 4, 5, 6, 7, 8, 35, 36, 37] [(2, [], .pointer (some ⟨b1, 0, none⟩)), (4, [], .pointer (some ⟨b6, 0, none⟩)), (5, [], .pointer (some ⟨b11, 0, none⟩)), (6, [], .pointer (some ⟨b18, 0, none⟩)), (7, [], .pointer (some ⟨b25, 0, none⟩)), (8, [], .func (.func 55) ⟨[]⟩ ⟨[.pointer (some ⟨b18, 0, none⟩)]⟩), (35, [], .int .i64 y69.1), (36, [], .bool y69.2.1), (37, [], .pointer (some ⟨b6, 1, none⟩))] [] H71 (by decide) (by kernel_rfl) trivial fun _ wd72 H73 hb => ?_
  clear H71
  replace hS := hS.below hb
  clear hb
  have hd := hS.hand [1] [0, 2, 3, 4, 5, 6] rfl rfl
  refine m_stp0 [2, 4, 5, 6, 7, 8, 36] [(2, [], .pointer (some ⟨b1, 0, none⟩)), (4, [], .pointer (some ⟨b6, 0, none⟩)), (5, [], .pointer (some ⟨b11, 0, none⟩)), (6, [], .pointer (some ⟨b18, 0, none⟩)), (7, [], .pointer (some ⟨b25, 0, none⟩)), (8, [], .func (.func 55) ⟨[]⟩ ⟨[.pointer (some ⟨b18, 0, none⟩)]⟩), (36, [], .bool y69.2.1)] H73 rfl rfl rfl (o_store [.int .i64 y34.1, .int .i64 y69.1, .slice none 0 0, .slice none 0 0] H73 hd rfl rfl (by kernel_rfl) rfl rfl rfl) rfl fun _ wd74 H75 hq => ?_
  clear H73 hd
  obtain ⟨_, hq⟩ := hq
  replace hS : SH M X w [Ent.blk b6 [.int .i64 y34.1, .int .i64 y69.1, .slice none 0 0, .slice none 0 0], Ent.blk b11 [.string ⟨⟨y69.2.2⟩⟩], Ent.blk b25 [.func (.func 52) ⟨[]⟩ ⟨[.pointer (some ⟨b11, 0, none⟩)]⟩], Ent.blk b18 [.func (.func 50) ⟨[]⟩ ⟨[.pointer (some ⟨b11, 0, none⟩)]⟩], Ent.blk b1 [.int .i64 0, .int .i64 0, .slice none 0 0, .slice none 0 0], Ent.gifc 2, Ent.gifc 3] _ := hS.join [1] [0, 2, 3, 4, 5, 6] rfl rfl hq
  clear hq
  refine wl_batch 7 8 [] [2, 4, 5, 6, 7, 8, 10] [(2, [], .pointer (some ⟨b1, 0, none⟩)), (4, [], .pointer (some ⟨b6, 0, none⟩)), (5, [], .pointer (some ⟨b11, 0, none⟩)), (6, [], .pointer (some ⟨b18, 0, none⟩)), (7, [], .pointer (some ⟨b25, 0, none⟩)), (8, [], .func (.func 55) ⟨[]⟩ ⟨[.pointer (some ⟨b18, 0, none⟩)]⟩), (10, [], .bool y69.2.1)] [] H75 (by decide) (by kernel_rfl) trivial fun _ wd76 H77 hb => ?_
  clear H75
  replace hS := hS.below hb
  clear hb
  refine wl_end rfl ?_
  obtain ⟨z78, hz, hm⟩ := bindE hm
  refine w_cut (fun a' w' => Fr 66 [(2, [], .pointer (some ⟨b1, 0, none⟩)), (4, [], .pointer (some ⟨b6, 0, none⟩)), (5, [], .pointer (some ⟨b11, 0, none⟩)), (6, [], .pointer (some ⟨b18, 0, none⟩)), (7, [], .pointer (some ⟨b25, 0, none⟩)), (8, [], .func (.func 55) ⟨[]⟩ ⟨[.pointer (some ⟨b18, 0, none⟩)]⟩), (44, [], .bool z78.1)] a' ∧ SH M X w [Ent.blk b6 [.int .i64 y34.1, .int .i64 y69.1, .slice none 0 0, .slice none 0 0], Ent.blk b11 [.string ⟨⟨z78.2⟩⟩], Ent.blk b25 [.func (.func 52) ⟨[]⟩ ⟨[.pointer (some ⟨b11, 0, none⟩)]⟩], Ent.blk b18 [.func (.func 50) ⟨[]⟩ ⟨[.pointer (some ⟨b11, 0, none⟩)]⟩], Ent.blk b1 [.int .i64 0, .int .i64 0, .slice none 0 0, .slice none 0 0], Ent.gifc 2, Ent.gifc 3] w') ?_ ?_
  ·replace hm := hz
   refine wl_start ?_
   obtain ⟨x79, hx79, hm⟩ := letE hm
   refine wl_batch 0 3 [] [2, 4, 5, 6, 7, 8, 40] [(2, [], .pointer (some ⟨b1, 0, none⟩)), (4, [], .pointer (some ⟨b6, 0, none⟩)), (5, [], .pointer (some ⟨b11, 0, none⟩)), (6, [], .pointer (some ⟨b18, 0, none⟩)), (7, [], .pointer (some ⟨b25, 0, none⟩)), (8, [], .func (.func 55) ⟨[]⟩ ⟨[.pointer (some ⟨b18, 0, none⟩)]⟩), (40, [], .bool x79)] [] H77 (by decide) (by subst hx79; kernel_rfl) trivial fun _ wd80 H81 hb => ?_
   clear H77
   replace hS := hS.below hb
   clear hb
   cases x79
   case true =>
    replace hm := bT rfl hm
    refine m_skipG 40 [41, 2, 4, 5, 6, 7, 8, 40] [(41, [], undef), (2, [], .pointer (some ⟨b1, 0, none⟩)), (4, [], .pointer (some ⟨b6, 0, none⟩)), (5, [], .pointer (some ⟨b11, 0, none⟩)), (6, [], .pointer (some ⟨b18, 0, none⟩)), (7, [], .pointer (some ⟨b25, 0, none⟩)), (8, [], .func (.func 55) ⟨[]⟩ ⟨[.pointer (some ⟨b18, 0, none⟩)]⟩), (40, [], .bool true)] H81 rfl rfl rfl rfl rfl rfl fun _ H82 => ?_
    clear H81
    refine m_skipG 40 [42, 2, 4, 5, 6, 7, 8, 40] [(42, [], undef), (2, [], .pointer (some ⟨b1, 0, none⟩)), (4, [], .pointer (some ⟨b6, 0, none⟩)), (5, [], .pointer (some ⟨b11, 0, none⟩)), (6, [], .pointer (some ⟨b18, 0, none⟩)), (7, [], .pointer (some ⟨b25, 0, none⟩)), (8, [], .func (.func 55) ⟨[]⟩ ⟨[.pointer (some ⟨b18, 0, none⟩)]⟩), (40, [], .bool true)] H82 rfl rfl rfl rfl rfl rfl fun _ H83 => ?_
    clear H82
    refine m_skipG 40 [43, 2, 4, 5, 6, 7, 8, 40] [(43, [], undef), (2, [], .pointer (some ⟨b1, 0, none⟩)), (4, [], .pointer (some ⟨b6, 0, none⟩)), (5, [], .pointer (some ⟨b11, 0, none⟩)), (6, [], .pointer (some ⟨b18, 0, none⟩)), (7, [], .pointer (some ⟨b25, 0, none⟩)), (8, [], .func (.func 55) ⟨[]⟩ ⟨[.pointer (some ⟨b18, 0, none⟩)]⟩), (40, [], .bool true)] H83 rfl rfl rfl rfl rfl rfl fun _ H84 => ?_
    clear H83
    refine wl_batch 6 7 [] [2, 4, 5, 6, 7, 8, 44] [(2, [], .pointer (some ⟨b1, 0, none⟩)), (4, [], .pointer (some ⟨b6, 0, none⟩)), (5, [], .pointer (some ⟨b11, 0, none⟩)), (6, [], .pointer (some ⟨b18, 0, none⟩)), (7, [], .pointer (some ⟨b25, 0, none⟩)), (8, [], .func (.func 55) ⟨[]⟩ ⟨[.pointer (some ⟨b18, 0, none⟩)]⟩), (44, [], .bool true)] [] H84 (by decide) (by kernel_rfl) trivial fun _ wd85 H86 hb => ?_
    clear H84
    replace hS := hS.below hb
    clear hb
    refine wl_end rfl ?_
    obtain rfl := someE hm
    exact ⟨FrG.keep (ks := [2, 4, 5, 6, 7, 8, 44]) H86 (by kernel_rfl), hS⟩
   replace hm := bF rfl hm
   refine wl_batchM 3 4 [(.func (.func 50) ⟨[]⟩ ⟨[.pointer (some ⟨b11, 0, none⟩)]⟩)] [(2, 0), (4, 0), (5, 0), (6, 0), (7, 0), (8, 0), (40, 0), (41, 1)] [(2, [], .pointer (some ⟨b1, 0, none⟩)), (4, [], .pointer (some ⟨b6, 0, none⟩)), (5, [], .pointer (some ⟨b11, 0, none⟩)), (6, [], .pointer (some ⟨b18, 0, none⟩)), (7, [], .pointer (some ⟨b25, 0, none⟩)), (8, [], .func (.func 55) ⟨[]⟩ ⟨[.pointer (some ⟨b18, 0, none⟩)]⟩), (40, [], .bool false), (41, [], .func (.func 50) ⟨[]⟩ ⟨[.pointer (some ⟨b11, 0, none⟩)]⟩)] [fun wz => (false = false ∧ True → V.at1 ⟨b18, 0, none⟩ (.func (.func 50) ⟨[]⟩ ⟨[.pointer (some ⟨b11, 0, none⟩)]⟩) wz)] H81 (by decide) (by kernel_rfl) ⟨fun hg => (hS.bk 3 rfl).at1 rfl, trivial⟩ fun _ wd87 H88 hb => ?_
   clear H81
   replace hS := hS.below hb
   clear hb
   obtain ⟨y89, hy89, hm⟩ := bindE hm
   have hd := hS.hand [1] [0, 2, 3, 4, 5, 6] rfl rfl
   refine m_stpG 40 [42, 2, 4, 5, 6, 7, 8, 40] [(2, [], .pointer (some ⟨b1, 0, none⟩)), (4, [], .pointer (some ⟨b6, 0, none⟩)), (5, [], .pointer (some ⟨b11, 0, none⟩)), (6, [], .pointer (some ⟨b18, 0, none⟩)), (7, [], .pointer (some ⟨b25, 0, none⟩)), (8, [], .func (.func 55) ⟨[]⟩ ⟨[.pointer (some ⟨b18, 0, none⟩)]⟩), (40, [], .bool false)] H88 rfl rfl rfl rfl (o_callx H88 rfl rfl (answer_read_1_ok (b_u0 := b11) _ _ _ hy89 _ _ hd)) (fun _ => rfl) fun _ wd90 v H91 hq => ?_
   clear H88 hd
   obtain ⟨rfl, hq⟩ := hq
   replace hS : SH M X w [Ent.blk b11 [.string ⟨⟨y89.2⟩⟩], Ent.blk b6 [.int .i64 y34.1, .int .i64 y69.1, .slice none 0 0, .slice none 0 0], Ent.blk b25 [.func (.func 52) ⟨[]⟩ ⟨[.pointer (some ⟨b11, 0, none⟩)]⟩], Ent.blk b18 [.func (.func 50) ⟨[]⟩ ⟨[.pointer (some ⟨b11, 0, none⟩)]⟩], Ent.blk b1 [.int .i64 0, .int .i64 0, .slice none 0 0, .slice none 0 0], Ent.gifc 2, Ent.gifc 3] _ := hS.join [1] [0, 2, 3, 4, 5, 6] rfl rfl hq
   clear hq
   refine wl_batch 5 7 [] [2, 4, 5, 6, 7, 8, 44] [(2, [], .pointer (some ⟨b1, 0, none⟩)), (4, [], .pointer (some ⟨b6, 0, none⟩)), (5, [], .pointer (some ⟨b11, 0, none⟩)), (6, [], .pointer (some ⟨b18, 0, none⟩)), (7, [], .pointer (some ⟨b25, 0, none⟩)), (8, [], .func (.func 55) ⟨[]⟩ ⟨[.pointer (some ⟨b18, 0, none⟩)]⟩), (44, [], .bool (!y89.1))] [] H91 (by decide) (by kernel_rfl) trivial fun _ wd92 H93 hb => ?_
   clear H91
   replace hS := hS.below hb
   clear hb
   refine wl_end rfl ?_
   obtain rfl := someE hm
   replace hS : SH M X w [Ent.blk b6 [.int .i64 y34.1, .int .i64 y69.1, .slice none 0 0, .slice none 0 0], Ent.blk b11 [.string ⟨⟨y89.2⟩⟩], Ent.blk b25 [.func (.func 52) ⟨[]⟩ ⟨[.pointer (some ⟨b11, 0, none⟩)]⟩], Ent.blk b18 [.func (.func 50) ⟨[]⟩ ⟨[.pointer (some ⟨b11, 0, none⟩)]⟩], Ent.blk b1 [.int .i64 0, .int .i64 0, .slice none 0 0, .slice none 0 0], Ent.gifc 2, Ent.gifc 3] _ := hS.sel [1, 0, 2, 3, 4, 5, 6] rfl
   exact ⟨FrG.keep (ks := [2, 4, 5, 6, 7, 8, 44]) H93 (by kernel_rfl), hS⟩
  ·rintro _ wd158 ⟨H, hS⟩
   refine w_if H rfl (fun hc => ?c157) (fun hc => ?_)
   case c157 =>
    replace hm := bT hc hm
    refine w_seq ?_
    refine wl_start ?_
    refine wl_batch 0 1 [(.agg ⟨[.int .i64 y34.1, .int .i64 y69.1, .slice none 0 0, .slice none 0 0]⟩)] [2, 45] [(2, [], .pointer (some ⟨b1, 0, none⟩)), (45, [], .agg ⟨[.int .i64 y34.1, .int .i64 y69.1, .slice none 0 0, .slice none 0 0]⟩)] [fun wz => V.atN b6 0 [.int .i64 y34.1, .int .i64 y69.1, .slice none 0 0, .slice none 0 0] 0 wz] H (by decide) (by kernel_rfl) ⟨((hS.bk 0 rfl).atD rfl), trivial⟩ fun _ wd94 H95 hb => ?_
    clear H
    replace hS := hS.below hb
    clear hb
    have hd := hS.hand [4] [0, 1, 2, 3, 5, 6] rfl rfl
    refine m_stp0 [2] [(2, [], .pointer (some ⟨b1, 0, none⟩))] H95 rfl rfl rfl (o_store [.int .i64 y34.1, .int .i64 y69.1, .slice none 0 0, .slice none 0 0] H95 hd rfl rfl (by kernel_rfl) rfl rfl rfl) rfl fun _ wd96 H97 hq => ?_
    clear H95 hd
    obtain ⟨_, hq⟩ := hq
    replace hS : SH M X w [Ent.blk b1 [.int .i64 y34.1, .int .i64 y69.1, .slice none 0 0, .slice none 0 0], Ent.blk b6 [.int .i64 y34.1, .int .i64 y69.1, .slice none 0 0, .slice none 0 0], Ent.blk b11 [.string ⟨⟨z78.2⟩⟩], Ent.blk b25 [.func (.func 52) ⟨[]⟩ ⟨[.pointer (some ⟨b11, 0, none⟩)]⟩], Ent.blk b18 [.func (.func 50) ⟨[]⟩ ⟨[.pointer (some ⟨b11, 0, none⟩)]⟩], Ent.gifc 2, Ent.gifc 3] _ := hS.join [4] [0, 1, 2, 3, 5, 6] rfl rfl hq
    clear hq
    refine wl_batch 2 3 [] [2, 3] [(2, [], .pointer (some ⟨b1, 0, none⟩)), (3, [], .bool false)] [] H97 (by decide) (by kernel_rfl) trivial fun _ wd98 H99 hb => ?_
    clear H97
    replace hS := hS.below hb
    clear hb
    refine wl_end rfl ?_
    replace hS : SH M X w [Ent.blk b1 [.int .i64 y34.1, .int .i64 y69.1, .slice none 0 0, .slice none 0 0], Ent.gifc 2, Ent.gifc 3] _ := hS.sel [0, 5, 6] rfl
    refine w_ret ?_
    obtain rfl := someE hm
    replace hS : SH M X w [Ent.own 9 tS ([] : List Str) (.nil), Ent.blk b1 [.int .i64 y34.1, .int .i64 y69.1, .slice none 0 0, .slice none 0 0], Ent.gifc 2, Ent.gifc 3] _ := hS.addNil 9 tS
    replace hS : SH M X w [Ent.im tS ([] : List Str) (.nil), Ent.blk b1 [.int .i64 y34.1, .int .i64 y69.1, .slice none 0 0, .slice none 0 0], Ent.gifc 2, Ent.gifc 3] _ := SH.frz1 (hS.sel [0, 1, 2, 3] rfl)
    replace hS : SH M X w [Ent.own 3 (tI .i64) ([] : List Int) (.nil), Ent.im tS ([] : List Str) (.nil), Ent.blk b1 [.int .i64 y34.1, .int .i64 y69.1, .slice none 0 0, .slice none 0 0], Ent.gifc 2, Ent.gifc 3] _ := hS.addNil 3 (tI .i64)
    exact retR2 H99 rfl (oneRes_agg rfl (hS.bk 2 rfl) Tryd.underlying26 rfl (by kernel_rfl)) rfl ⟨_, rfl, Gh.nil, Gh.nil, rfl, (hS.sel [1, 0] rfl)⟩
   replace hm := bF hc hm
   refine w_skip ?_
   refine w_seq ?_
   refine wl_start ?_
   refine wl_batch 0 2 [] [2, 4, 5, 6, 7, 8, 46, 47] [(2, [], .pointer (some ⟨b1, 0, none⟩)), (4, [], .pointer (some ⟨b6, 0, none⟩)), (5, [], .pointer (some ⟨b11, 0, none⟩)), (6, [], .pointer (some ⟨b18, 0, none⟩)), (7, [], .pointer (some ⟨b25, 0, none⟩)), (8, [], .func (.func 55) ⟨[]⟩ ⟨[.pointer (some ⟨b18, 0, none⟩)]⟩), (46, [], .func (.func 55) ⟨[]⟩ ⟨[.pointer (some ⟨b18, 0, none⟩)]⟩), (47, [], .func (.func 56) ⟨[]⟩ ⟨[.pointer (some ⟨b18, 0, none⟩), .pointer (some ⟨b11, 0, none⟩), .pointer (some ⟨b6, 0, none⟩)]⟩)] [] H (by decide) (by kernel_rfl) trivial fun _ wd102 H103 hb => ?_
   clear H
   replace hS := hS.below hb
   clear hb
   replace hS : SH M X w [Ent.own 9 tS ([] : List Str) (.nil), Ent.blk b6 [.int .i64 y34.1, .int .i64 y69.1, .slice none 0 0, .slice none 0 0], Ent.blk b11 [.string ⟨⟨z78.2⟩⟩], Ent.blk b25 [.func (.func 52) ⟨[]⟩ ⟨[.pointer (some ⟨b11, 0, none⟩)]⟩], Ent.blk b18 [.func (.func 50) ⟨[]⟩ ⟨[.pointer (some ⟨b11, 0, none⟩)]⟩], Ent.blk b1 [.int .i64 0, .int .i64 0, .slice none 0 0, .slice none 0 0], Ent.gifc 2, Ent.gifc 3] _ := hS.addNil 9 tS
   replace hS : SH M X w [Ent.own 3 (tI .i64) ([] : List Int) (.nil), Ent.own 9 tS ([] : List Str) (.nil), Ent.blk b6 [.int .i64 y34.1, .int .i64 y69.1, .slice Gh.nil.a (([] : List Str).length) Gh.nil.c, .slice none 0 0], Ent.blk b11 [.string ⟨⟨z78.2⟩⟩], Ent.blk b25 [.func (.func 52) ⟨[]⟩ ⟨[.pointer (some ⟨b11, 0, none⟩)]⟩], Ent.blk b18 [.func (.func 50) ⟨[]⟩ ⟨[.pointer (some ⟨b11, 0, none⟩)]⟩], Ent.blk b1 [.int .i64 0, .int .i64 0, .slice none 0 0, .slice none 0 0], Ent.gifc 2, Ent.gifc 3] _ := hS.addNil 3 (tI .i64)
   replace hS : SH M X w [Ent.im (tI .i64) ([] : List Int) (.nil), Ent.own 9 tS ([] : List Str) (.nil), Ent.blk b6 [.int .i64 y34.1, .int .i64 y69.1, .slice Gh.nil.a (([] : List Str).length) Gh.nil.c, .slice none 0 0], Ent.blk b11 [.string ⟨⟨z78.2⟩⟩], Ent.blk b25 [.func (.func 52) ⟨[]⟩ ⟨[.pointer (some ⟨b11, 0, none⟩)]⟩], Ent.blk b18 [.func (.func 50) ⟨[]⟩ ⟨[.pointer (some ⟨b11, 0, none⟩)]⟩], Ent.blk b1 [.int .i64 0, .int .i64 0, .slice none 0 0, .slice none 0 0], Ent.gifc 2, Ent.gifc 3] _ := SH.frz1 (hS.sel [0, 1, 2, 3, 4, 5, 6, 7, 8] rfl)
   obtain ⟨y106, hy106, hm⟩ := bindE hm
   have hd := hS.hand [5, 3, 2, 1, 0] [0, 4, 6, 7, 8] rfl rfl
   refine m_stp [48, 2, 4, 5, 6, 7, 8] [(2, [], .pointer (some ⟨b1, 0, none⟩)), (4, [], .pointer (some ⟨b6, 0, none⟩)), (5, [], .pointer (some ⟨b11, 0, none⟩)), (6, [], .pointer (some ⟨b18, 0, none⟩)), (7, [], .pointer (some ⟨b25, 0, none⟩)), (8, [], .func (.func 55) ⟨[]⟩ ⟨[.pointer (some ⟨b18, 0, none⟩)]⟩)] H103 rfl rfl rfl rfl (o_callx H103 rfl rfl (answer_read_3_ok (b_one_c0 := b18) (b_one_c0_c0 := b11) (b_one_c2 := b6) (g_one_c2_Texts := Gh.nil) (g_one_c2_Numbers := Gh.nil) m _ _ _ _ _ _ hy106 _ _ hd)) (fun _ => rfl) fun _ wd109 v H110 hq => ?_
   clear H103 hd
   obtain ⟨g107, rfl, hq⟩ := hq
   replace hS : SH M X w [Ent.blk b18 [.func (.func 50) ⟨[]⟩ ⟨[.pointer (some ⟨b11, 0, none⟩)]⟩], Ent.blk b11 [.string ⟨⟨y106.2.1⟩⟩], Ent.blk b6 [.int .i64 y34.1, .int .i64 y69.1, .slice g107.a y106.2.2.length g107.c, .slice none 0 0], Ent.own 9 tS y106.2.2 g107, Ent.im (tI .i64) ([] : List Int) (.nil), Ent.blk b25 [.func (.func 52) ⟨[]⟩ ⟨[.pointer (some ⟨b11, 0, none⟩)]⟩], Ent.blk b1 [.int .i64 0, .int .i64 0, .slice none 0 0, .slice none 0 0], Ent.gifc 2, Ent.gifc 3] _ := hS.join [5, 3, 2, 1, 0] [0, 4, 6, 7, 8] rfl rfl hq
   clear hq
   refine wl_batch 3 4 [] [2, 4, 5, 6, 7, 8, 11] [(2, [], .pointer (some ⟨b1, 0, none⟩)), (4, [], .pointer (some ⟨b6, 0, none⟩)), (5, [], .pointer (some ⟨b11, 0, none⟩)), (6, [], .pointer (some ⟨b18, 0, none⟩)), (7, [], .pointer (some ⟨b25, 0, none⟩)), (8, [], .func (.func 55) ⟨[]⟩ ⟨[.pointer (some ⟨b18, 0, none⟩)]⟩), (11, [], .bool y106.1)] [] H110 (by decide) (by kernel_rfl) trivial fun _ wd111 H112 hb => ?_
   clear H110
   replace hS := hS.below hb
   clear hb
   refine wl_end rfl ?_
   replace hS : SH M X w [Ent.blk b18 [.func (.func 50) ⟨[]⟩ ⟨[.pointer (some ⟨b11, 0, none⟩)]⟩], Ent.blk b11 [.string ⟨⟨y106.2.1⟩⟩], Ent.blk b6 [.int .i64 y34.1, .int .i64 y69.1, .slice g107.a y106.2.2.length g107.c, .slice none 0 0], Ent.own 9 tS y106.2.2 g107, Ent.blk b25 [.func (.func 52) ⟨[]⟩ ⟨[.pointer (some ⟨b11, 0, none⟩)]⟩], Ent.blk b1 [.int .i64 0, .int .i64 0, .slice none 0 0, .slice none 0 0], Ent.gifc 2, Ent.gifc 3] _ := hS.sel [0, 1, 2, 3, 5, 6, 7, 8] rfl
   refine w_seq ?_
   obtain ⟨z113, hz, hm⟩ := bindE hm
   refine w_cut (fun a' w' => Fr 66 [(2, [], .pointer (some ⟨b1, 0, none⟩)), (4, [], .pointer (some ⟨b6, 0, none⟩)), (5, [], .pointer (some ⟨b11, 0, none⟩)), (7, [], .pointer (some ⟨b25, 0, none⟩)), (8, [], .func (.func 55) ⟨[]⟩ ⟨[.pointer (some ⟨b18, 0, none⟩)]⟩), (55, [], .bool z113.1)] a' ∧ SH M X w [Ent.blk b18 [.func (.func 50) ⟨[]⟩ ⟨[.pointer (some ⟨b11, 0, none⟩)]⟩], Ent.blk b11 [.string ⟨⟨z113.2⟩⟩], Ent.blk b6 [.int .i64 y34.1, .int .i64 y69.1, .slice g107.a y106.2.2.length g107.c, .slice none 0 0], Ent.own 9 tS y106.2.2 g107, Ent.blk b25 [.func (.func 52) ⟨[]⟩ ⟨[.pointer (some ⟨b11, 0, none⟩)]⟩], Ent.blk b1 [.int .i64 0, .int .i64 0, .slice none 0 0, .slice none 0 0], Ent.gifc 2, Ent.gifc 3] w') ?_ ?_
   ·replace hm := hz
    refine wl_start ?_
    obtain ⟨x114, hx114, hm⟩ := letE hm
    refine wl_batch 0 3 [] [2, 4, 5, 6, 7, 8, 51] [(2, [], .pointer (some ⟨b1, 0, none⟩)), (4, [], .pointer (some ⟨b6, 0, none⟩)), (5, [], .pointer (some ⟨b11, 0, none⟩)), (6, [], .pointer (some ⟨b18, 0, none⟩)), (7, [], .pointer (some ⟨b25, 0, none⟩)), (8, [], .func (.func 55) ⟨[]⟩ ⟨[.pointer (some ⟨b18, 0, none⟩)]⟩), (51, [], .bool x114)] [] H112 (by decide) (by subst hx114; kernel_rfl) trivial fun _ wd115 H116 hb => ?_
    clear H112
    replace hS := hS.below hb
    clear hb
    cases x114
    case true =>
     replace hm := bT rfl hm
     refine m_skipG 51 [52, 2, 4, 5, 7, 8, 51] [(52, [], undef), (2, [], .pointer (some ⟨b1, 0, none⟩)), (4, [], .pointer (some ⟨b6, 0, none⟩)), (5, [], .pointer (some ⟨b11, 0, none⟩)), (7, [], .pointer (some ⟨b25, 0, none⟩)), (8, [], .func (.func 55) ⟨[]⟩ ⟨[.pointer (some ⟨b18, 0, none⟩)]⟩), (51, [], .bool true)] H116 rfl rfl rfl rfl rfl rfl fun _ H117 => ?_
     clear H116
     refine m_skipG 51 [53, 2, 4, 5, 7, 8, 51] [(53, [], undef), (2, [], .pointer (some ⟨b1, 0, none⟩)), (4, [], .pointer (some ⟨b6, 0, none⟩)), (5, [], .pointer (some ⟨b11, 0, none⟩)), (7, [], .pointer (some ⟨b25, 0, none⟩)), (8, [], .func (.func 55) ⟨[]⟩ ⟨[.pointer (some ⟨b18, 0, none⟩)]⟩), (51, [], .bool true)] H117 rfl rfl rfl rfl rfl rfl fun _ H118 => ?_
     clear H117
     refine m_skipG 51 [54, 2, 4, 5, 7, 8, 51] [(54, [], undef), (2, [], .pointer (some ⟨b1, 0, none⟩)), (4, [], .pointer (some ⟨b6, 0, none⟩)), (5, [], .pointer (some ⟨b11, 0, none⟩)), (7, [], .pointer (some ⟨b25, 0, none⟩)), (8, [], .func (.func 55) ⟨[]⟩ ⟨[.pointer (some ⟨b18, 0, none⟩)]⟩), (51, [], .bool true)] H118 rfl rfl rfl rfl rfl rfl fun _ H119 => ?_
     clear H118
     refine wl_batch 6 7 [] [2, 4, 5, 7, 8, 55] [(2, [], .pointer (some ⟨b1, 0, none⟩)), (4, [], .pointer (some ⟨b6, 0, none⟩)), (5, [], .pointer (some ⟨b11, 0, none⟩)), (7, [], .pointer (some ⟨b25, 0, none⟩)), (8, [], .func (.func 55) ⟨[]⟩ ⟨[.pointer (some ⟨b18, 0, none⟩)]⟩), (55, [], .bool true)] [] H119 (by decide) (by kernel_rfl) trivial fun _ wd120 H121 hb => ?_
     clear H119
     replace hS := hS.below hb
     clear hb
     refine wl_end rfl ?_
     obtain rfl := someE hm
     exact ⟨FrG.keep (ks := [2, 4, 5, 7, 8, 55]) H121 (by kernel_rfl), hS⟩
    replace hm := bF rfl hm
    refine wl_batchM 3 4 [(.func (.func 50) ⟨[]⟩ ⟨[.pointer (some ⟨b11, 0, none⟩)]⟩)] [(2, 0), (4, 0), (5, 0), (7, 0), (8, 0), (51, 0), (52, 1)] [(2, [], .pointer (some ⟨b1, 0, none⟩)), (4, [], .pointer (some ⟨b6, 0, none⟩)), (5, [], .pointer (some ⟨b11, 0, none⟩)), (7, [], .pointer (some ⟨b25, 0, none⟩)), (8, [], .func (.func 55) ⟨[]⟩ ⟨[.pointer (some ⟨b18, 0, none⟩)]⟩), (51, [], .bool false), (52, [], .func (.func 50) ⟨[]⟩ ⟨[.pointer (some ⟨b11, 0, none⟩)]⟩)] [fun wz => (false = false ∧ True → V.at1 ⟨b18, 0, none⟩ (.func (.func 50) ⟨[]⟩ ⟨[.pointer (some ⟨b11, 0, none⟩)]⟩) wz)] H116 (by decide) (by kernel_rfl) ⟨fun hg => (hS.bk 0 rfl).at1 rfl, trivial⟩ fun _ wd122 H123 hb => ?_
    clear H116
    replace hS := hS.below hb
    clear hb
    obtain ⟨y124, hy124, hm⟩ := bindE hm
    have hd := hS.hand [1] [0, 2, 3, 4, 5, 6, 7] rfl rfl
    refine m_stpG 51 [53, 2, 4, 5, 7, 8, 51] [(2, [], .pointer (some ⟨b1, 0, none⟩)), (4, [], .pointer (some ⟨b6, 0, none⟩)), (5, [], .pointer (some ⟨b11, 0, none⟩)), (7, [], .pointer (some ⟨b25, 0, none⟩)), (8, [], .func (.func 55) ⟨[]⟩ ⟨[.pointer (some ⟨b18, 0, none⟩)]⟩), (51, [], .bool false)] H123 rfl rfl rfl rfl (o_callx H123 rfl rfl (answer_read_1_ok (b_u0 := b11) _ _ _ hy124 _ _ hd)) (fun _ => rfl) fun _ wd125 v H126 hq => ?_
    clear H123 hd
    obtain ⟨rfl, hq⟩ := hq
    replace hS : SH M X w [Ent.blk b11 [.string ⟨⟨y124.2⟩⟩], Ent.blk b18 [.func (.func 50) ⟨[]⟩ ⟨[.pointer (some ⟨b11, 0, none⟩)]⟩], Ent.blk b6 [.int .i64 y34.1, .int .i64 y69.1, .slice g107.a y106.2.2.length g107.c, .slice none 0 0], Ent.own 9 tS y106.2.2 g107, Ent.blk b25 [.func (.func 52) ⟨[]⟩ ⟨[.pointer (some ⟨b11, 0, none⟩)]⟩], Ent.blk b1 [.int .i64 0, .int .i64 0, .slice none 0 0, .slice none 0 0], Ent.gifc 2, Ent.gifc 3] _ := hS.join [1] [0, 2, 3, 4, 5, 6, 7] rfl rfl hq
    clear hq
    refine wl_batch 5 7 [] [2, 4, 5, 7, 8, 55] [(2, [], .pointer (some ⟨b1, 0, none⟩)), (4, [], .pointer (some ⟨b6, 0, none⟩)), (5, [], .pointer (some ⟨b11, 0, none⟩)), (7, [], .pointer (some ⟨b25, 0, none⟩)), (8, [], .func (.func 55) ⟨[]⟩ ⟨[.pointer (some ⟨b18, 0, none⟩)]⟩), (55, [], .bool (!y124.1))] [] H126 (by decide) (by kernel_rfl) trivial fun _ wd127 H128 hb => ?_
    clear H126
    replace hS := hS.below hb
    clear hb
    refine wl_end rfl ?_
    obtain rfl := someE hm
    replace hS : SH M X w [Ent.blk b18 [.func (.func 50) ⟨[]⟩ ⟨[.pointer (some ⟨b11, 0, none⟩)]⟩], Ent.blk b11 [.string ⟨⟨y124.2⟩⟩], Ent.blk b6 [.int .i64 y34.1, .int .i64 y69.1, .slice g107.a y106.2.2.length g107.c, .slice none 0 0], Ent.own 9 tS y106.2.2 g107, Ent.blk b25 [.func (.func 52) ⟨[]⟩ ⟨[.pointer (some ⟨b11, 0, none⟩)]⟩], Ent.blk b1 [.int .i64 0, .int .i64 0, .slice none 0 0, .slice none 0 0], Ent.gifc 2, Ent.gifc 3] _ := hS.sel [1, 0, 2, 3, 4, 5, 6, 7] rfl
    exact ⟨FrG.keep (ks := [2, 4, 5, 7, 8, 55]) H128 (by kernel_rfl), hS⟩
   ·rintro _ wd156 ⟨H, hS⟩
    refine w_if H rfl (fun hc => ?c155) (fun hc => ?_)
    case c155 =>
     replace hm := bT hc hm
     refine w_seq ?_
     refine wl_start ?_
     refine wl_batch 0 1 [(.agg ⟨[.int .i64 y34.1, .int .i64 y69.1, .slice g107.a y106.2.2.length g107.c, .slice none 0 0]⟩)] [2, 56] [(2, [], .pointer (some ⟨b1, 0, none⟩)), (56, [], .agg ⟨[.int .i64 y34.1, .int .i64 y69.1, .slice g107.a y106.2.2.length g107.c, .slice none 0 0]⟩)] [fun wz => V.atN b6 0 [.int .i64 y34.1, .int .i64 y69.1, .slice g107.a y106.2.2.length g107.c, .slice none 0 0] 0 wz] H (by decide) (by kernel_rfl) ⟨((hS.bk 2 rfl).atD rfl), trivial⟩ fun _ wd129 H130 hb => ?_
     clear H
     replace hS := hS.below hb
     clear hb
     have hd := hS.hand [5] [0, 1, 2, 3, 4, 6, 7] rfl rfl
     refine m_stp0 [2] [(2, [], .pointer (some ⟨b1, 0, none⟩))] H130 rfl rfl rfl (o_store [.int .i64 y34.1, .int .i64 y69.1, .slice g107.a y106.2.2.length g107.c, .slice none 0 0] H130 hd rfl rfl (by kernel_rfl) rfl rfl rfl) rfl fun _ wd131 H132 hq => ?_
     clear H130 hd
     obtain ⟨_, hq⟩ := hq
     replace hS : SH M X w [Ent.blk b1 [.int .i64 y34.1, .int .i64 y69.1, .slice g107.a y106.2.2.length g107.c, .slice none 0 0], Ent.blk b18 [.func (.func 50) ⟨[]⟩ ⟨[.pointer (some ⟨b11, 0, none⟩)]⟩], Ent.blk b11 [.string ⟨⟨z113.2⟩⟩], Ent.blk b6 [.int .i64 y34.1, .int .i64 y69.1, .slice g107.a y106.2.2.length g107.c, .slice none 0 0], Ent.own 9 tS y106.2.2 g107, Ent.blk b25 [.func (.func 52) ⟨[]⟩ ⟨[.pointer (some ⟨b11, 0, none⟩)]⟩], Ent.gifc 2, Ent.gifc 3] _ := hS.join [5] [0, 1, 2, 3, 4, 6, 7] rfl rfl hq
     clear hq
     refine wl_batch 2 3 [] [2, 3] [(2, [], .pointer (some ⟨b1, 0, none⟩)), (3, [], .bool false)] [] H132 (by decide) (by kernel_rfl) trivial fun _ wd133 H134 hb => ?_
     clear H132
     replace hS := hS.below hb
     clear hb
     refine wl_end rfl ?_
     replace hS : SH M X w [Ent.blk b1 [.int .i64 y34.1, .int .i64 y69.1, .slice g107.a y106.2.2.length g107.c, .slice none 0 0], Ent.own 9 tS y106.2.2 g107, Ent.gifc 2, Ent.gifc 3] _ := hS.sel [0, 4, 6, 7] rfl
     refine w_ret ?_
     obtain rfl := someE hm
     replace hS : SH M X w [Ent.im tS y106.2.2 g107, Ent.blk b1 [.int .i64 y34.1, .int .i64 y69.1, .slice g107.a y106.2.2.length g107.c, .slice none 0 0], Ent.gifc 2, Ent.gifc 3] _ := SH.frz1 (hS.sel [1, 0, 2, 3] rfl)
     replace hS : SH M X w [Ent.own 3 (tI .i64) ([] : List Int) (.nil), Ent.im tS y106.2.2 g107, Ent.blk b1 [.int .i64 y34.1, .int .i64 y69.1, .slice g107.a y106.2.2.length g107.c, .slice none 0 0], Ent.gifc 2, Ent.gifc 3] _ := hS.addNil 3 (tI .i64)
     exact retR2 H134 rfl (oneRes_agg rfl (hS.bk 2 rfl) Tryd.underlying26 rfl (by kernel_rfl)) rfl ⟨_, rfl, g107, Gh.nil, rfl, (hS.sel [1, 0] rfl)⟩
    replace hm := bF hc hm
    refine w_skip ?_
    refine w_seq ?_
    refine wl_start ?_
    refine wl_batch 0 2 [] [2, 4, 5, 57, 58] [(2, [], .pointer (some ⟨b1, 0, none⟩)), (4, [], .pointer (some ⟨b6, 0, none⟩)), (5, [], .pointer (some ⟨b11, 0, none⟩)), (57, [], .func (.func 55) ⟨[]⟩ ⟨[.pointer (some ⟨b18, 0, none⟩)]⟩), (58, [], .func (.func 58) ⟨[]⟩ ⟨[.pointer (some ⟨b25, 0, none⟩), .pointer (some ⟨b6, 0, none⟩)]⟩)] [] H (by decide) (by kernel_rfl) trivial fun _ wd136 H137 hb => ?_
    clear H
    replace hS := hS.below hb
    clear hb
    replace hS : SH M X w [Ent.im tS y106.2.2 g107, Ent.blk b18 [.func (.func 50) ⟨[]⟩ ⟨[.pointer (some ⟨b11, 0, none⟩)]⟩], Ent.blk b11 [.string ⟨⟨z113.2⟩⟩], Ent.blk b6 [.int .i64 y34.1, .int .i64 y69.1, .slice g107.a y106.2.2.length g107.c, .slice none 0 0], Ent.blk b25 [.func (.func 52) ⟨[]⟩ ⟨[.pointer (some ⟨b11, 0, none⟩)]⟩], Ent.blk b1 [.int .i64 0, .int .i64 0, .slice none 0 0, .slice none 0 0], Ent.gifc 2, Ent.gifc 3] _ := SH.frz1 (hS.sel [3, 0, 1, 2, 4, 5, 6, 7] rfl)
    replace hS : SH M X w [Ent.own 3 (tI .i64) ([] : List Int) (.nil), Ent.im tS y106.2.2 g107, Ent.blk b18 [.func (.func 50) ⟨[]⟩ ⟨[.pointer (some ⟨b11, 0, none⟩)]⟩], Ent.blk b11 [.string ⟨⟨z113.2⟩⟩], Ent.blk b6 [.int .i64 y34.1, .int .i64 y69.1, .slice g107.a y106.2.2.length g107.c, .slice none 0 0], Ent.blk b25 [.func (.func 52) ⟨[]⟩ ⟨[.pointer (some ⟨b11, 0, none⟩)]⟩], Ent.blk b1 [.int .i64 0, .int .i64 0, .slice none 0 0, .slice none 0 0], Ent.gifc 2, Ent.gifc 3] _ := hS.addNil 3 (tI .i64)
    obtain ⟨y139, hy139, hm⟩ := bindE hm
    have hd := hS.hand [5, 3, 4, 1, 0, 2, 7, 8] [1, 6, 7, 8] rfl rfl
    refine m_stp [59, 2, 4, 5] [(2, [], .pointer (some ⟨b1, 0, none⟩)), (4, [], .pointer (some ⟨b6, 0, none⟩)), (5, [], .pointer (some ⟨b11, 0, none⟩))] H137 rfl rfl rfl rfl (o_callx H137 rfl rfl (answer_read_3_2_ok (b_one_c0 := b25) (b_one_c0_c0 := b11) (b_one_c1 := b6) (g_one_c1_Texts := g107) (g_one_c1_Numbers := Gh.nil) (b_u0 := b18) m _ _ _ _ _ _ hy139 _ _ hd)) (fun _ => rfl) fun _ wd142 v H143 hq => ?_
    clear H137 hd
    obtain ⟨g140, rfl, hq⟩ := hq
    replace hS : SH M X w [Ent.blk b25 [.func (.func 52) ⟨[]⟩ ⟨[.pointer (some ⟨b11, 0, none⟩)]⟩], Ent.blk b11 [.string ⟨⟨y139.2.1⟩⟩], Ent.blk b6 [.int .i64 y34.1, .int .i64 y69.1, .slice g107.a y106.2.2.length g107.c, .slice g140.a y139.2.2.length g140.c], Ent.own 3 (tI .i64) y139.2.2 g140, Ent.blk b18 [.func (.func 50) ⟨[]⟩ ⟨[.pointer (some ⟨b11, 0, none⟩)]⟩], Ent.im tS y106.2.2 g107, Ent.blk b1 [.int .i64 0, .int .i64 0, .slice none 0 0, .slice none 0 0], Ent.gifc 2, Ent.gifc 3] _ := hS.join [5, 3, 4, 1, 0, 2, 7, 8] [1, 6, 7, 8] rfl rfl hq
    clear hq
    refine wl_batch 3 4 [] [2, 4, 5, 12] [(2, [], .pointer (some ⟨b1, 0, none⟩)), (4, [], .pointer (some ⟨b6, 0, none⟩)), (5, [], .pointer (some ⟨b11, 0, none⟩)), (12, [], .bool y139.1)] [] H143 (by decide) (by kernel_rfl) trivial fun _ wd144 H145 hb => ?_
    clear H143
    replace hS := hS.below hb
    clear hb
    refine wl_end rfl ?_
    replace hS : SH M X w [Ent.blk b11 [.string ⟨⟨y139.2.1⟩⟩], Ent.blk b6 [.int .i64 y34.1, .int .i64 y69.1, .slice g107.a y106.2.2.length g107.c, .slice g140.a y139.2.2.length g140.c], Ent.own 3 (tI .i64) y139.2.2 g140, Ent.im tS y106.2.2 g107, Ent.blk b1 [.int .i64 0, .int .i64 0, .slice none 0 0, .slice none 0 0], Ent.gifc 2, Ent.gifc 3] _ := hS.sel [1, 2, 3, 5, 6, 7, 8] rfl
    generalize hz_z146 : y139.1 = z146 at H145 hm
    cases z146
    case false =>
     replace hm := bF rfl hm
     refine s_drawG (base := [(2, [], .pointer (some ⟨b1, 0, none⟩)), (4, [], .pointer (some ⟨b6, 0, none⟩)), (5, [], .pointer (some ⟨b11, 0, none⟩)), (12, [], .bool false)]) (L := [Ent.blk b11 [.string ⟨⟨y139.2.1⟩⟩], Ent.blk b6 [.int .i64 y34.1, .int .i64 y69.1, .slice g107.a y106.2.2.length g107.c, .slice g140.a y139.2.2.length g140.c], Ent.own 3 (tI .i64) y139.2.2 g140, Ent.im tS y106.2.2 g107, Ent.blk b1 [.int .i64 0, .int .i64 0, .slice none 0 0, .slice none 0 0], Ent.gifc 2, Ent.gifc 3]) 8 7 (fun yg151 => [.agg ⟨[.int .i64 y34.1, .int .i64 y69.1, .slice g107.a y106.2.2.length g107.c, .slice g140.a y139.2.2.length g140.c]⟩, .bool false, .bool false, undef, undef, .bool false, undef, .bool false]) (fun yg151 => [[], [], [], [], [], [], [Ent.blk b1 [.int .i64 y34.1, .int .i64 y69.1, .slice g107.a y106.2.2.length g107.c, .slice g140.a y139.2.2.length g140.c]], []]) [[9, 10, 11], [], [], [], [], [], [10, 11, 12], []] [[], [], [], [], [], [], [12], []] [[0], [1], [1, 2], [1, 2, 3], [1, 2, 4], [1, 2, 4, 5], [0, 6], [1, 2, 4, 5, 7]] [] (FrG.keep (ks := [2, 4, 5, 12]) H145 (by kernel_rfl)) (fun _ _ h => by cases h) (by kernel_rfl) hS (by kernel_rfl) rfl rfl (by kernel_rfl) (by kernel_rfl) (by kernel_rfl) ?hloc_yg151 ?hstep_yg151 fun _ wd152 yg151 H153 hv hS => ?hK_yg151
     case hloc_yg151 => exact ⟨(fun _ _ _ _ => ⟨rfl, rfl⟩), (fun _ _ _ _ => ⟨rfl, rfl⟩), (fun _ _ _ _ => ⟨rfl, rfl⟩), (fun _ _ _ _ => ⟨rfl, rfl⟩), (fun _ _ _ _ => ⟨rfl, rfl⟩), (fun _ _ _ _ => ⟨rfl, rfl⟩), (fun _ _ _ _ => ⟨rfl, rfl⟩), (fun _ _ _ _ => ⟨rfl, rfl⟩), trivial⟩
     case hstep_yg151 =>
      refine ⟨Or.inr ⟨trivial, ?_⟩, Or.inr ⟨trivial, ?_⟩, Or.inr ⟨trivial, ?_⟩, Or.inl ⟨by kernel_rfl, Or.inl fun _ => rfl, fun _ => ⟨rfl, rfl⟩, rfl⟩, Or.inl ⟨by kernel_rfl, Or.inl fun _ => rfl, fun _ => ⟨rfl, rfl⟩, rfl⟩, Or.inr ⟨trivial, ?_⟩, Or.inr ⟨trivial, ?_⟩, Or.inr ⟨trivial, ?_⟩, trivial⟩
      ·intro o ho a w yg151 M Hb hv hO hS
       obtain rfl := Option.some.inj ho
       exact Stp.mono (o_evs [(.agg ⟨[.int .i64 y34.1, .int .i64 y69.1, .slice g107.a y106.2.2.length g107.c, .slice g140.a y139.2.2.length g140.c]⟩)] (.agg ⟨[.int .i64 y34.1, .int .i64 y69.1, .slice g107.a y106.2.2.length g107.c, .slice g140.a y139.2.2.length g140.c]⟩) (some (fun wz => V.atN b6 0 [.int .i64 y34.1, .int .i64 y69.1, .slice g107.a y106.2.2.length g107.c, .slice g140.a y139.2.2.length g140.c] 0 wz)) [] Hb rfl (by kernel_rfl) (fun q e => by cases e; exact ((hS.bk 0 rfl).atD rfl))) fun _ _ hq => ⟨gL [], fun _ _ => hq.1, (hS.below hq.2.below).sel [0, 1, 2] rfl⟩
      ·intro o ho a w yg151 M Hb hv hO hS
       obtain rfl := Option.some.inj ho
       exact Stp.mono (o_evs [] (.bool false) none [] Hb rfl (by kernel_rfl) (fun q e => by cases e)) fun _ _ hq => ⟨gL [], fun _ _ => hq.1, (hS.below hq.2.below).sel [] rfl⟩
      ·intro o ho a w yg151 M Hb hv hO hS
       obtain rfl := Option.some.inj ho
       exact Stp.mono (o_evs [] (.bool false) none [] ((Hb).add (hv 1 (by decide) (by decide) 61 rfl)) rfl (by kernel_rfl) (fun q e => by cases e)) fun _ _ hq => ⟨gL [], fun _ _ => hq.1, (hS.below hq.2.below).sel [] rfl⟩
      ·intro o ho a w yg151 M Hb hv hO hS
       obtain rfl := Option.some.inj ho
       exact Stp.mono (o_evs [] (.bool false) none [] (((Hb).add (hv 2 (by decide) (by decide) 62 rfl)).add (hv 4 (by decide) (by decide) 64 rfl)) rfl (by kernel_rfl) (fun q e => by cases e)) fun _ _ hq => ⟨gL [], fun _ _ => hq.1, (hS.below hq.2.below).sel [] rfl⟩
      ·intro o ho a w yg151 M Hb hv hO hS0
       obtain rfl := Option.some.inj ho
       have H : Fr 66 ([(60, [], .agg ⟨[.int .i64 y34.1, .int .i64 y69.1, .slice g107.a y106.2.2.length g107.c, .slice g140.a y139.2.2.length g140.c]⟩)] ++ [(2, [], .pointer (some ⟨b1, 0, none⟩)), (4, [], .pointer (some ⟨b6, 0, none⟩)), (5, [], .pointer (some ⟨b11, 0, none⟩)), (12, [], .bool false)]) _ := (Hb).add (hv 0 (by decide) (by decide) 60 rfl)
       obtain ⟨X, hX⟩ : ∃ X, X = fpl [Ent.own 3 (tI .i64) y139.2.2 g140, Ent.im tS y106.2.2 g107, Ent.blk b1 [.int .i64 0, .int .i64 0, .slice none 0 0, .slice none 0 0]] := ⟨_, rfl⟩
       have hS : SH M X w [Ent.own 3 (tI .i64) y139.2.2 g140, Ent.im tS y106.2.2 g107, Ent.blk b1 [.int .i64 0, .int .i64 0, .slice none 0 0, .slice none 0 0]] w := by rw [hX]; exact hS0
       have hd := hS.hand [2] [0, 1] rfl rfl
       refine Stp.mono (o_store [.int .i64 y34.1, .int .i64 y69.1, .slice g107.a y106.2.2.length g107.c, .slice g140.a y139.2.2.length g140.c] H hd rfl rfl (by kernel_rfl) rfl rfl rfl) ?_
       rintro v w2 hq
       replace hS : SH M X w [Ent.blk b1 [.int .i64 y34.1, .int .i64 y69.1, .slice g107.a y106.2.2.length g107.c, .slice g140.a y139.2.2.length g140.c], Ent.own 3 (tI .i64) y139.2.2 g140, Ent.im tS y106.2.2 g107] _ := hS.join [2] [0, 1] rfl rfl hq
       clear hq
       rw [hX] at hS
       exact ⟨gL [], (fun _ h => by cases h), hS.sel [0, 1, 2] rfl⟩
      ·intro o ho a w yg151 M Hb hv hO hS
       obtain rfl := Option.some.inj ho
       exact Stp.mono (o_evs [] (.bool false) none [] ((Hb).add (hv 5 (by decide) (by decide) 65 rfl)) rfl (by kernel_rfl) (fun q e => by cases e)) fun _ _ hq => ⟨gL [], fun _ _ => hq.1, (hS.below hq.2.below).sel [] rfl⟩
     have H154 : Fr 66 [(3, [], .bool false), (2, [], .pointer (some ⟨b1, 0, none⟩))] _ := (FrG.add (FrG.keep (ks := [2]) H153 (by kernel_rfl)) (hv 7 3 rfl))
     replace hS : SH M X w [Ent.blk b1 [.int .i64 y34.1, .int .i64 y69.1, .slice g107.a y106.2.2.length g107.c, .slice g140.a y139.2.2.length g140.c], Ent.blk b11 [.string ⟨⟨y139.2.1⟩⟩], Ent.blk b6 [.int .i64 y34.1, .int .i64 y69.1, .slice g107.a y106.2.2.length g107.c, .slice g140.a y139.2.2.length g140.c], Ent.own 3 (tI .i64) y139.2.2 g140, Ent.im tS y106.2.2 g107, Ent.gifc 2, Ent.gifc 3] _ := hS
     clear hv H153
     replace hS : SH M X w [Ent.blk b1 [.int .i64 y34.1, .int .i64 y69.1, .slice g107.a y106.2.2.length g107.c, .slice g140.a y139.2.2.length g140.c], Ent.own 3 (tI .i64) y139.2.2 g140, Ent.im tS y106.2.2 g107, Ent.gifc 2, Ent.gifc 3] _ := hS.sel [0, 3, 4, 5, 6] rfl
     refine w_ret ?_
     obtain rfl := someE hm
     exact retR2 H154 rfl (oneRes_agg rfl (hS.bk 0 rfl) Tryd.underlying26 rfl (by kernel_rfl)) rfl ⟨_, rfl, g107, g140, rfl, (hS.sel [2, 1] rfl)⟩
    replace hm := bT rfl hm
    refine s_drawS (base := [(2, [], .pointer (some ⟨b1, 0, none⟩)), (4, [], .pointer (some ⟨b6, 0, none⟩)), (5, [], .pointer (some ⟨b11, 0, none⟩)), (12, [], .bool true)]) (L := [Ent.blk b11 [.string ⟨⟨y139.2.1⟩⟩], Ent.blk b6 [.int .i64 y34.1, .int .i64 y69.1, .slice g107.a y106.2.2.length g107.c, .slice g140.a y139.2.2.length g140.c], Ent.own 3 (tI .i64) y139.2.2 g140, Ent.im tS y106.2.2 g107, Ent.blk b1 [.int .i64 0, .int .i64 0, .slice none 0 0, .slice none 0 0], Ent.gifc 2, Ent.gifc 3]) 8 7 (fun yg147 => [.agg ⟨[.int .i64 y34.1, .int .i64 y69.1, .slice g107.a y106.2.2.length g107.c, .slice g140.a y139.2.2.length g140.c]⟩, .bool true, .bool true, .string ⟨⟨y139.2.1⟩⟩, .bool (y139.2.1 == []), .bool (y139.2.1 == []), undef, .bool (y139.2.1 == [])]) (fun yg147 => [[], [], [], [], [], [], [Ent.blk b1 [.int .i64 y34.1, .int .i64 y69.1, .slice g107.a y106.2.2.length g107.c, .slice g140.a y139.2.2.length g140.c]], []]) [[9, 10, 11], [], [], [8], [], [], [10, 11, 12], []] [[], [], [], [], [], [], [12], []] [[0], [1], [1, 2], [1, 2, 3], [1, 2, 3, 4], [1, 2, 3, 4, 5], [0, 6], [1, 2, 3, 4, 5, 7]] [] (FrG.keep (ks := [2, 4, 5, 12]) H145 (by kernel_rfl)) (fun _ _ h => by cases h) (by kernel_rfl) hS (by kernel_rfl) rfl rfl (by kernel_rfl) (by kernel_rfl) (by kernel_rfl) ⟨trivial, trivial, trivial, ⟨by kernel_rfl, fun _ => rfl⟩, ⟨by kernel_rfl, fun _ => rfl⟩, trivial, trivial, trivial, trivial⟩ ?hloc_yg147 ?hstep_yg147 fun _ wd148 yg147 H149 hv hS => ?hK_yg147
    case hloc_yg147 => exact ⟨(fun _ _ _ _ => ⟨rfl, rfl⟩), (fun _ _ _ _ => ⟨rfl, rfl⟩), (fun _ _ _ _ => ⟨rfl, rfl⟩), (fun _ _ _ _ => ⟨rfl, rfl⟩), (fun _ _ _ _ => ⟨rfl, rfl⟩), (fun _ _ _ _ => ⟨rfl, rfl⟩), (fun _ _ _ _ => ⟨rfl, rfl⟩), (fun _ _ _ _ => ⟨rfl, rfl⟩), trivial⟩
    case hstep_yg147 =>
     refine ⟨?_, ?_, ?_, ?_, ?_, ?_, ?_, ?_, trivial⟩
     ·intro o ho a w yg147 M Hb hv hO hS
      obtain rfl := Option.some.inj ho
      exact Stp.mono (o_evs [(.agg ⟨[.int .i64 y34.1, .int .i64 y69.1, .slice g107.a y106.2.2.length g107.c, .slice g140.a y139.2.2.length g140.c]⟩)] (.agg ⟨[.int .i64 y34.1, .int .i64 y69.1, .slice g107.a y106.2.2.length g107.c, .slice g140.a y139.2.2.length g140.c]⟩) (some (fun wz => V.atN b6 0 [.int .i64 y34.1, .int .i64 y69.1, .slice g107.a y106.2.2.length g107.c, .slice g140.a y139.2.2.length g140.c] 0 wz)) [] Hb rfl (by kernel_rfl) (fun q e => by cases e; exact ((hS.bk 0 rfl).atD rfl))) fun _ _ hq => ⟨gL [], fun _ _ => hq.1, (hS.below hq.2.below).sel [0, 1, 2] rfl⟩
     ·intro o ho a w yg147 M Hb hv hO hS
      obtain rfl := Option.some.inj ho
      exact Stp.mono (o_evs [] (.bool true) none [] Hb rfl (by kernel_rfl) (fun q e => by cases e)) fun _ _ hq => ⟨gL [], fun _ _ => hq.1, (hS.below hq.2.below).sel [] rfl⟩
     ·intro o ho a w yg147 M Hb hv hO hS
      obtain rfl := Option.some.inj ho
      exact Stp.mono (o_evs [] (.bool true) none [] ((Hb).add (hv 1 (by decide) (by decide) 61 rfl)) rfl (by kernel_rfl) (fun q e => by cases e)) fun _ _ hq => ⟨gL [], fun _ _ => hq.1, (hS.below hq.2.below).sel [] rfl⟩
     ·intro o ho a w yg147 M Hb hv hO hS
      obtain rfl := Option.some.inj ho
      exact Stp.mono (o_evs [(.string ⟨⟨y139.2.1⟩⟩)] (.string ⟨⟨y139.2.1⟩⟩) (some (fun wz => V.at1 ⟨b11, 0, none⟩ (.string ⟨⟨y139.2.1⟩⟩) wz)) [] Hb rfl (by kernel_rfl) (fun q e => by cases e; exact ((hS.bk 0 rfl).at1 rfl))) fun _ _ hq => ⟨gL [], fun _ _ => hq.1, (hS.below hq.2.below).sel [0] rfl⟩
     ·intro o ho a w yg147 M Hb hv hO hS
      obtain rfl := Option.some.inj ho
      exact Stp.mono (o_evs [] (.bool (y139.2.1 == [])) none [] ((Hb).add (hv 3 (by decide) (by decide) 63 rfl)) rfl (by kernel_rfl) (fun q e => by cases e)) fun _ _ hq => ⟨gL [], fun _ _ => hq.1, (hS.below hq.2.below).sel [] rfl⟩
     ·intro o ho a w yg147 M Hb hv hO hS
      obtain rfl := Option.some.inj ho
      exact Stp.mono (o_evs [] (.bool (y139.2.1 == [])) none [] (((Hb).add (hv 2 (by decide) (by decide) 62 rfl)).add (hv 4 (by decide) (by decide) 64 rfl)) rfl (by kernel_rfl) (fun q e => by cases e)) fun _ _ hq => ⟨gL [], fun _ _ => hq.1, (hS.below hq.2.below).sel [] rfl⟩
     ·intro o ho a w yg147 M Hb hv hO hS0
      obtain rfl := Option.some.inj ho
      have H : Fr 66 ([(60, [], .agg ⟨[.int .i64 y34.1, .int .i64 y69.1, .slice g107.a y106.2.2.length g107.c, .slice g140.a y139.2.2.length g140.c]⟩)] ++ [(2, [], .pointer (some ⟨b1, 0, none⟩)), (4, [], .pointer (some ⟨b6, 0, none⟩)), (5, [], .pointer (some ⟨b11, 0, none⟩)), (12, [], .bool true)]) _ := (Hb).add (hv 0 (by decide) (by decide) 60 rfl)
      obtain ⟨X, hX⟩ : ∃ X, X = fpl [Ent.own 3 (tI .i64) y139.2.2 g140, Ent.im tS y106.2.2 g107, Ent.blk b1 [.int .i64 0, .int .i64 0, .slice none 0 0, .slice none 0 0]] := ⟨_, rfl⟩
      have hS : SH M X w [Ent.own 3 (tI .i64) y139.2.2 g140, Ent.im tS y106.2.2 g107, Ent.blk b1 [.int .i64 0, .int .i64 0, .slice none 0 0, .slice none 0 0]] w := by rw [hX]; exact hS0
      have hd := hS.hand [2] [0, 1] rfl rfl
      refine Stp.mono (o_store [.int .i64 y34.1, .int .i64 y69.1, .slice g107.a y106.2.2.length g107.c, .slice g140.a y139.2.2.length g140.c] H hd rfl rfl (by kernel_rfl) rfl rfl rfl) ?_
      rintro v w2 hq
      replace hS : SH M X w [Ent.blk b1 [.int .i64 y34.1, .int .i64 y69.1, .slice g107.a y106.2.2.length g107.c, .slice g140.a y139.2.2.length g140.c], Ent.own 3 (tI .i64) y139.2.2 g140, Ent.im tS y106.2.2 g107] _ := hS.join [2] [0, 1] rfl rfl hq
      clear hq
      rw [hX] at hS
      exact ⟨gL [], (fun _ h => by cases h), hS.sel [0, 1, 2] rfl⟩
     ·intro o ho a w yg147 M Hb hv hO hS
      obtain rfl := Option.some.inj ho
      exact Stp.mono (o_evs [] (.bool (y139.2.1 == [])) none [] ((Hb).add (hv 5 (by decide) (by decide) 65 rfl)) rfl (by kernel_rfl) (fun q e => by cases e)) fun _ _ hq => ⟨gL [], fun _ _ => hq.1, (hS.below hq.2.below).sel [] rfl⟩
    have H150 : Fr 66 [(3, [], .bool (y139.2.1 == [])), (2, [], .pointer (some ⟨b1, 0, none⟩))] _ := (FrG.add (FrG.keep (ks := [2]) H149 (by kernel_rfl)) (hv 7 3 rfl))
    replace hS : SH M X w [Ent.blk b1 [.int .i64 y34.1, .int .i64 y69.1, .slice g107.a y106.2.2.length g107.c, .slice g140.a y139.2.2.length g140.c], Ent.blk b11 [.string ⟨⟨y139.2.1⟩⟩], Ent.blk b6 [.int .i64 y34.1, .int .i64 y69.1, .slice g107.a y106.2.2.length g107.c, .slice g140.a y139.2.2.length g140.c], Ent.own 3 (tI .i64) y139.2.2 g140, Ent.im tS y106.2.2 g107, Ent.gifc 2, Ent.gifc 3] _ := hS
    clear hv H149
    replace hS : SH M X w [Ent.blk b1 [.int .i64 y34.1, .int .i64 y69.1, .slice g107.a y106.2.2.length g107.c, .slice g140.a y139.2.2.length g140.c], Ent.own 3 (tI .i64) y139.2.2 g140, Ent.im tS y106.2.2 g107, Ent.gifc 2, Ent.gifc 3] _ := hS.sel [0, 3, 4, 5, 6] rfl
    refine w_ret ?_
    obtain rfl := someE hm
    exact retR2 H150 rfl (oneRes_agg rfl (hS.bk 0 rfl) Tryd.underlying26 rfl (by kernel_rfl)) rfl ⟨_, rfl, g107, g140, rfl, (hS.sel [2, 1] rfl)⟩
theorem answer_read_ok  (m : Nat) (s : Str) (r : TAnswer × Bool) (hm : answer_read m s = some r) (M : Av) (w : World) (hS : S0 M [Ent.gifc 2, Ent.gifc 3] w) : DoesX Tryd.prog 32 ⟨[.string ⟨⟨s⟩⟩]⟩ w (fun v w' => ∃ (g901 : Gh) (g903 : Gh), v = .tuple ⟨[.agg ⟨[.int .i64 r.1.Err, .int .i64 r.1.Num, .slice g901.a r.1.Texts.length g901.c, .slice g903.a r.1.Numbers.length g903.c]⟩, .bool r.2]⟩ ∧ SH M (fpl [Ent.gifc 2, Ent.gifc 3]) w [Ent.im tS r.1.Texts g901, Ent.own 3 (tI .i64) r.1.Numbers g903] w') := ⟨Tryd.call32 _, answer_read_w M m   s r hm w hS⟩

theorem answer_ReadLine_w  (M : Av) (m : Nat) (s : Str) (r : TAnswer × Int) (hm : answer_ReadLine m s = some r) (w : World) (hS : S0 M [Ent.gifc 2, Ent.gifc 3, Ent.tab 1 (Lib.pow10Tab.map fun z => Value.int .u64 z)] w) : Calls Tryd.prog 11 ⟨[.string ⟨⟨s⟩⟩]⟩ w (fun e w' => ∃ v, e = .returned v ∧ ∃ (g901 : Gh) (g903 : Gh), v = .tuple ⟨[.agg ⟨[.int .i64 r.1.Err, .int .i64 r.1.Num, .slice g901.a r.1.Texts.length g901.c, .slice g903.a r.1.Numbers.length g903.c]⟩, .int .i64 r.2]⟩ ∧ SH M (fpl [Ent.gifc 2, Ent.gifc 3, Ent.tab 1 (Lib.pow10Tab.map fun z => Value.int .u64 z)]) w [Ent.im tS r.1.Texts g901, Ent.own 3 (tI .i64) r.1.Numbers g903] w') := by
 rw [answer_ReadLine] at hm
 have hS0 : SH M (fpl [Ent.gifc 2, Ent.gifc 3, Ent.tab 1 (Lib.pow10Tab.map fun z => Value.int .u64 z)]) w [Ent.gifc 2, Ent.gifc 3, Ent.tab 1 (Lib.pow10Tab.map fun z => Value.int .u64 z)] w := hS
 generalize hX : fpl [Ent.gifc 2, Ent.gifc 3, Ent.tab 1 (Lib.pow10Tab.map fun z => Value.int .u64 z)] = X at hS0 ⊢
 clear hS hX
 have hS := hS0
 clear hS0
 refine calls_entryP Tryd.func11 rfl Tryd.ntmps11 rfl fun _ H => ?_
 refine w_seq ?_
 refine wl_start ?_
 have hd := hS.hand [] [0, 1, 2] rfl rfl
 refine m_stp [2, 0] [(0, [], .string ⟨⟨s⟩⟩)] H rfl rfl rfl rfl (o_alloc [.int .i64 0, .int .i64 0, .slice none 0 0, .slice none 0 0] (z := .agg ⟨[.int .i64 0, .int .i64 0, .slice none 0 0, .slice none 0 0]⟩) hd (by kernel_rfl) rfl) (fun _ => rfl) fun _ wd2 v H3 hq => ?_
 clear H hd
 obtain ⟨b1, rfl, hq⟩ := hq
 replace hS : SH M X w [Ent.blk b1 [.int .i64 0, .int .i64 0, .slice none 0 0, .slice none 0 0], Ent.gifc 2, Ent.gifc 3, Ent.tab 1 (Lib.pow10Tab.map fun z => Value.int .u64 z)] _ := hS.join [] [0, 1, 2] rfl rfl hq
 clear hq
 refine wl_batch 1 2 [] [0, 2] [(0, [], .string ⟨⟨s⟩⟩), (2, [], .pointer (some ⟨b1, 0, none⟩))] [] H3 (by decide) (by kernel_rfl) trivial fun _ wd4 H5 hb => ?_
 clear H3
 replace hS := hS.below hb
 clear hb
 refine wl_end rfl ?_
 refine w_seq ?_
 refine s_reg [] [0, 2, 10] [(0, [], .string ⟨⟨s⟩⟩), (2, [], .pointer (some ⟨b1, 0, none⟩)), (10, [], .bool (decide (90000 < (ln s))))] [] H5 (by kernel_rfl) trivial fun _ wd6 H7 hb => ?_
 clear H5
 replace hS := hS.below hb
 clear hb
 refine w_if H7 rfl (fun hc => ?c65) (fun hc => ?_)
 case c65 =>
  replace hm := bT hc hm
  refine w_seq ?_
  refine wl_start ?_
  refine wl_batch 0 1 [] [2, 11] [(2, [], .pointer (some ⟨b1, 0, none⟩)), (11, [], .agg ⟨[.int .i64 0, .int .i64 0, .slice none 0 0, .slice none 0 0]⟩)] [] H7 (by decide) (by kernel_rfl) trivial fun _ wd8 H9 hb => ?_
  clear H7
  replace hS := hS.below hb
  clear hb
  have hd := hS.hand [0] [1, 2, 3] rfl rfl
  refine m_stp0 [2] [(2, [], .pointer (some ⟨b1, 0, none⟩))] H9 rfl rfl rfl (o_store [.int .i64 0, .int .i64 0, .slice none 0 0, .slice none 0 0] H9 hd rfl rfl (by kernel_rfl) rfl rfl rfl) rfl fun _ wd10 H11 hq => ?_
  clear H9 hd
  obtain ⟨_, hq⟩ := hq
  replace hS : SH M X w [Ent.blk b1 [.int .i64 0, .int .i64 0, .slice none 0 0, .slice none 0 0], Ent.gifc 2, Ent.gifc 3, Ent.tab 1 (Lib.pow10Tab.map fun z => Value.int .u64 z)] _ := hS.join [0] [1, 2, 3] rfl rfl hq
  clear hq
  refine wl_batch 2 3 [] [2, 3] [(2, [], .pointer (some ⟨b1, 0, none⟩)), (3, [], .int .i64 28)] [] H11 (by decide) (by kernel_rfl) trivial fun _ wd12 H13 hb => ?_
  clear H11
  replace hS := hS.below hb
  clear hb
  refine wl_end rfl ?_
  refine w_ret ?_
  obtain rfl := someE hm
  replace hS : SH M X w [Ent.own 9 tS ([] : List Str) (.nil), Ent.blk b1 [.int .i64 0, .int .i64 0, .slice none 0 0, .slice none 0 0], Ent.gifc 2, Ent.gifc 3, Ent.tab 1 (Lib.pow10Tab.map fun z => Value.int .u64 z)] _ := hS.addNil 9 tS
  replace hS : SH M X w [Ent.im tS ([] : List Str) (.nil), Ent.blk b1 [.int .i64 0, .int .i64 0, .slice none 0 0, .slice none 0 0], Ent.gifc 2, Ent.gifc 3, Ent.tab 1 (Lib.pow10Tab.map fun z => Value.int .u64 z)] _ := SH.frz1 (hS.sel [0, 1, 2, 3, 4] rfl)
  replace hS : SH M X w [Ent.own 3 (tI .i64) ([] : List Int) (.nil), Ent.im tS ([] : List Str) (.nil), Ent.blk b1 [.int .i64 0, .int .i64 0, .slice none 0 0, .slice none 0 0], Ent.gifc 2, Ent.gifc 3, Ent.tab 1 (Lib.pow10Tab.map fun z => Value.int .u64 z)] _ := hS.addNil 3 (tI .i64)
  exact retR2 H13 rfl (oneRes_agg rfl (hS.bk 2 rfl) Tryd.underlying26 rfl (by kernel_rfl)) rfl ⟨_, rfl, Gh.nil, Gh.nil, rfl, (hS.sel [1, 0] rfl)⟩
 replace hm := bF hc hm
 refine w_skip ?_
 refine w_seq ?_
 refine wl_start ?_
 refine wl_batch 0 1 [] [0, 2, 13] [(0, [], .string ⟨⟨s⟩⟩), (2, [], .pointer (some ⟨b1, 0, none⟩)), (13, [], .string ⟨⟨s⟩⟩)] [] H7 (by decide) (by kernel_rfl) trivial fun _ wd16 H17 hb => ?_
 clear H7
 replace hS := hS.below hb
 clear hb
 obtain ⟨y18, hy18, hm⟩ := bindE hm
 have hd := hS.hand [1, 2] [0, 1, 2, 3] rfl rfl
 refine m_stp [14, 0, 2] [(0, [], .string ⟨⟨s⟩⟩), (2, [], .pointer (some ⟨b1, 0, none⟩))] H17 rfl rfl rfl rfl (o_callx H17 rfl rfl (answer_read_ok m _ _ hy18 _ _ hd)) (fun _ => rfl) fun _ wd23 v H24 hq => ?_
 clear H17 hd
 obtain ⟨g19, g21, rfl, hq⟩ := hq
 replace hS : SH M X w [Ent.im tS y18.1.Texts g19, Ent.own 3 (tI .i64) y18.1.Numbers g21, Ent.blk b1 [.int .i64 0, .int .i64 0, .slice none 0 0, .slice none 0 0], Ent.gifc 2, Ent.gifc 3, Ent.tab 1 (Lib.pow10Tab.map fun z => Value.int .u64 z)] _ := hS.join [1, 2] [0, 1, 2, 3] rfl rfl hq
 clear hq
 refine wl_batch 2 5 [] [0, 2, 15, 16] [(0, [], .string ⟨⟨s⟩⟩), (2, [], .pointer (some ⟨b1, 0, none⟩)), (15, [], .agg ⟨[.int .i64 y18.1.Err, .int .i64 y18.1.Num, .slice g19.a y18.1.Texts.length g19.c, .slice g21.a y18.1.Numbers.length g21.c]⟩), (16, [], .bool y18.2)] [] H24 (by decide) (by kernel_rfl) trivial fun _ wd25 H26 hb => ?_
 clear H24
 replace hS := hS.below hb
 clear hb
 have hd := hS.hand [] [0, 1, 2, 3, 4, 5] rfl rfl
 refine m_stp [4, 0, 2, 15, 16] [(0, [], .string ⟨⟨s⟩⟩), (2, [], .pointer (some ⟨b1, 0, none⟩)), (15, [], .agg ⟨[.int .i64 y18.1.Err, .int .i64 y18.1.Num, .slice g19.a y18.1.Texts.length g19.c, .slice g21.a y18.1.Numbers.length g21.c]⟩), (16, [], .bool y18.2)] H26 rfl rfl rfl rfl (o_alloc [.int .i64 0, .int .i64 0, .slice none 0 0, .slice none 0 0] (z := .agg ⟨[.int .i64 0, .int .i64 0, .slice none 0 0, .slice none 0 0]⟩) hd (by kernel_rfl) rfl) (fun _ => rfl) fun _ wd28 v H29 hq => ?_
 clear H26 hd
 obtain ⟨b27, rfl, hq⟩ := hq
 replace hS : SH M X w [Ent.blk b27 [.int .i64 0, .int .i64 0, .slice none 0 0, .slice none 0 0], Ent.im tS y18.1.Texts g19, Ent.own 3 (tI .i64) y18.1.Numbers g21, Ent.blk b1 [.int .i64 0, .int .i64 0, .slice none 0 0, .slice none 0 0], Ent.gifc 2, Ent.gifc 3, Ent.tab 1 (Lib.pow10Tab.map fun z => Value.int .u64 z)] _ := hS.join [] [0, 1, 2, 3, 4, 5] rfl rfl hq
 clear hq
 have hd := hS.hand [0] [1, 2, 3, 4, 5, 6] rfl rfl
 refine m_stp0 [0, 2, 4, 16] [(0, [], .string ⟨⟨s⟩⟩), (2, [], .pointer (some ⟨b1, 0, none⟩)), (4, [], .pointer (some ⟨b27, 0, none⟩)), (16, [], .bool y18.2)] H29 rfl rfl rfl (o_store [.int .i64 y18.1.Err, .int .i64 y18.1.Num, .slice g19.a y18.1.Texts.length g19.c, .slice g21.a y18.1.Numbers.length g21.c] H29 hd rfl rfl (by kernel_rfl) rfl rfl rfl) rfl fun _ wd30 H31 hq => ?_
 clear H29 hd
 obtain ⟨_, hq⟩ := hq
 replace hS : SH M X w [Ent.blk b27 [.int .i64 y18.1.Err, .int .i64 y18.1.Num, .slice g19.a y18.1.Texts.length g19.c, .slice g21.a y18.1.Numbers.length g21.c], Ent.im tS y18.1.Texts g19, Ent.own 3 (tI .i64) y18.1.Numbers g21, Ent.blk b1 [.int .i64 0, .int .i64 0, .slice none 0 0, .slice none 0 0], Ent.gifc 2, Ent.gifc 3, Ent.tab 1 (Lib.pow10Tab.map fun z => Value.int .u64 z)] _ := hS.join [0] [1, 2, 3, 4, 5, 6] rfl rfl hq
 clear hq
 refine wl_batch 7 8 [] [0, 2, 4, 5] [(0, [], .string ⟨⟨s⟩⟩), (2, [], .pointer (some ⟨b1, 0, none⟩)), (4, [], .pointer (some ⟨b27, 0, none⟩)), (5, [], .bool y18.2)] [] H31 (by decide) (by kernel_rfl) trivial fun _ wd32 H33 hb => ?_
 clear H31
 replace hS := hS.below hb
 clear hb
 refine wl_end rfl ?_
 refine w_seq ?_
 refine s_reg [] [0, 2, 4, 18] [(0, [], .string ⟨⟨s⟩⟩), (2, [], .pointer (some ⟨b1, 0, none⟩)), (4, [], .pointer (some ⟨b27, 0, none⟩)), (18, [], .bool (!y18.2))] [] H33 (by kernel_rfl) trivial fun _ wd34 H35 hb => ?_
 clear H33
 replace hS := hS.below hb
 clear hb
 refine w_if H35 rfl (fun hc => ?c64) (fun hc => ?_)
 case c64 =>
  replace hm := bT hc hm
  refine w_seq ?_
  refine wl_start ?_
  refine wl_batch 0 1 [] [2, 19] [(2, [], .pointer (some ⟨b1, 0, none⟩)), (19, [], .agg ⟨[.int .i64 0, .int .i64 0, .slice none 0 0, .slice none 0 0]⟩)] [] H35 (by decide) (by kernel_rfl) trivial fun _ wd36 H37 hb => ?_
  clear H35
  replace hS := hS.below hb
  clear hb
  have hd := hS.hand [3] [0, 1, 2, 4, 5, 6] rfl rfl
  refine m_stp0 [2] [(2, [], .pointer (some ⟨b1, 0, none⟩))] H37 rfl rfl rfl (o_store [.int .i64 0, .int .i64 0, .slice none 0 0, .slice none 0 0] H37 hd rfl rfl (by kernel_rfl) rfl rfl rfl) rfl fun _ wd38 H39 hq => ?_
  clear H37 hd
  obtain ⟨_, hq⟩ := hq
  replace hS : SH M X w [Ent.blk b1 [.int .i64 0, .int .i64 0, .slice none 0 0, .slice none 0 0], Ent.blk b27 [.int .i64 y18.1.Err, .int .i64 y18.1.Num, .slice g19.a y18.1.Texts.length g19.c, .slice g21.a y18.1.Numbers.length g21.c], Ent.im tS y18.1.Texts g19, Ent.own 3 (tI .i64) y18.1.Numbers g21, Ent.gifc 2, Ent.gifc 3, Ent.tab 1 (Lib.pow10Tab.map fun z => Value.int .u64 z)] _ := hS.join [3] [0, 1, 2, 4, 5, 6] rfl rfl hq
  clear hq
  refine wl_batch 2 3 [] [2, 3] [(2, [], .pointer (some ⟨b1, 0, none⟩)), (3, [], .int .i64 12)] [] H39 (by decide) (by kernel_rfl) trivial fun _ wd40 H41 hb => ?_
  clear H39
  replace hS := hS.below hb
  clear hb
  refine wl_end rfl ?_
  replace hS : SH M X w [Ent.blk b1 [.int .i64 0, .int .i64 0, .slice none 0 0, .slice none 0 0], Ent.gifc 2, Ent.gifc 3, Ent.tab 1 (Lib.pow10Tab.map fun z => Value.int .u64 z)] _ := hS.sel [0, 4, 5, 6] rfl
  refine w_ret ?_
  obtain rfl := someE hm
  replace hS : SH M X w [Ent.own 9 tS ([] : List Str) (.nil), Ent.blk b1 [.int .i64 0, .int .i64 0, .slice none 0 0, .slice none 0 0], Ent.gifc 2, Ent.gifc 3, Ent.tab 1 (Lib.pow10Tab.map fun z => Value.int .u64 z)] _ := hS.addNil 9 tS
  replace hS : SH M X w [Ent.im tS ([] : List Str) (.nil), Ent.blk b1 [.int .i64 0, .int .i64 0, .slice none 0 0, .slice none 0 0], Ent.gifc 2, Ent.gifc 3, Ent.tab 1 (Lib.pow10Tab.map fun z => Value.int .u64 z)] _ := SH.frz1 (hS.sel [0, 1, 2, 3, 4] rfl)
  replace hS : SH M X w [Ent.own 3 (tI .i64) ([] : List Int) (.nil), Ent.im tS ([] : List Str) (.nil), Ent.blk b1 [.int .i64 0, .int .i64 0, .slice none 0 0, .slice none 0 0], Ent.gifc 2, Ent.gifc 3, Ent.tab 1 (Lib.pow10Tab.map fun z => Value.int .u64 z)] _ := hS.addNil 3 (tI .i64)
  exact retR2 H41 rfl (oneRes_agg rfl (hS.bk 2 rfl) Tryd.underlying26 rfl (by kernel_rfl)) rfl ⟨_, rfl, Gh.nil, Gh.nil, rfl, (hS.sel [1, 0] rfl)⟩
 replace hm := bF hc hm
 refine w_skip ?_
 refine w_seq ?_
 obtain ⟨y44, hy44, hm⟩ := bindE hm
 refine s_reg [(.agg ⟨[.int .i64 y18.1.Err, .int .i64 y18.1.Num, .slice g19.a y18.1.Texts.length g19.c, .slice g21.a y18.1.Numbers.length g21.c]⟩), (.tuple ⟨[.string ⟨⟨y44.1⟩⟩, .int .i64 y44.2]⟩)] [0, 2, 4, 6, 7] [(0, [], .string ⟨⟨s⟩⟩), (2, [], .pointer (some ⟨b1, 0, none⟩)), (4, [], .pointer (some ⟨b27, 0, none⟩)), (6, [], .string ⟨⟨y44.1⟩⟩), (7, [], .int .i64 y44.2)] [fun wz => V.atN b27 0 [.int .i64 y18.1.Err, .int .i64 y18.1.Num, .slice g19.a y18.1.Texts.length g19.c, .slice g21.a y18.1.Numbers.length g21.c] 0 wz, fun wz => RetB Tryd.prog 9 ⟨[.agg ⟨[.int .i64 y18.1.Err, .int .i64 y18.1.Num, .slice g19.a y18.1.Texts.length g19.c, .slice g21.a y18.1.Numbers.length g21.c]⟩]⟩ (.tuple ⟨[.string ⟨⟨y44.1⟩⟩, .int .i64 y44.2]⟩) wz] H35 (by kernel_rfl) ⟨((hS.bk 0 rfl).atD rfl), (answer_Line_ok (g_a__0 := g19) (g_a__1 := g21) m _ _ hy44 _ (s0im (s0im (s0tab s0nil (hS.at 6 rfl)) (hS.osl 2 rfl)) (hS.im 1 rfl))), trivial⟩ fun _ wd45 H46 hb => ?_
 clear H35
 replace hS := hS.below hb
 clear hb
 refine s_reg [] [2, 4, 31] [(2, [], .pointer (some ⟨b1, 0, none⟩)), (4, [], .pointer (some ⟨b27, 0, none⟩)), (31, [], .bool (cond (y44.2 != 0) true (!(y44.1 == s))))] [] H46 (by kernel_rfl) trivial fun _ wd47 H48 hb => ?_
 clear H46
 replace hS := hS.below hb
 clear hb
 refine w_if H48 rfl (fun hc => ?_) (fun hc => ?c63)
 case c63 =>
  replace hm := bF hc hm
  refine w_skip ?_
  refine w_seq ?_
  refine wl_start ?_
  refine wl_batch 0 1 [(.agg ⟨[.int .i64 y18.1.Err, .int .i64 y18.1.Num, .slice g19.a y18.1.Texts.length g19.c, .slice g21.a y18.1.Numbers.length g21.c]⟩)] [2, 33] [(2, [], .pointer (some ⟨b1, 0, none⟩)), (33, [], .agg ⟨[.int .i64 y18.1.Err, .int .i64 y18.1.Num, .slice g19.a y18.1.Texts.length g19.c, .slice g21.a y18.1.Numbers.length g21.c]⟩)] [fun wz => V.atN b27 0 [.int .i64 y18.1.Err, .int .i64 y18.1.Num, .slice g19.a y18.1.Texts.length g19.c, .slice g21.a y18.1.Numbers.length g21.c] 0 wz] H48 (by decide) (by kernel_rfl) ⟨((hS.bk 0 rfl).atD rfl), trivial⟩ fun _ wd57 H58 hb => ?_
  clear H48
  replace hS := hS.below hb
  clear hb
  have hd := hS.hand [3] [0, 1, 2, 4, 5, 6] rfl rfl
  refine m_stp0 [2] [(2, [], .pointer (some ⟨b1, 0, none⟩))] H58 rfl rfl rfl (o_store [.int .i64 y18.1.Err, .int .i64 y18.1.Num, .slice g19.a y18.1.Texts.length g19.c, .slice g21.a y18.1.Numbers.length g21.c] H58 hd rfl rfl (by kernel_rfl) rfl rfl rfl) rfl fun _ wd59 H60 hq => ?_
  clear H58 hd
  obtain ⟨_, hq⟩ := hq
  replace hS : SH M X w [Ent.blk b1 [.int .i64 y18.1.Err, .int .i64 y18.1.Num, .slice g19.a y18.1.Texts.length g19.c, .slice g21.a y18.1.Numbers.length g21.c], Ent.blk b27 [.int .i64 y18.1.Err, .int .i64 y18.1.Num, .slice g19.a y18.1.Texts.length g19.c, .slice g21.a y18.1.Numbers.length g21.c], Ent.im tS y18.1.Texts g19, Ent.own 3 (tI .i64) y18.1.Numbers g21, Ent.gifc 2, Ent.gifc 3, Ent.tab 1 (Lib.pow10Tab.map fun z => Value.int .u64 z)] _ := hS.join [3] [0, 1, 2, 4, 5, 6] rfl rfl hq
  clear hq
  refine wl_batch 2 3 [] [2, 3] [(2, [], .pointer (some ⟨b1, 0, none⟩)), (3, [], .int .i64 0)] [] H60 (by decide) (by kernel_rfl) trivial fun _ wd61 H62 hb => ?_
  clear H60
  replace hS := hS.below hb
  clear hb
  refine wl_end rfl ?_
  replace hS : SH M X w [Ent.blk b1 [.int .i64 y18.1.Err, .int .i64 y18.1.Num, .slice g19.a y18.1.Texts.length g19.c, .slice g21.a y18.1.Numbers.length g21.c], Ent.im tS y18.1.Texts g19, Ent.own 3 (tI .i64) y18.1.Numbers g21, Ent.gifc 2, Ent.gifc 3, Ent.tab 1 (Lib.pow10Tab.map fun z => Value.int .u64 z)] _ := hS.sel [0, 2, 3, 4, 5, 6] rfl
  refine w_ret ?_
  obtain rfl := someE hm
  exact retR2 H62 rfl (oneRes_agg rfl (hS.bk 0 rfl) Tryd.underlying26 rfl (by kernel_rfl)) rfl ⟨_, rfl, g19, g21, rfl, (hS.sel [1, 2] rfl)⟩
 replace hm := bT hc hm
 refine w_seq ?_
 refine wl_start ?_
 refine wl_batch 0 1 [] [2, 32] [(2, [], .pointer (some ⟨b1, 0, none⟩)), (32, [], .agg ⟨[.int .i64 0, .int .i64 0, .slice none 0 0, .slice none 0 0]⟩)] [] H48 (by decide) (by kernel_rfl) trivial fun _ wd49 H50 hb => ?_
 clear H48
 replace hS := hS.below hb
 clear hb
 have hd := hS.hand [3] [0, 1, 2, 4, 5, 6] rfl rfl
 refine m_stp0 [2] [(2, [], .pointer (some ⟨b1, 0, none⟩))] H50 rfl rfl rfl (o_store [.int .i64 0, .int .i64 0, .slice none 0 0, .slice none 0 0] H50 hd rfl rfl (by kernel_rfl) rfl rfl rfl) rfl fun _ wd51 H52 hq => ?_
 clear H50 hd
 obtain ⟨_, hq⟩ := hq
 replace hS : SH M X w [Ent.blk b1 [.int .i64 0, .int .i64 0, .slice none 0 0, .slice none 0 0], Ent.blk b27 [.int .i64 y18.1.Err, .int .i64 y18.1.Num, .slice g19.a y18.1.Texts.length g19.c, .slice g21.a y18.1.Numbers.length g21.c], Ent.im tS y18.1.Texts g19, Ent.own 3 (tI .i64) y18.1.Numbers g21, Ent.gifc 2, Ent.gifc 3, Ent.tab 1 (Lib.pow10Tab.map fun z => Value.int .u64 z)] _ := hS.join [3] [0, 1, 2, 4, 5, 6] rfl rfl hq
 clear hq
 refine wl_batch 2 3 [] [2, 3] [(2, [], .pointer (some ⟨b1, 0, none⟩)), (3, [], .int .i64 12)] [] H52 (by decide) (by kernel_rfl) trivial fun _ wd53 H54 hb => ?_
 clear H52
 replace hS := hS.below hb
 clear hb
 refine wl_end rfl ?_
 replace hS : SH M X w [Ent.blk b1 [.int .i64 0, .int .i64 0, .slice none 0 0, .slice none 0 0], Ent.gifc 2, Ent.gifc 3, Ent.tab 1 (Lib.pow10Tab.map fun z => Value.int .u64 z)] _ := hS.sel [0, 4, 5, 6] rfl
 refine w_ret ?_
 obtain rfl := someE hm
 replace hS : SH M X w [Ent.own 9 tS ([] : List Str) (.nil), Ent.blk b1 [.int .i64 0, .int .i64 0, .slice none 0 0, .slice none 0 0], Ent.gifc 2, Ent.gifc 3, Ent.tab 1 (Lib.pow10Tab.map fun z => Value.int .u64 z)] _ := hS.addNil 9 tS
 replace hS : SH M X w [Ent.im tS ([] : List Str) (.nil), Ent.blk b1 [.int .i64 0, .int .i64 0, .slice none 0 0, .slice none 0 0], Ent.gifc 2, Ent.gifc 3, Ent.tab 1 (Lib.pow10Tab.map fun z => Value.int .u64 z)] _ := SH.frz1 (hS.sel [0, 1, 2, 3, 4] rfl)
 replace hS : SH M X w [Ent.own 3 (tI .i64) ([] : List Int) (.nil), Ent.im tS ([] : List Str) (.nil), Ent.blk b1 [.int .i64 0, .int .i64 0, .slice none 0 0, .slice none 0 0], Ent.gifc 2, Ent.gifc 3, Ent.tab 1 (Lib.pow10Tab.map fun z => Value.int .u64 z)] _ := hS.addNil 3 (tI .i64)
 exact retR2 H54 rfl (oneRes_agg rfl (hS.bk 2 rfl) Tryd.underlying26 rfl (by kernel_rfl)) rfl ⟨_, rfl, Gh.nil, Gh.nil, rfl, (hS.sel [1, 0] rfl)⟩
theorem answer_ReadLine_ok  (m : Nat) (s : Str) (r : TAnswer × Int) (hm : answer_ReadLine m s = some r) (M : Av) (w : World) (hS : S0 M [Ent.gifc 2, Ent.gifc 3, Ent.tab 1 (Lib.pow10Tab.map fun z => Value.int .u64 z)] w) : DoesX Tryd.prog 11 ⟨[.string ⟨⟨s⟩⟩]⟩ w (fun v w' => ∃ (g901 : Gh) (g903 : Gh), v = .tuple ⟨[.agg ⟨[.int .i64 r.1.Err, .int .i64 r.1.Num, .slice g901.a r.1.Texts.length g901.c, .slice g903.a r.1.Numbers.length g903.c]⟩, .int .i64 r.2]⟩ ∧ SH M (fpl [Ent.gifc 2, Ent.gifc 3, Ent.tab 1 (Lib.pow10Tab.map fun z => Value.int .u64 z)]) w [Ent.im tS r.1.Texts g901, Ent.own 3 (tI .i64) r.1.Numbers g903] w') := ⟨Tryd.call11 _, answer_ReadLine_w M m   s r hm w hS⟩

theorem r40_number_w  (M : Av) (m : Nat) (s : Str) (r : Int × Str) (hm : r40_number m s = some r) (w : World) (hS : S0 M [] w) : Calls Tryd.prog 33 ⟨[.string ⟨⟨s⟩⟩]⟩ w (fun e w' => ∃ v, e = .returned v ∧ v = .tuple ⟨[.int .i64 r.1, .string ⟨⟨r.2⟩⟩]⟩ ∧ SH M (fpl []) w [] w') := by
 rw [r40_number] at hm
 have hS0 : SH M (fpl []) w [] w := hS
 generalize hX : fpl [] = X at hS0 ⊢
 clear hS hX
 have hS := hS0
 clear hS0
 refine calls_entryP Tryd.func33 rfl Tryd.ntmps33 rfl fun _ H => ?_
 refine s_reg [] [0] [(0, [], .string ⟨⟨s⟩⟩)] [] H (by kernel_rfl) trivial fun _ wd1 H2 hb => ?_
 clear H
 replace hS := hS.below hb
 clear hb
 refine s_reg [] [0, 4] [(0, [], .string ⟨⟨s⟩⟩), (4, [], .int .i64 0)] [] H2 (by kernel_rfl) trivial fun _ wd3 H4 hb => ?_
 clear H2
 replace hS := hS.below hb
 clear hb
 obtain ⟨z5, hz, hm⟩ := bindE hm
 refine w_cut (fun a' w' => Fr 69 [(0, [], .string ⟨⟨s⟩⟩), (4, [], .int .i64 z5)] a' ∧ SH M X w [] w') ?_ ?_
 ·replace hm := hz
  refine w_block ?_
  refine w_loop (fun kk a' w' => ∃ (v6 : Int), r40_number_L1 m s kk v6 = some _ ∧ Fr 69 [(0, [], .string ⟨⟨s⟩⟩), (4, [], .int .i64 v6)] a' ∧ SH M X w [] w') ⟨_, 0, hm, FrG.keep (ks := [0, 4]) H4 (by kernel_rfl), hS⟩ ?_
  clear hm H4 hS
  rintro kk _ wd16 ⟨v6, hm, H, hS⟩
  cases kk with
  | zero => exact noneE hm
  | succ kk =>
   rw [r40_number_L1] at hm
   refine w_seq ?_
   obtain ⟨ho7, hm⟩ := chkE hm
   obtain ⟨ho8, hm⟩ := chkE hm
   obtain ⟨ho9, hm⟩ := chkE hm
   obtain ⟨x10, hx10, hm⟩ := letE hm
   refine s_reg [] [0, 4, 32] [(0, [], .string ⟨⟨s⟩⟩), (4, [], .int .i64 v6), (32, [], .bool x10)] [fun _ => ((decide (v6 < (ln s))) = true ∧ True → 0 ≤ v6 ∧ v6 < ln s), fun _ => ((decide (48 ≤ (bat s v6))) = true ∧ (decide (v6 < (ln s))) = true ∧ True → 0 ≤ v6 ∧ v6 < ln s), fun _ => ((v6 == 0) = true ∧ (cond (decide (48 ≤ (bat s v6))) (decide ((bat s v6) ≤ 57)) false) = false ∧ (decide (v6 < (ln s))) = true ∧ True → 0 ≤ v6 ∧ v6 < ln s)] H (by subst hx10; kernel_rfl) ⟨fun hg => (ho7 hg.1), fun hg => (ho8 hg.1 hg.2.1), fun hg => (ho9 hg.1 hg.2.1 hg.2.2.1), trivial⟩ fun _ wd11 H12 hb => ?_
   clear H
   replace hS := hS.below hb
   clear hb
   refine w_if H12 rfl (fun hc => ?_) (fun hc => ?c15)
   case c15 =>
    replace hm := bF hc hm
    refine w_exit rfl ?_
    obtain rfl := someE hm
    exact ⟨FrG.keep (ks := [0, 4]) H12 (by kernel_rfl), hS⟩
   replace hm := bT hc hm
   refine w_skip ?_
   refine w_block ?_
   refine w_reg [] [0, 4] [(0, [], .string ⟨⟨s⟩⟩), (4, [], .int .i64 (w64 (v6 + 1)))] [] H12 (by kernel_rfl) trivial fun _ wd13 H14 hb => ?_
   clear H12
   replace hS := hS.below hb
   clear hb
   exact ⟨_, Nat.lt_succ_self _, w64 (v6 + 1), hm, FrG.keep (ks := [0, 4]) H14 (by kernel_rfl), hS⟩
 ·rintro _ wd52 ⟨H, hS⟩
  refine s_reg [] [0, 4, 5] [(0, [], .string ⟨⟨s⟩⟩), (4, [], .int .i64 z5), (5, [], .int .i64 0)] [] H (by kernel_rfl) trivial fun _ wd17 H18 hb => ?_
  clear H
  replace hS := hS.below hb
  clear hb
  obtain ⟨z19, hz, hm⟩ := bindE hm
  refine w_cut (fun a' w' => Fr 69 [(0, [], .string ⟨⟨s⟩⟩), (4, [], .int .i64 z5), (5, [], .int .i64 z19)] a' ∧ SH M X w [] w') ?_ ?_
  ·replace hm := hz
   refine s_reg [] [0, 4, 5, 6] [(0, [], .string ⟨⟨s⟩⟩), (4, [], .int .i64 z5), (5, [], .int .i64 0), (6, [], .int .i64 0)] [] H18 (by kernel_rfl) trivial fun _ wd20 H21 hb => ?_
   clear H18
   replace hS := hS.below hb
   clear hb
   refine w_block ?_
   refine w_loop (fun kk a' w' => ∃ (v22 : Int) (v23 : Int), r40_number_L2 m s z5 kk v22 v23 = some _ ∧ Fr 69 [(0, [], .string ⟨⟨s⟩⟩), (4, [], .int .i64 z5), (5, [], .int .i64 v22), (6, [], .int .i64 v23)] a' ∧ SH M X w [] w') ⟨_, 0, 0, hm, FrG.keep (ks := [0, 4, 5, 6]) H21 (by kernel_rfl), hS⟩ ?_
   clear hm H21 hS
   rintro kk _ wd39 ⟨v22, v23, hm, H, hS⟩
   cases kk with
   | zero => exact noneE hm
   | succ kk =>
    rw [r40_number_L2] at hm
    refine w_seq ?_
    obtain ⟨x24, hx24, hm⟩ := letE hm
    refine s_reg [] [0, 4, 5, 6, 41] [(0, [], .string ⟨⟨s⟩⟩), (4, [], .int .i64 z5), (5, [], .int .i64 v22), (6, [], .int .i64 v23), (41, [], .bool x24)] [] H (by subst hx24; kernel_rfl) trivial fun _ wd25 H26 hb => ?_
    clear H
    replace hS := hS.below hb
    clear hb
    refine w_if H26 rfl (fun hc => ?_) (fun hc => ?c38)
    case c38 =>
     replace hm := bF hc hm
     refine w_exit rfl ?_
     obtain rfl := someE hm
     exact ⟨FrG.keep (ks := [0, 4, 5]) H26 (by kernel_rfl), hS⟩
    replace hm := bT hc hm
    refine w_skip ?_
    obtain ⟨z27, hz, hm⟩ := bindE hm
    refine w_cut (fun a' w' => Fr 69 [(0, [], .string ⟨⟨s⟩⟩), (4, [], .int .i64 z5), (6, [], .int .i64 v23), (5, [], .int .i64 z27)] a' ∧ SH M X w [] w') ?_ ?_
    ·replace hm := hz
     refine w_block ?_
     refine w_seq ?_
     obtain ⟨ho28, hm⟩ := chkE hm
     refine s_reg [] [0, 4, 5, 6, 47] [(0, [], .string ⟨⟨s⟩⟩), (4, [], .int .i64 z5), (5, [], .int .i64 v22), (6, [], .int .i64 v23), (47, [], .bool ((bat s v23) == 45))] [fun _ => 0 ≤ v23 ∧ v23 < ln s] H26 (by kernel_rfl) ⟨ho28, trivial⟩ fun _ wd29 H30 hb => ?_
     clear H26
     replace hS := hS.below hb
     clear hb
     refine w_if H30 rfl (fun hc => ?c34) (fun hc => ?_)
     case c34 =>
      replace hm := bT hc hm
      refine w_exit rfl ?_
      obtain rfl := someE hm
      exact ⟨FrG.keep (ks := [0, 4, 6, 5]) H30 (by kernel_rfl), hS⟩
     replace hm := bF hc hm
     refine w_skip ?_
     obtain ⟨x31, hx31, hm⟩ := letE hm
     refine w_reg [] [0, 4, 5, 6] [(0, [], .string ⟨⟨s⟩⟩), (4, [], .int .i64 z5), (5, [], .int .i64 x31), (6, [], .int .i64 v23)] [fun _ => 0 ≤ v23 ∧ v23 < ln s] H30 (by subst hx31; kernel_rfl) ⟨ho28, trivial⟩ fun _ wd32 H33 hb => ?_
     clear H30
     replace hS := hS.below hb
     clear hb
     obtain rfl := someE hm
     exact ⟨FrG.keep (ks := [0, 4, 6, 5]) H33 (by kernel_rfl), hS⟩
    ·rintro _ wd37 ⟨H, hS⟩
     refine w_reg [] [0, 4, 5, 6] [(0, [], .string ⟨⟨s⟩⟩), (4, [], .int .i64 z5), (5, [], .int .i64 z27), (6, [], .int .i64 (w64 (v23 + 1)))] [] H (by kernel_rfl) trivial fun _ wd35 H36 hb => ?_
     clear H
     replace hS := hS.below hb
     clear hb
     exact ⟨_, Nat.lt_succ_self _, z27, w64 (v23 + 1), hm, FrG.keep (ks := [0, 4, 5, 6]) H36 (by kernel_rfl), hS⟩
  ·rintro _ wd51 ⟨H, hS⟩
   obtain ⟨z40, hz, hm⟩ := bindE hm
   refine w_cut (fun a' w' => Fr 69 [(0, [], .string ⟨⟨s⟩⟩), (4, [], .int .i64 z5), (5, [], .int .i64 z40)] a' ∧ SH M X w [] w') ?_ ?_
   ·replace hm := hz
    obtain ⟨ho41, hm⟩ := chkE hm
    refine s_reg [] [0, 4, 5, 62] [(0, [], .string ⟨⟨s⟩⟩), (4, [], .int .i64 z5), (5, [], .int .i64 z19), (62, [], .bool (cond (z5 == 0) true ((bat s 0) != 45)))] [fun _ => ((z5 == 0) = false ∧ True → 0 ≤ (0 : Int) ∧ (0 : Int) < ln s)] H (by kernel_rfl) ⟨fun hg => (ho41 hg.1), trivial⟩ fun _ wd42 H43 hb => ?_
    clear H
    replace hS := hS.below hb
    clear hb
    refine w_if H43 rfl (fun hc => ?_) (fun hc => ?c46)
    case c46 =>
     replace hm := bF hc hm
     refine w_skip ?_
     obtain rfl := someE hm
     exact ⟨FrG.keep (ks := [0, 4, 5]) H43 (by kernel_rfl), hS⟩
    replace hm := bT hc hm
    refine w_reg [] [0, 4, 5] [(0, [], .string ⟨⟨s⟩⟩), (4, [], .int .i64 z5), (5, [], .int .i64 (w64 (0 - z19)))] [] H43 (by kernel_rfl) trivial fun _ wd44 H45 hb => ?_
    clear H43
    replace hS := hS.below hb
    clear hb
    obtain rfl := someE hm
    exact ⟨FrG.keep (ks := [0, 4, 5]) H45 (by kernel_rfl), hS⟩
   ·rintro _ wd50 ⟨H, hS⟩
    obtain ⟨ho47, hm⟩ := chkE hm
    refine s_draw [] [2, 3] [(2, [], .int .i64 z40), (3, [], .string ⟨⟨sub s z5 (ln s)⟩⟩)] [fun _ => 0 ≤ z5 ∧ z5 ≤ ln s] H (by kernel_rfl) (by kernel_rfl) (by kernel_rfl) ⟨ho47, trivial⟩ fun _ wd48 H49 hb => ?_
    clear H
    replace hS := hS.below hb
    clear hb
    refine w_ret ?_
    obtain rfl := someE hm
    exact retR2 H49 rfl rfl rfl ⟨_, rfl, rfl, (hS.sel [] rfl)⟩
theorem r40_number_ok  (m : Nat) (s : Str) (r : Int × Str) (hm : r40_number m s = some r) : Ret Tryd.prog 33 ⟨[.string ⟨⟨s⟩⟩]⟩ (.tuple ⟨[.int .i64 r.1, .string ⟨⟨r.2⟩⟩]⟩) := retP_of (Tryd.call33 _) (fun w h => r40_number_w F0 m   s r hm w h)

theorem r40_after_w  (M : Av) (s : Str) (n_ : Int) (r : Str) (hm : r40_after s n_ = some r) (w : World) (hS : S0 M [] w) : Calls Tryd.prog 34 ⟨[.string ⟨⟨s⟩⟩, .int .i64 n_]⟩ w (fun e w' => ∃ v, e = .returned v ∧ v = .string ⟨⟨r⟩⟩ ∧ SH M (fpl []) w [] w') := by
 rw [r40_after] at hm
 have hS0 : SH M (fpl []) w [] w := hS
 generalize hX : fpl [] = X at hS0 ⊢
 clear hS hX
 have hS := hS0
 clear hS0
 refine calls_entryP Tryd.func34 rfl Tryd.ntmps34 rfl fun _ H => ?_
 refine s_reg [] [0, 1] [(0, [], .string ⟨⟨s⟩⟩), (1, [], .int .i64 n_)] [] H (by kernel_rfl) trivial fun _ wd1 H2 hb => ?_
 clear H
 replace hS := hS.below hb
 clear hb
 refine w_seq ?_
 refine s_reg [] [0, 1, 8] [(0, [], .string ⟨⟨s⟩⟩), (1, [], .int .i64 n_), (8, [], .bool (decide ((ln s) < n_)))] [] H2 (by kernel_rfl) trivial fun _ wd3 H4 hb => ?_
 clear H2
 replace hS := hS.below hb
 clear hb
 refine w_if H4 rfl (fun hc => ?c10) (fun hc => ?_)
 case c10 =>
  replace hm := bT hc hm
  refine s_reg [] [4] [(4, [], .string ⟨⟨[]⟩⟩)] [] H4 (by kernel_rfl) trivial fun _ wd5 H6 hb => ?_
  clear H4
  replace hS := hS.below hb
  clear hb
  refine w_ret ?_
  obtain rfl := someE hm
  exact retR1 H6 rfl rfl ⟨_, rfl, rfl, (hS.sel [] rfl)⟩
 replace hm := bF hc hm
 refine w_skip ?_
 obtain ⟨ho7, hm⟩ := chkE hm
 refine s_reg [] [4] [(4, [], .string ⟨⟨sub s n_ (ln s)⟩⟩)] [fun _ => 0 ≤ n_ ∧ n_ ≤ ln s] H4 (by kernel_rfl) ⟨ho7, trivial⟩ fun _ wd8 H9 hb => ?_
 clear H4
 replace hS := hS.below hb
 clear hb
 refine w_ret ?_
 obtain rfl := someE hm
 exact retR1 H9 rfl rfl ⟨_, rfl, rfl, (hS.sel [] rfl)⟩
theorem r40_after_ok  (s : Str) (n_ : Int) (r : Str) (hm : r40_after s n_ = some r) : Ret Tryd.prog 34 ⟨[.string ⟨⟨s⟩⟩, .int .i64 n_]⟩ (.string ⟨⟨r⟩⟩) := retP_of (Tryd.call34 _) (fun w h => r40_after_w F0   s n_ r hm w h)

theorem r40_quoted_w  (M : Av) (m : Nat) (s : Str) (r : Str × Str × Bool) (hm : r40_quoted m s = some r) (w : World) (hS : S0 M [] w) : Calls Tryd.prog 35 ⟨[.string ⟨⟨s⟩⟩]⟩ w (fun e w' => ∃ v, e = .returned v ∧ v = .tuple ⟨[.string ⟨⟨r.1⟩⟩, .string ⟨⟨r.2.1⟩⟩, .bool r.2.2]⟩ ∧ SH M (fpl []) w [] w') := by
 rw [r40_quoted] at hm
 have hS0 : SH M (fpl []) w [] w := hS
 generalize hX : fpl [] = X at hS0 ⊢
 clear hS hX
 have hS := hS0
 clear hS0
 refine calls_entryP Tryd.func35 rfl Tryd.ntmps35 rfl fun _ H => ?_
 refine s_reg [] [0] [(0, [], .string ⟨⟨s⟩⟩)] [] H (by kernel_rfl) trivial fun _ wd1 H2 hb => ?_
 clear H
 replace hS := hS.below hb
 clear hb
 refine w_seq ?_
 obtain ⟨ho3, hm⟩ := chkE hm
 obtain ⟨x4, hx4, hm⟩ := letE hm
 refine s_reg [] [0, 17] [(0, [], .string ⟨⟨s⟩⟩), (17, [], .bool x4)] [fun _ => (((ln s) == 0) = false ∧ True → 0 ≤ (0 : Int) ∧ (0 : Int) < ln s)] H2 (by subst hx4; kernel_rfl) ⟨fun hg => (ho3 hg.1), trivial⟩ fun _ wd5 H6 hb => ?_
 clear H2
 replace hS := hS.below hb
 clear hb
 refine w_if H6 rfl (fun hc => ?c86) (fun hc => ?_)
 case c86 =>
  replace hm := bT hc hm
  refine s_reg [] [2, 3, 4] [(2, [], .string ⟨⟨[]⟩⟩), (3, [], .string ⟨⟨[]⟩⟩), (4, [], .bool false)] [] H6 (by kernel_rfl) trivial fun _ wd7 H8 hb => ?_
  clear H6
  replace hS := hS.below hb
  clear hb
  refine w_ret ?_
  obtain rfl := someE hm
  exact retR3 H8 rfl rfl rfl rfl ⟨_, rfl, rfl, (hS.sel [] rfl)⟩
 replace hm := bF hc hm
 refine w_skip ?_
 refine s_reg [] [0, 5] [(0, [], .string ⟨⟨s⟩⟩), (5, [], .slice none 0 0)] [] H6 (by kernel_rfl) trivial fun _ wd9 H10 hb => ?_
 clear H6
 replace hS := hS.below hb
 clear hb
 obtain ⟨z11, hz, hm_z11⟩ := bindE hm
 refine w_cut (fun a' w' => ∃ s_z11 : Unit, z11 = Sum.inr s_z11 ∧ Fr 86 [] a' ∧ SH M X w [] w') ?_ ?_
 ·replace hm := hz
  refine s_reg [] [0, 5, 6] [(0, [], .string ⟨⟨s⟩⟩), (5, [], .slice none 0 0), (6, [], .int .i64 1)] [] H10 (by kernel_rfl) trivial fun _ wd12 H13 hb => ?_
  clear H10
  replace hS := hS.below hb
  clear hb
  refine w_block ?_
  replace hS : SH M X w [Ent.own 5 (tI .u8) ([] : List Int) (.nil)] _ := hS.addNil 5 (tI .u8)
  refine w_loop (fun kk a' w' => ∃ (v15 : List Int) (v17 : Int) (g16 : Gh), r40_quoted_L1 m s kk v15 v17 = some _ ∧ Fr 86 [(0, [], .string ⟨⟨s⟩⟩), (5, [], .slice g16.a v15.length g16.c), (6, [], .int .i64 v17)] a' ∧ SH M X w [Ent.own 5 (tI .u8) v15 g16] w') ⟨_, ([] : List Int), 1, Gh.nil, hm, FrG.keep (ks := [0, 5, 6]) H13 (by kernel_rfl), hS⟩ ?_
  clear hm H13 hS
  rintro kk _ wd82 ⟨v15, v17, g16, hm, H, hS⟩
  cases kk with
  | zero => exact noneE hm
  | succ kk =>
   rw [r40_quoted_L1] at hm
   refine w_seq ?_
   refine s_reg [] [0, 5, 6, 21] [(0, [], .string ⟨⟨s⟩⟩), (5, [], .slice g16.a v15.length g16.c), (6, [], .int .i64 v17), (21, [], .bool (decide (v17 < (ln s))))] [] H (by kernel_rfl) trivial fun _ wd18 H19 hb => ?_
   clear H
   replace hS := hS.below hb
   clear hb
   refine w_if H19 rfl (fun hc => ?_) (fun hc => ?c81)
   case c81 =>
    replace hm := bF hc hm
    refine w_exit rfl ?_
    obtain rfl := someE hm
    replace hS : SH M X w [] _ := hS.sel [] rfl
    exact ⟨_, rfl, FrG.keep (ks := []) H19 (by kernel_rfl), hS⟩
   replace hm := bT hc hm
   refine w_skip ?_
   refine w_block ?_
   refine w_seq ?_
   obtain ⟨ho20, hm⟩ := chkE hm
   refine s_reg [] [0, 5, 6, 25] [(0, [], .string ⟨⟨s⟩⟩), (5, [], .slice g16.a v15.length g16.c), (6, [], .int .i64 v17), (25, [], .bool ((bat s v17) == 34))] [fun _ => 0 ≤ v17 ∧ v17 < ln s] H19 (by kernel_rfl) ⟨ho20, trivial⟩ fun _ wd21 H22 hb => ?_
   clear H19
   replace hS := hS.below hb
   clear hb
   refine w_if H22 rfl (fun hc => ?c80) (fun hc => ?_)
   case c80 =>
    replace hm := bT hc hm
    obtain ⟨ho23, hm⟩ := chkE hm
    refine s_draw [(.string ⟨⟨toB v15⟩⟩)] [2, 3, 4] [(2, [], .string ⟨⟨toB v15⟩⟩), (3, [], .string ⟨⟨sub s (w64 (v17 + 1)) (ln s)⟩⟩), (4, [], .bool true)] [fun wz => ∀ w', Below wz.heap.size wz w' → (convert 53 9 (.slice g16.a v15.length g16.c)).run Tryd.prog w' = .ok (.string ⟨⟨toB v15⟩⟩) w', fun _ => 0 ≤ (w64 (v17 + 1)) ∧ (w64 (v17 + 1)) ≤ ln s] H22 (by kernel_rfl) (by kernel_rfl) (by kernel_rfl) ⟨(conv_slG (E := 5) (by kernel_rfl) (by kernel_rfl) (by kernel_rfl) (hS.osl 0 rfl)), ho23, trivial⟩ fun _ wd24 H25 hb => ?_
    clear H22
    replace hS := hS.below hb
    clear hb
    refine w_ret ?_
    obtain rfl := someE hm
    have hm := hm_z11
    obtain rfl := someE hm
    exact retR3 H25 rfl rfl rfl rfl ⟨_, rfl, rfl, (hS.sel [] rfl)⟩
   replace hm := bF hc hm
   refine w_skip ?_
   refine s_reg [] [0, 5, 6, 7] [(0, [], .string ⟨⟨s⟩⟩), (5, [], .slice g16.a v15.length g16.c), (6, [], .int .i64 v17), (7, [], .bool false)] [] H22 (by kernel_rfl) trivial fun _ wd26 H27 hb => ?_
   clear H22
   replace hS := hS.below hb
   clear hb
   obtain ⟨z28, hz, hm⟩ := bindE hm
   refine w_cut (fun a' w' => ∃ (g73 : Gh), Fr 86 [(0, [], .string ⟨⟨s⟩⟩), (5, [], .slice g73.a z28.2.2.length g73.c), (6, [], .int .i64 z28.1), (7, [], .bool z28.2.1)] a' ∧ SH M X w [Ent.own 5 (tI .u8) z28.2.2 g73] w') ?_ ?_
   ·replace hm := hz
    refine s_reg [] [0, 5, 6, 7, 8] [(0, [], .string ⟨⟨s⟩⟩), (5, [], .slice g16.a v15.length g16.c), (6, [], .int .i64 v17), (7, [], .bool false), (8, [], .int .i64 0)] [] H27 (by kernel_rfl) trivial fun _ wd29 H30 hb => ?_
    clear H27
    replace hS := hS.below hb
    clear hb
    refine w_block ?_
    refine w_loop (fun kk a' w' => ∃ (v31 : List Int) (v33 : Int) (v34 : Bool) (v35 : Int) (g32 : Gh), r40_quoted_L2 m s kk v31 v33 v34 v35 = some _ ∧ Fr 86 [(0, [], .string ⟨⟨s⟩⟩), (5, [], .slice g32.a v31.length g32.c), (6, [], .int .i64 v33), (7, [], .bool v34), (8, [], .int .i64 v35)] a' ∧ SH M X w [Ent.own 5 (tI .u8) v31 g32] w') ⟨_, v15, v17, false, 0, g16, hm, FrG.keep (ks := [0, 5, 6, 7, 8]) H30 (by kernel_rfl), hS⟩ ?_
    clear hm H30 hS
    rintro kk _ wd72 ⟨v31, v33, v34, v35, g32, hm, H, hS⟩
    cases kk with
    | zero => exact noneE hm
    | succ kk =>
     rw [r40_quoted_L2] at hm
     refine w_seq ?_
     refine s_reg [] [0, 5, 6, 7, 8, 37] [(0, [], .string ⟨⟨s⟩⟩), (5, [], .slice g32.a v31.length g32.c), (6, [], .int .i64 v33), (7, [], .bool v34), (8, [], .int .i64 v35), (37, [], .bool (cond (decide (v35 < 256)) (!v34) false))] [] H (by kernel_rfl) trivial fun _ wd36 H37 hb => ?_
     clear H
     replace hS := hS.below hb
     clear hb
     refine w_if H37 rfl (fun hc => ?_) (fun hc => ?c71)
     case c71 =>
      replace hm := bF hc hm
      refine w_exit rfl ?_
      obtain rfl := someE hm
      exact ⟨g32, FrG.keep (ks := [0, 5, 6, 7]) H37 (by kernel_rfl), hS⟩
     replace hm := bT hc hm
     refine w_skip ?_
     obtain ⟨z38, hz, hm⟩ := bindE hm
     refine w_cut (fun a' w' => ∃ (g67 : Gh), Fr 86 [(0, [], .string ⟨⟨s⟩⟩), (8, [], .int .i64 v35), (5, [], .slice g67.a z38.2.2.length g67.c), (6, [], .int .i64 z38.1), (7, [], .bool z38.2.1)] a' ∧ SH M X w [Ent.own 5 (tI .u8) z38.2.2 g67] w') ?_ ?_
     ·replace hm := hz
      refine w_block ?_
      obtain ⟨y39, hy39, hm⟩ := bindE hm
      refine s_reg [(.string ⟨⟨y39⟩⟩)] [0, 5, 6, 7, 8, 9] [(0, [], .string ⟨⟨s⟩⟩), (5, [], .slice g32.a v31.length g32.c), (6, [], .int .i64 v33), (7, [], .bool v34), (8, [], .int .i64 v35), (9, [], .string ⟨⟨y39⟩⟩)] [fun wz => RetB Tryd.prog 59 ⟨[.int .u8 (wu8 v35)]⟩ (.string ⟨⟨y39⟩⟩) wz] H37 (by kernel_rfl) ⟨((r40_Char_ok _ _ hy39).b), trivial⟩ fun _ wd40 H41 hb => ?_
      clear H37
      replace hS := hS.below hb
      clear hb
      obtain ⟨ho42, hm⟩ := chkE hm
      obtain ⟨x43, hx43, hm⟩ := letE hm
      obtain ⟨x44, hx44, hm⟩ := letE hm
      obtain ⟨ho45, hm⟩ := chkE hm
      obtain ⟨x46, hx46, hm⟩ := letE hm
      refine s_reg [] [0, 5, 6, 7, 8, 9, 74] [(0, [], .string ⟨⟨s⟩⟩), (5, [], .slice g32.a v31.length g32.c), (6, [], .int .i64 v33), (7, [], .bool v34), (8, [], .int .i64 v35), (9, [], .string ⟨⟨y39⟩⟩), (74, [], .bool x46)] [fun _ => 0 ≤ v33 ∧ v33 < ln s, fun _ => (((bat s v33) == (wu8 v35)) = false ∧ True → 0 ≤ v33 ∧ v33 < ln s), fun _ => (x44 = true ∧ True → 0 ≤ v33 ∧ v33 ≤ (w64 (v33 + (ln y39))) ∧ (w64 (v33 + (ln y39))) ≤ ln s)] H41 (by subst hx43 hx44 hx46; kernel_rfl) ⟨ho42, fun hg => ho42, fun hg => (ho45 hg.1), trivial⟩ fun _ wd47 H48 hb => ?_
      clear H41
      replace hS := hS.below hb
      clear hb
      refine w_if H48 rfl (fun hc => ?_) (fun hc => ?c66)
      case c66 =>
       replace hm := bF hc hm
       refine w_skip ?_
       obtain rfl := someE hm
       exact ⟨g32, FrG.keep (ks := [0, 8, 5, 6, 7]) H48 (by kernel_rfl), hS⟩
      replace hm := bT hc hm
      refine w_seq ?_
      refine wl_start ?_
      refine wl_batch 0 3 [] [0, 6, 8, 9, 75, 77] [(0, [], .string ⟨⟨s⟩⟩), (6, [], .int .i64 v33), (8, [], .int .i64 v35), (9, [], .string ⟨⟨y39⟩⟩), (75, [], .slice g32.a v31.length g32.c), (77, [], .int .u8 (wu8 v35))] [] H48 (by decide) (by kernel_rfl) trivial fun _ wd49 H50 hb => ?_
      clear H48
      replace hS := hS.below hb
      clear hb
      have hd := hS.hand [] [0] rfl rfl
      refine m_stp [78, 0, 6, 8, 9, 75] [(0, [], .string ⟨⟨s⟩⟩), (6, [], .int .i64 v33), (8, [], .int .i64 v35), (9, [], .string ⟨⟨y39⟩⟩), (75, [], .slice g32.a v31.length g32.c)] H50 rfl rfl rfl rfl (o_lit (T := (tI .u8)) (E := 5) (zv := .int .u8 0) [.int .u8 (wu8 v35)] ([wu8 v35] : List Int) [gL []] _ H50 hd rfl (by kernel_rfl) (by kernel_rfl) (by kernel_rfl) (by kernel_rfl) (by kernel_rfl) (by kernel_rfl) (by kernel_rfl) rfl (InnL.cons trivial InnL.nil)) (fun _ => rfl) fun _ wd53 v H54 hq => ?_
      clear H50 hd
      obtain ⟨g51, rfl, hq⟩ := hq
      replace hS : SH M X w [Ent.own 5 (tI .u8) ([wu8 v35] : List Int) g51, Ent.own 5 (tI .u8) v31 g32] _ := hS.join [] [0] rfl rfl hq
      clear hq
      obtain ⟨ho55, hm⟩ := chkE hm
      obtain ⟨q56, hq56, hm⟩ := letE hm
      have hd := hS.hand [1, 0] [] rfl rfl
      refine m_stp [79, 0, 6, 8, 9] [(0, [], .string ⟨⟨s⟩⟩), (6, [], .int .i64 v33), (8, [], .int .i64 v35), (9, [], .string ⟨⟨y39⟩⟩)] H54 rfl rfl rfl rfl (o_app2 (T := (tI .u8)) (zv := .int .u8 0) (g1 := g32) (g2 := g51) (l1 := v31) (l2 := ([wu8 v35] : List Int)) q56 hq56.symm H54 hd rfl rfl rfl rfl rfl rfl rfl (by kernel_rfl) (by kernel_rfl) rfl rfl ho55) (fun _ => rfl) fun _ wd57 v H58 hq => ?_
      clear H54 hd
      obtain ⟨g59, rfl, hq⟩ := hq
      replace hS : SH M X w [Ent.own 5 (tI .u8) q56 g59, Ent.own 5 (tI .u8) ([wu8 v35] : List Int) g51] _ := hS.join [1, 0] [] rfl rfl hq
      clear hq
      refine wl_batch 5 6 [] [0, 5, 6, 8, 9] [(0, [], .string ⟨⟨s⟩⟩), (5, [], .slice g59.a q56.length g59.c), (6, [], .int .i64 v33), (8, [], .int .i64 v35), (9, [], .string ⟨⟨y39⟩⟩)] [] H58 (by decide) (by kernel_rfl) trivial fun _ wd60 H61 hb => ?_
      clear H58
      replace hS := hS.below hb
      clear hb
      refine wl_end rfl ?_
      replace hS : SH M X w [Ent.own 5 (tI .u8) q56 g59] _ := hS.sel [0] rfl
      refine s_reg [] [0, 5, 6, 8] [(0, [], .string ⟨⟨s⟩⟩), (5, [], .slice g59.a q56.length g59.c), (6, [], .int .i64 (w64 (v33 + (ln y39)))), (8, [], .int .i64 v35)] [] H61 (by kernel_rfl) trivial fun _ wd62 H63 hb => ?_
      clear H61
      replace hS := hS.below hb
      clear hb
      refine w_reg [] [0, 5, 6, 7, 8] [(0, [], .string ⟨⟨s⟩⟩), (5, [], .slice g59.a q56.length g59.c), (6, [], .int .i64 (w64 (v33 + (ln y39)))), (7, [], .bool true), (8, [], .int .i64 v35)] [] H63 (by kernel_rfl) trivial fun _ wd64 H65 hb => ?_
      clear H63
      replace hS := hS.below hb
      clear hb
      obtain rfl := someE hm
      exact ⟨g59, FrG.keep (ks := [0, 8, 5, 6, 7]) H65 (by kernel_rfl), hS⟩
     ·rintro _ wd70 ⟨g67, H, hS⟩
      refine w_reg [] [0, 5, 6, 7, 8] [(0, [], .string ⟨⟨s⟩⟩), (5, [], .slice g67.a z38.2.2.length g67.c), (6, [], .int .i64 z38.1), (7, [], .bool z38.2.1), (8, [], .int .i64 (w64 (v35 + 1)))] [] H (by kernel_rfl) trivial fun _ wd68 H69 hb => ?_
      clear H
      replace hS := hS.below hb
      clear hb
      exact ⟨_, Nat.lt_succ_self _, z38.2.2, z38.1, z38.2.1, w64 (v35 + 1), g67, hm, FrG.keep (ks := [0, 5, 6, 7, 8]) H69 (by kernel_rfl), hS⟩
   ·rintro _ wd79 ⟨g73, H, hS⟩
    refine s_reg [] [0, 5, 6, 85] [(0, [], .string ⟨⟨s⟩⟩), (5, [], .slice g73.a z28.2.2.length g73.c), (6, [], .int .i64 z28.1), (85, [], .bool (!z28.2.1))] [] H (by kernel_rfl) trivial fun _ wd74 H75 hb => ?_
    clear H
    replace hS := hS.below hb
    clear hb
    refine w_if H75 rfl (fun hc => ?_) (fun hc => ?c78)
    case c78 =>
     replace hm := bF hc hm
     refine w_skip ?_
     exact ⟨_, Nat.lt_succ_self _, z28.2.2, z28.1, g73, hm, FrG.keep (ks := [0, 5, 6]) H75 (by kernel_rfl), hS⟩
    replace hm := bT hc hm
    refine s_reg [] [2, 3, 4] [(2, [], .string ⟨⟨[]⟩⟩), (3, [], .string ⟨⟨[]⟩⟩), (4, [], .bool false)] [] H75 (by kernel_rfl) trivial fun _ wd76 H77 hb => ?_
    clear H75
    replace hS := hS.below hb
    clear hb
    refine w_ret ?_
    obtain rfl := someE hm
    have hm := hm_z11
    obtain rfl := someE hm
    exact retR3 H77 rfl rfl rfl rfl ⟨_, rfl, rfl, (hS.sel [] rfl)⟩
 ·rintro _ wd85 ⟨s_z11, hz, H, hS⟩
  subst hz
  replace hm := sumR hm_z11
  refine s_reg [] [2, 3, 4] [(2, [], .string ⟨⟨[]⟩⟩), (3, [], .string ⟨⟨[]⟩⟩), (4, [], .bool false)] [] H (by kernel_rfl) trivial fun _ wd83 H84 hb => ?_
  clear H
  replace hS := hS.below hb
  clear hb
  refine w_ret ?_
  obtain rfl := someE hm
  exact retR3 H84 rfl rfl rfl rfl ⟨_, rfl, rfl, (hS.sel [] rfl)⟩
theorem r40_quoted_ok  (m : Nat) (s : Str) (r : Str × Str × Bool) (hm : r40_quoted m s = some r) : Ret Tryd.prog 35 ⟨[.string ⟨⟨s⟩⟩]⟩ (.tuple ⟨[.string ⟨⟨r.1⟩⟩, .string ⟨⟨r.2.1⟩⟩, .bool r.2.2]⟩) := retP_of (Tryd.call35 _) (fun w h => r40_quoted_w F0 m   s r hm w h)

theorem r40_ReadLine_w  (M : Av) (m : Nat) (s : Str) (r : TAnswer × Int) (hm : r40_ReadLine m s = some r) (w : World) (hS : S0 M [] w) : Calls Tryd.prog 12 ⟨[.string ⟨⟨s⟩⟩]⟩ w (fun e w' => ∃ v, e = .returned v ∧ ∃ (g901 : Gh) (g903 : Gh), v = .tuple ⟨[.agg ⟨[.int .i64 r.1.Err, .int .i64 r.1.Num, .slice g901.a r.1.Texts.length g901.c, .slice g903.a r.1.Numbers.length g903.c]⟩, .int .i64 r.2]⟩ ∧ SH M (fpl []) w [Ent.own 9 tS r.1.Texts g901, Ent.own 3 (tI .i64) r.1.Numbers g903] w') := by
 rw [r40_ReadLine] at hm
 have hS0 : SH M (fpl []) w [] w := hS
 generalize hX : fpl [] = X at hS0 ⊢
 clear hS hX
 have hS := hS0
 clear hS0
 refine calls_entryP Tryd.func12 rfl Tryd.ntmps12 rfl fun _ H => ?_
 refine w_seq ?_
 refine wl_start ?_
 have hd := hS.hand [] [] rfl rfl
 refine m_stp [2, 0] [(0, [], .string ⟨⟨s⟩⟩)] H rfl rfl rfl rfl (o_alloc [.int .i64 0, .int .i64 0, .slice none 0 0, .slice none 0 0] (z := .agg ⟨[.int .i64 0, .int .i64 0, .slice none 0 0, .slice none 0 0]⟩) hd (by kernel_rfl) rfl) (fun _ => rfl) fun _ wd2 v H3 hq => ?_
 clear H hd
 obtain ⟨b1, rfl, hq⟩ := hq
 replace hS : SH M X w [Ent.blk b1 [.int .i64 0, .int .i64 0, .slice none 0 0, .slice none 0 0]] _ := hS.join [] [] rfl rfl hq
 clear hq
 refine wl_batch 1 2 [] [0, 2] [(0, [], .string ⟨⟨s⟩⟩), (2, [], .pointer (some ⟨b1, 0, none⟩))] [] H3 (by decide) (by kernel_rfl) trivial fun _ wd4 H5 hb => ?_
 clear H3
 replace hS := hS.below hb
 clear hb
 refine wl_end rfl ?_
 refine w_seq ?_
 refine s_reg [] [0, 2, 12] [(0, [], .string ⟨⟨s⟩⟩), (2, [], .pointer (some ⟨b1, 0, none⟩)), (12, [], .bool (decide (90000 < (ln s))))] [] H5 (by kernel_rfl) trivial fun _ wd6 H7 hb => ?_
 clear H5
 replace hS := hS.below hb
 clear hb
 refine w_if H7 rfl (fun hc => ?c157) (fun hc => ?_)
 case c157 =>
  replace hm := bT hc hm
  refine w_seq ?_
  refine wl_start ?_
  refine wl_batch 0 1 [] [2, 13] [(2, [], .pointer (some ⟨b1, 0, none⟩)), (13, [], .agg ⟨[.int .i64 0, .int .i64 0, .slice none 0 0, .slice none 0 0]⟩)] [] H7 (by decide) (by kernel_rfl) trivial fun _ wd8 H9 hb => ?_
  clear H7
  replace hS := hS.below hb
  clear hb
  have hd := hS.hand [0] [] rfl rfl
  refine m_stp0 [2] [(2, [], .pointer (some ⟨b1, 0, none⟩))] H9 rfl rfl rfl (o_store [.int .i64 0, .int .i64 0, .slice none 0 0, .slice none 0 0] H9 hd rfl rfl (by kernel_rfl) rfl rfl rfl) rfl fun _ wd10 H11 hq => ?_
  clear H9 hd
  obtain ⟨_, hq⟩ := hq
  replace hS : SH M X w [Ent.blk b1 [.int .i64 0, .int .i64 0, .slice none 0 0, .slice none 0 0]] _ := hS.join [0] [] rfl rfl hq
  clear hq
  refine wl_batch 2 3 [] [2, 3] [(2, [], .pointer (some ⟨b1, 0, none⟩)), (3, [], .int .i64 28)] [] H11 (by decide) (by kernel_rfl) trivial fun _ wd12 H13 hb => ?_
  clear H11
  replace hS := hS.below hb
  clear hb
  refine wl_end rfl ?_
  refine w_ret ?_
  obtain rfl := someE hm
  replace hS : SH M X w [Ent.own 9 tS ([] : List Str) (.nil), Ent.blk b1 [.int .i64 0, .int .i64 0, .slice none 0 0, .slice none 0 0]] _ := hS.addNil 9 tS
  replace hS : SH M X w [Ent.own 3 (tI .i64) ([] : List Int) (.nil), Ent.own 9 tS ([] : List Str) (.nil), Ent.blk b1 [.int .i64 0, .int .i64 0, .slice none 0 0, .slice none 0 0]] _ := hS.addNil 3 (tI .i64)
  exact retR2 H13 rfl (oneRes_agg rfl (hS.bk 2 rfl) Tryd.underlying26 rfl (by kernel_rfl)) rfl ⟨_, rfl, Gh.nil, Gh.nil, rfl, (hS.sel [1, 0] rfl)⟩
 replace hm := bF hc hm
 refine w_skip ?_
 refine w_seq ?_
 refine wl_start ?_
 have hd := hS.hand [] [0] rfl rfl
 refine m_stp [4, 0, 2] [(0, [], .string ⟨⟨s⟩⟩), (2, [], .pointer (some ⟨b1, 0, none⟩))] H7 rfl rfl rfl rfl (o_alloc [.int .i64 0, .int .i64 0, .slice none 0 0, .slice none 0 0] (z := .agg ⟨[.int .i64 0, .int .i64 0, .slice none 0 0, .slice none 0 0]⟩) hd (by kernel_rfl) rfl) (fun _ => rfl) fun _ wd17 v H18 hq => ?_
 clear H7 hd
 obtain ⟨b16, rfl, hq⟩ := hq
 replace hS : SH M X w [Ent.blk b16 [.int .i64 0, .int .i64 0, .slice none 0 0, .slice none 0 0], Ent.blk b1 [.int .i64 0, .int .i64 0, .slice none 0 0, .slice none 0 0]] _ := hS.join [] [0] rfl rfl hq
 clear hq
 refine wl_end rfl ?_
 obtain ⟨y19, hy19, hm⟩ := bindE hm
 refine s_reg [(.tuple ⟨[.int .i64 y19.1, .string ⟨⟨y19.2⟩⟩]⟩)] [0, 2, 4, 5, 6] [(0, [], .string ⟨⟨s⟩⟩), (2, [], .pointer (some ⟨b1, 0, none⟩)), (4, [], .pointer (some ⟨b16, 0, none⟩)), (5, [], .int .i64 y19.1), (6, [], .string ⟨⟨y19.2⟩⟩)] [fun wz => RetB Tryd.prog 33 ⟨[.string ⟨⟨s⟩⟩]⟩ (.tuple ⟨[.int .i64 y19.1, .string ⟨⟨y19.2⟩⟩]⟩) wz] H18 (by kernel_rfl) ⟨((r40_number_ok m _ _ hy19).b), trivial⟩ fun _ wd20 H21 hb => ?_
 clear H18
 replace hS := hS.below hb
 clear hb
 refine w_seq ?_
 refine wl_start ?_
 refine wl_batch 0 2 [] [0, 2, 4, 6, 19, 20] [(0, [], .string ⟨⟨s⟩⟩), (2, [], .pointer (some ⟨b1, 0, none⟩)), (4, [], .pointer (some ⟨b16, 0, none⟩)), (6, [], .string ⟨⟨y19.2⟩⟩), (19, [], .int .i64 y19.1), (20, [], .pointer (some ⟨b16, 0, none⟩))] [] H21 (by decide) (by kernel_rfl) trivial fun _ wd22 H23 hb => ?_
 clear H21
 replace hS := hS.below hb
 clear hb
 have hd := hS.hand [0] [1] rfl rfl
 refine m_stp0 [0, 2, 4, 6] [(0, [], .string ⟨⟨s⟩⟩), (2, [], .pointer (some ⟨b1, 0, none⟩)), (4, [], .pointer (some ⟨b16, 0, none⟩)), (6, [], .string ⟨⟨y19.2⟩⟩)] H23 rfl rfl rfl (o_store [.int .i64 y19.1, .int .i64 0, .slice none 0 0, .slice none 0 0] H23 hd rfl rfl (by kernel_rfl) rfl rfl rfl) rfl fun _ wd24 H25 hq => ?_
 clear H23 hd
 obtain ⟨_, hq⟩ := hq
 replace hS : SH M X w [Ent.blk b16 [.int .i64 y19.1, .int .i64 0, .slice none 0 0, .slice none 0 0], Ent.blk b1 [.int .i64 0, .int .i64 0, .slice none 0 0, .slice none 0 0]] _ := hS.join [0] [1] rfl rfl hq
 clear hq
 refine wl_end rfl ?_
 refine w_seq ?_
 refine wl_start ?_
 obtain ⟨y26, hy26, hm⟩ := bindE hm
 obtain ⟨y27, hy27, hm⟩ := bindE hm
 refine wl_batch 0 7 [(.string ⟨⟨y26⟩⟩), (.tuple ⟨[.int .i64 y27.1, .string ⟨⟨y27.2⟩⟩]⟩)] [0, 2, 4, 25, 26, 27] [(0, [], .string ⟨⟨s⟩⟩), (2, [], .pointer (some ⟨b1, 0, none⟩)), (4, [], .pointer (some ⟨b16, 0, none⟩)), (25, [], .int .i64 y27.1), (26, [], .string ⟨⟨y27.2⟩⟩), (27, [], .pointer (some ⟨b16, 1, none⟩))] [fun wz => RetB Tryd.prog 34 ⟨[.string ⟨⟨y19.2⟩⟩, .int .i64 1]⟩ (.string ⟨⟨y26⟩⟩) wz, fun wz => RetB Tryd.prog 33 ⟨[.string ⟨⟨y26⟩⟩]⟩ (.tuple ⟨[.int .i64 y27.1, .string ⟨⟨y27.2⟩⟩]⟩) wz] H25 (by decide) (by kernel_rfl) ⟨((r40_after_ok _ _ _ hy26).b), ((r40_number_ok m _ _ hy27).b), trivial⟩ fun _ wd28 H29 hb => ?_
 clear H25
 replace hS := hS.below hb
 clear hb
 have hd := hS.hand [0] [1] rfl rfl
 refine m_stp0 [0, 2, 4, 26] [(0, [], .string ⟨⟨s⟩⟩), (2, [], .pointer (some ⟨b1, 0, none⟩)), (4, [], .pointer (some ⟨b16, 0, none⟩)), (26, [], .string ⟨⟨y27.2⟩⟩)] H29 rfl rfl rfl (o_store [.int .i64 y19.1, .int .i64 y27.1, .slice none 0 0, .slice none 0 0] H29 hd rfl rfl (by kernel_rfl) rfl rfl rfl) rfl fun _ wd30 H31 hq => ?_
 clear H29 hd
 obtain ⟨_, hq⟩ := hq
 replace hS : SH M X w [Ent.blk b16 [.int .i64 y19.1, .int .i64 y27.1, .slice none 0 0, .slice none 0 0], Ent.blk b1 [.int .i64 0, .int .i64 0, .slice none 0 0, .slice none 0 0]] _ := hS.join [0] [1] rfl rfl hq
 clear hq
 refine wl_batch 8 9 [] [0, 2, 4, 6] [(0, [], .string ⟨⟨s⟩⟩), (2, [], .pointer (some ⟨b1, 0, none⟩)), (4, [], .pointer (some ⟨b16, 0, none⟩)), (6, [], .string ⟨⟨y27.2⟩⟩)] [] H31 (by decide) (by kernel_rfl) trivial fun _ wd32 H33 hb => ?_
 clear H31
 replace hS := hS.below hb
 clear hb
 refine wl_end rfl ?_
 obtain ⟨y34, hy34, hm⟩ := bindE hm
 refine s_reg [(.string ⟨⟨y34⟩⟩)] [0, 2, 4, 6] [(0, [], .string ⟨⟨s⟩⟩), (2, [], .pointer (some ⟨b1, 0, none⟩)), (4, [], .pointer (some ⟨b16, 0, none⟩)), (6, [], .string ⟨⟨y34⟩⟩)] [fun wz => RetB Tryd.prog 34 ⟨[.string ⟨⟨y27.2⟩⟩, .int .i64 2]⟩ (.string ⟨⟨y34⟩⟩) wz] H33 (by kernel_rfl) ⟨((r40_after_ok _ _ _ hy34).b), trivial⟩ fun _ wd35 H36 hb => ?_
 clear H33
 replace hS := hS.below hb
 clear hb
 obtain ⟨z37, hz, hm_z37⟩ := bindE hm
 refine w_cut (fun a' w' => ∃ s_z37 : Str × (List Str), z37 = Sum.inr s_z37 ∧ ∃ (g87 : Gh), Fr 119 [(0, [], .string ⟨⟨s⟩⟩), (2, [], .pointer (some ⟨b1, 0, none⟩)), (4, [], .pointer (some ⟨b16, 0, none⟩)), (6, [], .string ⟨⟨s_z37.1⟩⟩)] a' ∧ SH M X w [Ent.own 9 tS s_z37.2 g87, Ent.blk b16 [.int .i64 y19.1, .int .i64 y27.1, .slice g87.a s_z37.2.length g87.c, .slice none 0 0], Ent.blk b1 [.int .i64 0, .int .i64 0, .slice none 0 0, .slice none 0 0]] w') ?_ ?_
 ·replace hm := hz
  refine w_block ?_
  replace hS : SH M X w [Ent.own 9 tS ([] : List Str) (.nil), Ent.blk b16 [.int .i64 y19.1, .int .i64 y27.1, .slice none 0 0, .slice none 0 0], Ent.blk b1 [.int .i64 0, .int .i64 0, .slice none 0 0, .slice none 0 0]] _ := hS.addNil 9 tS
  refine w_loop (fun kk a' w' => ∃ (v39 : Str) (v40 : List Str) (g41 : Gh), r40_ReadLine_L1 m  kk v39 v40 = some _ ∧ Fr 119 [(0, [], .string ⟨⟨s⟩⟩), (2, [], .pointer (some ⟨b1, 0, none⟩)), (4, [], .pointer (some ⟨b16, 0, none⟩)), (6, [], .string ⟨⟨v39⟩⟩)] a' ∧ SH M X w [Ent.own 9 tS v40 g41, Ent.blk b16 [.int .i64 y19.1, .int .i64 y27.1, .slice g41.a v40.length g41.c, .slice none 0 0], Ent.blk b1 [.int .i64 0, .int .i64 0, .slice none 0 0, .slice none 0 0]] w') ⟨_, y34, ([] : List Str), Gh.nil, hm, FrG.keep (ks := [0, 2, 4, 6]) H36 (by kernel_rfl), hS⟩ ?_
  clear hm H36 hS
  rintro kk _ wd86 ⟨v39, v40, g41, hm, H, hS⟩
  cases kk with
  | zero => exact noneE hm
  | succ kk =>
   rw [r40_ReadLine_L1] at hm
   refine w_seq ?_
   obtain ⟨ho42, hm⟩ := chkE hm
   obtain ⟨x43, hx43, hm⟩ := letE hm
   refine s_reg [(.slice g41.a v40.length g41.c)] [0, 2, 4, 6, 43] [(0, [], .string ⟨⟨s⟩⟩), (2, [], .pointer (some ⟨b1, 0, none⟩)), (4, [], .pointer (some ⟨b16, 0, none⟩)), (6, [], .string ⟨⟨v39⟩⟩), (43, [], .bool (cond x43 (decide ((ln v40) ≤ 64)) false))] [fun _ => ((decide (0 < (ln v39))) = true ∧ True → 0 ≤ (0 : Int) ∧ (0 : Int) < ln v39), fun wz => (x43 = true ∧ True → V.at1 ⟨b16, 2, none⟩ (.slice g41.a v40.length g41.c) wz)] H (by subst hx43; kernel_rfl) ⟨fun hg => (ho42 hg.1), fun hg => (hS.bk 1 rfl).at1 rfl, trivial⟩ fun _ wd44 H45 hb => ?_
   clear H
   replace hS := hS.below hb
   clear hb
   refine w_if H45 rfl (fun hc => ?_) (fun hc => ?c85)
   case c85 =>
    replace hm := bF hc hm
    refine w_exit rfl ?_
    obtain rfl := someE hm
    exact ⟨_, rfl, g41, FrG.keep (ks := [0, 2, 4, 6]) H45 (by kernel_rfl), hS⟩
   replace hm := bT hc hm
   refine w_skip ?_
   refine w_block ?_
   obtain ⟨y46, hy46, hm⟩ := bindE hm
   refine s_reg [(.tuple ⟨[.string ⟨⟨y46.1⟩⟩, .string ⟨⟨y46.2.1⟩⟩, .bool y46.2.2]⟩)] [0, 2, 4, 7, 8, 9] [(0, [], .string ⟨⟨s⟩⟩), (2, [], .pointer (some ⟨b1, 0, none⟩)), (4, [], .pointer (some ⟨b16, 0, none⟩)), (7, [], .string ⟨⟨y46.1⟩⟩), (8, [], .string ⟨⟨y46.2.1⟩⟩), (9, [], .bool y46.2.2)] [fun wz => RetB Tryd.prog 35 ⟨[.string ⟨⟨v39⟩⟩]⟩ (.tuple ⟨[.string ⟨⟨y46.1⟩⟩, .string ⟨⟨y46.2.1⟩⟩, .bool y46.2.2]⟩) wz] H45 (by kernel_rfl) ⟨((r40_quoted_ok m _ _ hy46).b), trivial⟩ fun _ wd47 H48 hb => ?_
   clear H45
   replace hS := hS.below hb
   clear hb
   refine w_seq ?_
   refine s_reg [] [0, 2, 4, 7, 8, 51] [(0, [], .string ⟨⟨s⟩⟩), (2, [], .pointer (some ⟨b1, 0, none⟩)), (4, [], .pointer (some ⟨b16, 0, none⟩)), (7, [], .string ⟨⟨y46.1⟩⟩), (8, [], .string ⟨⟨y46.2.1⟩⟩), (51, [], .bool (!y46.2.2))] [] H48 (by kernel_rfl) trivial fun _ wd49 H50 hb => ?_
   clear H48
   replace hS := hS.below hb
   clear hb
   refine w_if H50 rfl (fun hc => ?c84) (fun hc => ?_)
   case c84 =>
    replace hm := bT hc hm
    refine w_seq ?_
    refine wl_start ?_
    refine wl_batch 0 1 [] [2, 52] [(2, [], .pointer (some ⟨b1, 0, none⟩)), (52, [], .agg ⟨[.int .i64 0, .int .i64 0, .slice none 0 0, .slice none 0 0]⟩)] [] H50 (by decide) (by kernel_rfl) trivial fun _ wd51 H52 hb => ?_
    clear H50
    replace hS := hS.below hb
    clear hb
    have hd := hS.hand [2] [0, 1] rfl rfl
    refine m_stp0 [2] [(2, [], .pointer (some ⟨b1, 0, none⟩))] H52 rfl rfl rfl (o_store [.int .i64 0, .int .i64 0, .slice none 0 0, .slice none 0 0] H52 hd rfl rfl (by kernel_rfl) rfl rfl rfl) rfl fun _ wd53 H54 hq => ?_
    clear H52 hd
    obtain ⟨_, hq⟩ := hq
    replace hS : SH M X w [Ent.blk b1 [.int .i64 0, .int .i64 0, .slice none 0 0, .slice none 0 0], Ent.own 9 tS v40 g41, Ent.blk b16 [.int .i64 y19.1, .int .i64 y27.1, .slice g41.a v40.length g41.c, .slice none 0 0]] _ := hS.join [2] [0, 1] rfl rfl hq
    clear hq
    refine wl_batch 2 3 [] [2, 3] [(2, [], .pointer (some ⟨b1, 0, none⟩)), (3, [], .int .i64 12)] [] H54 (by decide) (by kernel_rfl) trivial fun _ wd55 H56 hb => ?_
    clear H54
    replace hS := hS.below hb
    clear hb
    refine wl_end rfl ?_
    refine w_ret ?_
    obtain rfl := someE hm
    have hm := hm_z37
    obtain rfl := someE hm
    replace hS : SH M X w [Ent.own 9 tS ([] : List Str) (.nil), Ent.blk b1 [.int .i64 0, .int .i64 0, .slice none 0 0, .slice none 0 0], Ent.own 9 tS v40 g41, Ent.blk b16 [.int .i64 y19.1, .int .i64 y27.1, .slice g41.a v40.length g41.c, .slice none 0 0]] _ := hS.addNil 9 tS
    replace hS : SH M X w [Ent.own 3 (tI .i64) ([] : List Int) (.nil), Ent.own 9 tS ([] : List Str) (.nil), Ent.blk b1 [.int .i64 0, .int .i64 0, .slice none 0 0, .slice none 0 0], Ent.own 9 tS v40 g41, Ent.blk b16 [.int .i64 y19.1, .int .i64 y27.1, .slice g41.a v40.length g41.c, .slice none 0 0]] _ := hS.addNil 3 (tI .i64)
    exact retR2 H56 rfl (oneRes_agg rfl (hS.bk 2 rfl) Tryd.underlying26 rfl (by kernel_rfl)) rfl ⟨_, rfl, Gh.nil, Gh.nil, rfl, (hS.sel [1, 0] rfl)⟩
   replace hm := bF hc hm
   refine w_skip ?_
   refine w_seq ?_
   refine wl_start ?_
   refine wl_batch 0 3 [(.slice g41.a v40.length g41.c)] [0, 2, 4, 8, 54, 55] [(0, [], .string ⟨⟨s⟩⟩), (2, [], .pointer (some ⟨b1, 0, none⟩)), (4, [], .pointer (some ⟨b16, 0, none⟩)), (8, [], .string ⟨⟨y46.2.1⟩⟩), (54, [], .slice g41.a v40.length g41.c), (55, [], .string ⟨⟨y46.1⟩⟩)] [fun wz => V.at1 ⟨b16, 2, none⟩ (.slice g41.a v40.length g41.c) wz] H50 (by decide) (by kernel_rfl) ⟨((hS.bk 1 rfl).at1 rfl), trivial⟩ fun _ wd59 H60 hb => ?_
   clear H50
   replace hS := hS.below hb
   clear hb
   have hd := hS.hand [] [0, 1, 2] rfl rfl
   refine m_stp [56, 0, 2, 4, 8, 54] [(0, [], .string ⟨⟨s⟩⟩), (2, [], .pointer (some ⟨b1, 0, none⟩)), (4, [], .pointer (some ⟨b16, 0, none⟩)), (8, [], .string ⟨⟨y46.2.1⟩⟩), (54, [], .slice g41.a v40.length g41.c)] H60 rfl rfl rfl rfl (o_lit (T := tS) (E := 9) (zv := .string ⟨⟨[]⟩⟩) [.string ⟨⟨y46.1⟩⟩] ([y46.1] : List Str) [gL []] _ H60 hd rfl (by kernel_rfl) (by kernel_rfl) (by kernel_rfl) (by kernel_rfl) (by kernel_rfl) (by kernel_rfl) (by kernel_rfl) rfl (InnL.cons trivial InnL.nil)) (fun _ => rfl) fun _ wd63 v H64 hq => ?_
   clear H60 hd
   obtain ⟨g61, rfl, hq⟩ := hq
   replace hS : SH M X w [Ent.own 9 tS ([y46.1] : List Str) g61, Ent.own 9 tS v40 g41, Ent.blk b16 [.int .i64 y19.1, .int .i64 y27.1, .slice g41.a v40.length g41.c, .slice none 0 0], Ent.blk b1 [.int .i64 0, .int .i64 0, .slice none 0 0, .slice none 0 0]] _ := hS.join [] [0, 1, 2] rfl rfl hq
   clear hq
   obtain ⟨ho65, hm⟩ := chkE hm
   obtain ⟨q66, hq66, hm⟩ := letE hm
   have hd := hS.hand [1, 0] [2, 3] rfl rfl
   refine m_stp [57, 0, 2, 4, 8] [(0, [], .string ⟨⟨s⟩⟩), (2, [], .pointer (some ⟨b1, 0, none⟩)), (4, [], .pointer (some ⟨b16, 0, none⟩)), (8, [], .string ⟨⟨y46.2.1⟩⟩)] H64 rfl rfl rfl rfl (o_app2 (T := tS) (zv := .string ⟨⟨[]⟩⟩) (g1 := g41) (g2 := g61) (l1 := v40) (l2 := ([y46.1] : List Str)) q66 hq66.symm H64 hd rfl rfl rfl rfl rfl rfl rfl (by kernel_rfl) (by kernel_rfl) rfl rfl ho65) (fun _ => rfl) fun _ wd67 v H68 hq => ?_
   clear H64 hd
   obtain ⟨g69, rfl, hq⟩ := hq
   replace hS : SH M X w [Ent.own 9 tS q66 g69, Ent.own 9 tS ([y46.1] : List Str) g61, Ent.blk b16 [.int .i64 y19.1, .int .i64 y27.1, .slice g41.a v40.length g41.c, .slice none 0 0], Ent.blk b1 [.int .i64 0, .int .i64 0, .slice none 0 0, .slice none 0 0]] _ := hS.join [1, 0] [2, 3] rfl rfl hq
   clear hq
   refine wl_batch 5 6 [] [0, 2, 4, 8, 57, 58] [(0, [], .string ⟨⟨s⟩⟩), (2, [], .pointer (some ⟨b1, 0, none⟩)), (4, [], .pointer (some ⟨b16, 0, none⟩)), (8, [], .string ⟨⟨y46.2.1⟩⟩), (57, [], .slice g69.a q66.length g69.c), (58, [], .pointer (some ⟨b16, 2, none⟩))] [] H68 (by decide) (by kernel_rfl) trivial fun _ wd70 H71 hb => ?_
   clear H68
   replace hS := hS.below hb
   clear hb
   have hd := hS.hand [2] [0, 1, 3] rfl rfl
   refine m_stp0 [0, 2, 4, 8] [(0, [], .string ⟨⟨s⟩⟩), (2, [], .pointer (some ⟨b1, 0, none⟩)), (4, [], .pointer (some ⟨b16, 0, none⟩)), (8, [], .string ⟨⟨y46.2.1⟩⟩)] H71 rfl rfl rfl (o_store [.int .i64 y19.1, .int .i64 y27.1, .slice g69.a q66.length g69.c, .slice none 0 0] H71 hd rfl rfl (by kernel_rfl) rfl rfl rfl) rfl fun _ wd72 H73 hq => ?_
   clear H71 hd
   obtain ⟨_, hq⟩ := hq
   replace hS : SH M X w [Ent.blk b16 [.int .i64 y19.1, .int .i64 y27.1, .slice g69.a q66.length g69.c, .slice none 0 0], Ent.own 9 tS q66 g69, Ent.own 9 tS ([y46.1] : List Str) g61, Ent.blk b1 [.int .i64 0, .int .i64 0, .slice none 0 0, .slice none 0 0]] _ := hS.join [2] [0, 1, 3] rfl rfl hq
   clear hq
   refine wl_end rfl ?_
   replace hS : SH M X w [Ent.blk b16 [.int .i64 y19.1, .int .i64 y27.1, .slice g69.a q66.length g69.c, .slice none 0 0], Ent.own 9 tS q66 g69, Ent.blk b1 [.int .i64 0, .int .i64 0, .slice none 0 0, .slice none 0 0]] _ := hS.sel [0, 1, 3] rfl
   refine s_reg [] [0, 2, 4, 6] [(0, [], .string ⟨⟨s⟩⟩), (2, [], .pointer (some ⟨b1, 0, none⟩)), (4, [], .pointer (some ⟨b16, 0, none⟩)), (6, [], .string ⟨⟨y46.2.1⟩⟩)] [] H73 (by kernel_rfl) trivial fun _ wd74 H75 hb => ?_
   clear H73
   replace hS := hS.below hb
   clear hb
   obtain ⟨ho76, hm⟩ := chkE hm
   obtain ⟨x77, hx77, hm⟩ := letE hm
   refine s_reg [] [0, 2, 4, 6, 67] [(0, [], .string ⟨⟨s⟩⟩), (2, [], .pointer (some ⟨b1, 0, none⟩)), (4, [], .pointer (some ⟨b16, 0, none⟩)), (6, [], .string ⟨⟨y46.2.1⟩⟩), (67, [], .bool x77)] [fun _ => ((decide (0 < (ln y46.2.1))) = true ∧ True → 0 ≤ (0 : Int) ∧ (0 : Int) < ln y46.2.1)] H75 (by subst hx77; kernel_rfl) ⟨fun hg => (ho76 hg.1), trivial⟩ fun _ wd78 H79 hb => ?_
   clear H75
   replace hS := hS.below hb
   clear hb
   refine w_if H79 rfl (fun hc => ?_) (fun hc => ?c83)
   case c83 =>
    replace hm := bF hc hm
    refine w_skip ?_
    replace hS : SH M X w [Ent.own 9 tS q66 g69, Ent.blk b16 [.int .i64 y19.1, .int .i64 y27.1, .slice g69.a q66.length g69.c, .slice none 0 0], Ent.blk b1 [.int .i64 0, .int .i64 0, .slice none 0 0, .slice none 0 0]] _ := hS.sel [1, 0, 2] rfl
    exact ⟨_, Nat.lt_succ_self _, y46.2.1, q66, g69, hm, FrG.keep (ks := [0, 2, 4, 6]) H79 (by kernel_rfl), hS⟩
   replace hm := bT hc hm
   obtain ⟨y80, hy80, hm⟩ := bindE hm
   refine w_reg [(.string ⟨⟨y80⟩⟩)] [0, 2, 4, 6] [(0, [], .string ⟨⟨s⟩⟩), (2, [], .pointer (some ⟨b1, 0, none⟩)), (4, [], .pointer (some ⟨b16, 0, none⟩)), (6, [], .string ⟨⟨y80⟩⟩)] [fun wz => RetB Tryd.prog 34 ⟨[.string ⟨⟨y46.2.1⟩⟩, .int .i64 2]⟩ (.string ⟨⟨y80⟩⟩) wz] H79 (by kernel_rfl) ⟨((r40_after_ok _ _ _ hy80).b), trivial⟩ fun _ wd81 H82 hb => ?_
   clear H79
   replace hS := hS.below hb
   clear hb
   replace hS : SH M X w [Ent.own 9 tS q66 g69, Ent.blk b16 [.int .i64 y19.1, .int .i64 y27.1, .slice g69.a q66.length g69.c, .slice none 0 0], Ent.blk b1 [.int .i64 0, .int .i64 0, .slice none 0 0, .slice none 0 0]] _ := hS.sel [1, 0, 2] rfl
   exact ⟨_, Nat.lt_succ_self _, y80, q66, g69, hm, FrG.keep (ks := [0, 2, 4, 6]) H82 (by kernel_rfl), hS⟩
 ·rintro _ wd156 ⟨s_z37, hz, g87, H, hS⟩
  subst hz
  replace hm := sumR hm_z37
  obtain ⟨y89, hy89, hm⟩ := bindE hm
  refine s_reg [(.string ⟨⟨y89⟩⟩)] [0, 2, 4, 6] [(0, [], .string ⟨⟨s⟩⟩), (2, [], .pointer (some ⟨b1, 0, none⟩)), (4, [], .pointer (some ⟨b16, 0, none⟩)), (6, [], .string ⟨⟨y89⟩⟩)] [fun wz => RetB Tryd.prog 34 ⟨[.string ⟨⟨s_z37.1⟩⟩, .int .i64 3]⟩ (.string ⟨⟨y89⟩⟩) wz] H (by kernel_rfl) ⟨((r40_after_ok _ _ _ hy89).b), trivial⟩ fun _ wd90 H91 hb => ?_
  clear H
  replace hS := hS.below hb
  clear hb
  obtain ⟨z92, hz, hm⟩ := bindE hm
  refine w_cut (fun a' w' => ∃ (g134 : Gh), Fr 119 [(0, [], .string ⟨⟨s⟩⟩), (2, [], .pointer (some ⟨b1, 0, none⟩)), (4, [], .pointer (some ⟨b16, 0, none⟩))] a' ∧ SH M X w [Ent.own 3 (tI .i64) z92 g134, Ent.own 9 tS s_z37.2 g87, Ent.blk b16 [.int .i64 y19.1, .int .i64 y27.1, .slice g87.a s_z37.2.length g87.c, .slice g134.a z92.length g134.c], Ent.blk b1 [.int .i64 0, .int .i64 0, .slice none 0 0, .slice none 0 0]] w') ?_ ?_
  ·replace hm := hz
   refine w_block ?_
   replace hS : SH M X w [Ent.own 3 (tI .i64) ([] : List Int) (.nil), Ent.own 9 tS s_z37.2 g87, Ent.blk b16 [.int .i64 y19.1, .int .i64 y27.1, .slice g87.a s_z37.2.length g87.c, .slice none 0 0], Ent.blk b1 [.int .i64 0, .int .i64 0, .slice none 0 0, .slice none 0 0]] _ := hS.addNil 3 (tI .i64)
   refine w_loop (fun kk a' w' => ∃ (v94 : Str) (v95 : List Int) (g96 : Gh), r40_ReadLine_L2 m  kk v94 v95 = some _ ∧ Fr 119 [(0, [], .string ⟨⟨s⟩⟩), (2, [], .pointer (some ⟨b1, 0, none⟩)), (4, [], .pointer (some ⟨b16, 0, none⟩)), (6, [], .string ⟨⟨v94⟩⟩)] a' ∧ SH M X w [Ent.own 3 (tI .i64) v95 g96, Ent.own 9 tS s_z37.2 g87, Ent.blk b16 [.int .i64 y19.1, .int .i64 y27.1, .slice g87.a s_z37.2.length g87.c, .slice g96.a v95.length g96.c], Ent.blk b1 [.int .i64 0, .int .i64 0, .slice none 0 0, .slice none 0 0]] w') ⟨_, y89, ([] : List Int), Gh.nil, hm, FrG.keep (ks := [0, 2, 4, 6]) H91 (by kernel_rfl), hS⟩ ?_
   clear hm H91 hS
   rintro kk _ wd133 ⟨v94, v95, g96, hm, H, hS⟩
   cases kk with
   | zero => exact noneE hm
   | succ kk =>
    rw [r40_ReadLine_L2] at hm
    refine w_seq ?_
    obtain ⟨x97, hx97, hm⟩ := letE hm
    refine s_reg [(.slice g96.a v95.length g96.c)] [0, 2, 4, 6, 80] [(0, [], .string ⟨⟨s⟩⟩), (2, [], .pointer (some ⟨b1, 0, none⟩)), (4, [], .pointer (some ⟨b16, 0, none⟩)), (6, [], .string ⟨⟨v94⟩⟩), (80, [], .bool x97)] [fun wz => ((decide (1 < (ln v94))) = true ∧ True → V.at1 ⟨b16, 3, none⟩ (.slice g96.a v95.length g96.c) wz)] H (by subst hx97; kernel_rfl) ⟨fun hg => (hS.bk 2 rfl).at1 rfl, trivial⟩ fun _ wd98 H99 hb => ?_
    clear H
    replace hS := hS.below hb
    clear hb
    refine w_if H99 rfl (fun hc => ?_) (fun hc => ?c132)
    case c132 =>
     replace hm := bF hc hm
     refine w_exit rfl ?_
     obtain rfl := someE hm
     exact ⟨g96, FrG.keep (ks := [0, 2, 4]) H99 (by kernel_rfl), hS⟩
    replace hm := bT hc hm
    refine w_skip ?_
    refine w_block ?_
    refine w_seq ?_
    refine wl_start ?_
    refine wl_batch 0 2 [(.slice g96.a v95.length g96.c)] [0, 2, 4, 6, 82] [(0, [], .string ⟨⟨s⟩⟩), (2, [], .pointer (some ⟨b1, 0, none⟩)), (4, [], .pointer (some ⟨b16, 0, none⟩)), (6, [], .string ⟨⟨v94⟩⟩), (82, [], .slice g96.a v95.length g96.c)] [fun wz => V.at1 ⟨b16, 3, none⟩ (.slice g96.a v95.length g96.c) wz] H99 (by decide) (by kernel_rfl) ⟨((hS.bk 2 rfl).at1 rfl), trivial⟩ fun _ wd100 H101 hb => ?_
    clear H99
    replace hS := hS.below hb
    clear hb
    have hd := hS.hand [] [0, 1, 2, 3] rfl rfl
    refine m_stp [83, 0, 2, 4, 6, 82] [(0, [], .string ⟨⟨s⟩⟩), (2, [], .pointer (some ⟨b1, 0, none⟩)), (4, [], .pointer (some ⟨b16, 0, none⟩)), (6, [], .string ⟨⟨v94⟩⟩), (82, [], .slice g96.a v95.length g96.c)] H101 rfl rfl rfl rfl (o_lit (T := (tI .i64)) (E := 3) (zv := .int .i64 0) [.int .i64 0] ([0] : List Int) [gL []] _ H101 hd rfl (by kernel_rfl) (by kernel_rfl) (by kernel_rfl) (by kernel_rfl) (by kernel_rfl) (by kernel_rfl) (by kernel_rfl) rfl (InnL.cons trivial InnL.nil)) (fun _ => rfl) fun _ wd104 v H105 hq => ?_
    clear H101 hd
    obtain ⟨g102, rfl, hq⟩ := hq
    replace hS : SH M X w [Ent.own 3 (tI .i64) ([0] : List Int) g102, Ent.own 3 (tI .i64) v95 g96, Ent.own 9 tS s_z37.2 g87, Ent.blk b16 [.int .i64 y19.1, .int .i64 y27.1, .slice g87.a s_z37.2.length g87.c, .slice g96.a v95.length g96.c], Ent.blk b1 [.int .i64 0, .int .i64 0, .slice none 0 0, .slice none 0 0]] _ := hS.join [] [0, 1, 2, 3] rfl rfl hq
    clear hq
    obtain ⟨ho106, hm⟩ := chkE hm
    obtain ⟨q107, hq107, hm⟩ := letE hm
    have hd := hS.hand [1, 0] [2, 3, 4] rfl rfl
    refine m_stp [84, 0, 2, 4, 6] [(0, [], .string ⟨⟨s⟩⟩), (2, [], .pointer (some ⟨b1, 0, none⟩)), (4, [], .pointer (some ⟨b16, 0, none⟩)), (6, [], .string ⟨⟨v94⟩⟩)] H105 rfl rfl rfl rfl (o_app2 (T := (tI .i64)) (zv := .int .i64 0) (g1 := g96) (g2 := g102) (l1 := v95) (l2 := ([0] : List Int)) q107 hq107.symm H105 hd rfl rfl rfl rfl rfl rfl rfl (by kernel_rfl) (by kernel_rfl) rfl rfl ho106) (fun _ => rfl) fun _ wd108 v H109 hq => ?_
    clear H105 hd
    obtain ⟨g110, rfl, hq⟩ := hq
    replace hS : SH M X w [Ent.own 3 (tI .i64) q107 g110, Ent.own 3 (tI .i64) ([0] : List Int) g102, Ent.own 9 tS s_z37.2 g87, Ent.blk b16 [.int .i64 y19.1, .int .i64 y27.1, .slice g87.a s_z37.2.length g87.c, .slice g96.a v95.length g96.c], Ent.blk b1 [.int .i64 0, .int .i64 0, .slice none 0 0, .slice none 0 0]] _ := hS.join [1, 0] [2, 3, 4] rfl rfl hq
    clear hq
    refine wl_batch 4 5 [] [0, 2, 4, 6, 84, 85] [(0, [], .string ⟨⟨s⟩⟩), (2, [], .pointer (some ⟨b1, 0, none⟩)), (4, [], .pointer (some ⟨b16, 0, none⟩)), (6, [], .string ⟨⟨v94⟩⟩), (84, [], .slice g110.a q107.length g110.c), (85, [], .pointer (some ⟨b16, 3, none⟩))] [] H109 (by decide) (by kernel_rfl) trivial fun _ wd111 H112 hb => ?_
    clear H109
    replace hS := hS.below hb
    clear hb
    have hd := hS.hand [3] [0, 1, 2, 4] rfl rfl
    refine m_stp0 [0, 2, 4, 6] [(0, [], .string ⟨⟨s⟩⟩), (2, [], .pointer (some ⟨b1, 0, none⟩)), (4, [], .pointer (some ⟨b16, 0, none⟩)), (6, [], .string ⟨⟨v94⟩⟩)] H112 rfl rfl rfl (o_store [.int .i64 y19.1, .int .i64 y27.1, .slice g87.a s_z37.2.length g87.c, .slice g110.a q107.length g110.c] H112 hd rfl rfl (by kernel_rfl) rfl rfl rfl) rfl fun _ wd113 H114 hq => ?_
    clear H112 hd
    obtain ⟨_, hq⟩ := hq
    replace hS : SH M X w [Ent.blk b16 [.int .i64 y19.1, .int .i64 y27.1, .slice g87.a s_z37.2.length g87.c, .slice g110.a q107.length g110.c], Ent.own 3 (tI .i64) q107 g110, Ent.own 3 (tI .i64) ([0] : List Int) g102, Ent.own 9 tS s_z37.2 g87, Ent.blk b1 [.int .i64 0, .int .i64 0, .slice none 0 0, .slice none 0 0]] _ := hS.join [3] [0, 1, 2, 4] rfl rfl hq
    clear hq
    refine wl_end rfl ?_
    replace hS : SH M X w [Ent.blk b16 [.int .i64 y19.1, .int .i64 y27.1, .slice g87.a s_z37.2.length g87.c, .slice g110.a q107.length g110.c], Ent.own 3 (tI .i64) q107 g110, Ent.own 9 tS s_z37.2 g87, Ent.blk b1 [.int .i64 0, .int .i64 0, .slice none 0 0, .slice none 0 0]] _ := hS.sel [0, 1, 3, 4] rfl
    obtain ⟨y116, hy116, hm⟩ := bindE hm
    obtain ⟨ho117, hm⟩ := chkE hm
    obtain ⟨q119, hq119, hm⟩ := letE hm
    refine s_drawS (base := [(0, [], .string ⟨⟨s⟩⟩), (2, [], .pointer (some ⟨b1, 0, none⟩)), (4, [], .pointer (some ⟨b16, 0, none⟩))]) (L := [Ent.blk b16 [.int .i64 y19.1, .int .i64 y27.1, .slice g87.a s_z37.2.length g87.c, .slice g110.a q107.length g110.c], Ent.own 3 (tI .i64) q107 g110, Ent.own 9 tS s_z37.2 g87, Ent.blk b1 [.int .i64 0, .int .i64 0, .slice none 0 0, .slice none 0 0]]) 14 4 (fun yg115 => [.pointer (some ⟨b16, 3, none⟩), .slice g110.a q107.length g110.c, .pointer (some ⟨b16, 3, none⟩), .slice g110.a q107.length g110.c, .int .i64 (ln q107), .int .i64 (w64 ((ln q107) - 1)), .string ⟨⟨v94⟩⟩, .tuple ⟨[.int .i64 y116.1, .string ⟨⟨y116.2⟩⟩]⟩, .tuple ⟨[.int .i64 y116.1, .string ⟨⟨y116.2⟩⟩]⟩, .int .i64 y116.1, .string ⟨⟨y116.2⟩⟩, .pointer (some ⟨ab g110.a, ao g110.a + ((w64 ((ln q107) - 1))).toNat * 1, none⟩), undef, .string ⟨⟨y116.2⟩⟩]) (fun yg115 => [[], [], [], [], [], [], [], [], [], [], [], [], [Ent.own 3 (tI .i64) q119 (Gh.mk g110.a g110.c (yg115 12 0).s)], []]) [[14, 15, 16], [14, 15, 16], [14, 15, 16], [14, 15, 16], [15], [], [], [], [], [], [], [15], [15], []] [[], [], [], [], [], [], [], [], [], [], [], [], [15], []] [[0], [0, 1], [2], [2, 3], [2, 3, 4], [2, 3, 4, 5], [6], [6, 7], [6, 7, 8], [6, 7, 8, 9], [6, 7, 8, 10], [0, 1, 2, 3, 4, 5, 11], [0, 1, 2, 3, 4, 5, 6, 7, 8, 9, 11, 12], [6, 7, 8, 10, 13]] [(6, 13, .string ⟨⟨v94⟩⟩)] (FrG.keep (ks := [0, 2, 4]) H114 (by kernel_rfl)) (fun k e h => by rcases k with _ | k <;> first | (obtain rfl := Option.some.inj h; exact FrG.slot H114 (by kernel_rfl)) | cases h) (by kernel_rfl) hS (by kernel_rfl) rfl rfl (by kernel_rfl) (by kernel_rfl) (by kernel_rfl) (gd_none (by kernel_rfl) _ _) ?hloc_yg115 ?hstep_yg115 fun _ wd120 yg115 H121 hv hS => ?hK_yg115
    case hloc_yg115 => exact ⟨(fun _ _ _ _ => ⟨rfl, rfl⟩), (fun _ _ _ _ => ⟨rfl, rfl⟩), (fun _ _ _ _ => ⟨rfl, rfl⟩), (fun _ _ _ _ => ⟨rfl, rfl⟩), (fun _ _ _ _ => ⟨rfl, rfl⟩), (fun _ _ _ _ => ⟨rfl, rfl⟩), (fun _ _ _ _ => ⟨rfl, rfl⟩), (fun _ _ _ _ => ⟨rfl, rfl⟩), (fun _ _ _ _ => ⟨rfl, rfl⟩), (fun _ _ _ _ => ⟨rfl, rfl⟩), (fun _ _ _ _ => ⟨rfl, rfl⟩), (fun _ _ _ _ => ⟨rfl, rfl⟩), (fun yg115 i g hi => by have h12 : updC yg115 i g 12 = yg115 12 := updC_out hi rfl; exact ⟨(show (undef : Value) = undef by simp only [h12]), (show ([Ent.own 3 (tI .i64) q119 (Gh.mk g110.a g110.c ((updC yg115 i g) 12 0).s)] : List Ent) = [Ent.own 3 (tI .i64) q119 (Gh.mk g110.a g110.c (yg115 12 0).s)] by simp only [h12])⟩), (fun _ _ _ _ => ⟨rfl, rfl⟩), trivial⟩
    case hstep_yg115 =>
     refine ⟨?_, ?_, ?_, ?_, ?_, ?_, ?_, ?_, ?_, ?_, ?_, ?_, ?_, ?_, trivial⟩
     ·intro o ho a w yg115 M Hb hv hO hS
      obtain rfl := Option.some.inj ho
      exact Stp.mono (o_evs [] (.pointer (some ⟨b16, 3, none⟩)) none [] Hb rfl (by kernel_rfl) (fun q e => by cases e)) fun _ _ hq => ⟨gL [], fun _ _ => hq.1, (hS.below hq.2.below).sel [0, 1, 2] rfl⟩
     ·intro o ho a w yg115 M Hb hv hO hS
      obtain rfl := Option.some.inj ho
      exact Stp.mono (o_evs [(.slice g110.a q107.length g110.c)] (.slice g110.a q107.length g110.c) (some (fun wz => V.at1 ⟨b16, 3, none⟩ (.slice g110.a q107.length g110.c) wz)) [] ((Hb).add (hv 0 (by decide) (by decide) 87 rfl)) rfl (by kernel_rfl) (fun q e => by cases e; exact ((hS.bk 0 rfl).at1 rfl))) fun _ _ hq => ⟨gL [], fun _ _ => hq.1, (hS.below hq.2.below).sel [0, 1, 2] rfl⟩
     ·intro o ho a w yg115 M Hb hv hO hS
      obtain rfl := Option.some.inj ho
      exact Stp.mono (o_evs [] (.pointer (some ⟨b16, 3, none⟩)) none [] Hb rfl (by kernel_rfl) (fun q e => by cases e)) fun _ _ hq => ⟨gL [], fun _ _ => hq.1, (hS.below hq.2.below).sel [0, 1, 2] rfl⟩
     ·intro o ho a w yg115 M Hb hv hO hS
      obtain rfl := Option.some.inj ho
      exact Stp.mono (o_evs [(.slice g110.a q107.length g110.c)] (.slice g110.a q107.length g110.c) (some (fun wz => V.at1 ⟨b16, 3, none⟩ (.slice g110.a q107.length g110.c) wz)) [] ((Hb).add (hv 2 (by decide) (by decide) 89 rfl)) rfl (by kernel_rfl) (fun q e => by cases e; exact ((hS.bk 0 rfl).at1 rfl))) fun _ _ hq => ⟨gL [], fun _ _ => hq.1, (hS.below hq.2.below).sel [0, 1, 2] rfl⟩
     ·intro o ho a w yg115 M Hb hv hO hS
      obtain rfl := Option.some.inj ho
      exact Stp.mono (o_evs [] (.int .i64 (ln q107)) none [] ((Hb).add (hv 3 (by decide) (by decide) 90 rfl)) rfl (by kernel_rfl) (fun q e => by cases e)) fun _ _ hq => ⟨gL [], fun _ _ => hq.1, (hS.below hq.2.below).sel [0] rfl⟩
     ·intro o ho a w yg115 M Hb hv hO hS
      obtain rfl := Option.some.inj ho
      exact Stp.mono (o_evs [] (.int .i64 (w64 ((ln q107) - 1))) none [] ((Hb).add (hv 4 (by decide) (by decide) 91 rfl)) rfl (by kernel_rfl) (fun q e => by cases e)) fun _ _ hq => ⟨gL [], fun _ _ => hq.1, (hS.below hq.2.below).sel [] rfl⟩
     ·intro o ho a w yg115 M Hb hv hO hS
      obtain rfl := Option.some.inj ho
      exact Stp.mono (o_evs [] (.string ⟨⟨v94⟩⟩) none [] ((Hb).add (hO 0 _ rfl (by kernel_rfl))) rfl (by kernel_rfl) (fun q e => by cases e)) fun _ _ hq => ⟨gL [], fun _ _ => hq.1, (hS.below hq.2.below).sel [] rfl⟩
     ·intro o ho a w yg115 M Hb hv hO hS
      obtain rfl := Option.some.inj ho
      exact Stp.mono (o_evs [(.tuple ⟨[.int .i64 y116.1, .string ⟨⟨y116.2⟩⟩]⟩)] (.tuple ⟨[.int .i64 y116.1, .string ⟨⟨y116.2⟩⟩]⟩) (some (fun wz => RetB Tryd.prog 33 ⟨[.string ⟨⟨v94⟩⟩]⟩ (.tuple ⟨[.int .i64 y116.1, .string ⟨⟨y116.2⟩⟩]⟩) wz)) [] ((Hb).add (hv 6 (by decide) (by decide) 93 rfl)) rfl (by kernel_rfl) (fun q e => by cases e; exact ((r40_number_ok m _ _ hy116).b))) fun _ _ hq => ⟨gL [], fun _ _ => hq.1, (hS.below hq.2.below).sel [] rfl⟩
     ·intro o ho a w yg115 M Hb hv hO hS
      obtain rfl := Option.some.inj ho
      exact Stp.mono (o_evs [] (.tuple ⟨[.int .i64 y116.1, .string ⟨⟨y116.2⟩⟩]⟩) none [] ((Hb).add (hv 7 (by decide) (by decide) 94 rfl)) rfl (by kernel_rfl) (fun q e => by cases e)) fun _ _ hq => ⟨gL [], fun _ _ => hq.1, (hS.below hq.2.below).sel [] rfl⟩
     ·intro o ho a w yg115 M Hb hv hO hS
      obtain rfl := Option.some.inj ho
      exact Stp.mono (o_evs [] (.int .i64 y116.1) none [] ((Hb).add (hv 8 (by decide) (by decide) 86 rfl)) rfl (by kernel_rfl) (fun q e => by cases e)) fun _ _ hq => ⟨gL [], fun _ _ => hq.1, (hS.below hq.2.below).sel [] rfl⟩
     ·intro o ho a w yg115 M Hb hv hO hS
      obtain rfl := Option.some.inj ho
      exact Stp.mono (o_evs [] (.string ⟨⟨y116.2⟩⟩) none [] ((Hb).add (hv 8 (by decide) (by decide) 86 rfl)) rfl (by kernel_rfl) (fun q e => by cases e)) fun _ _ hq => ⟨gL [], fun _ _ => hq.1, (hS.below hq.2.below).sel [] rfl⟩
     ·intro o ho a w yg115 M Hb hv hO hS
      obtain rfl := Option.some.inj ho
      exact Stp.mono (o_evs [] (.pointer (some ⟨ab g110.a, ao g110.a + ((w64 ((ln q107) - 1))).toNat * 1, none⟩)) (some (fun _ => oka g110.a ∧ 0 ≤ (w64 ((ln q107) - 1)) ∧ (w64 ((ln q107) - 1)) < ln q107)) [] (((Hb).add (hv 1 (by decide) (by decide) 88 rfl)).add (hv 5 (by decide) (by decide) 92 rfl)) rfl (by kernel_rfl) (fun q e => by cases e; exact ((hS.osl 0 rfl).oki ho117))) fun _ _ hq => ⟨gL [], fun _ _ => hq.1, (hS.below hq.2.below).sel [0] rfl⟩
     ·intro o ho a w yg115 M Hb hv hO hS0
      obtain rfl := Option.some.inj ho
      have H : Fr 119 ([(97, [], .pointer (some ⟨ab g110.a, ao g110.a + ((w64 ((ln q107) - 1))).toNat * 1, none⟩)), (95, [], .int .i64 y116.1)] ++ [(0, [], .string ⟨⟨s⟩⟩), (2, [], .pointer (some ⟨b1, 0, none⟩)), (4, [], .pointer (some ⟨b16, 0, none⟩))]) _ := ((Hb).add (hv 9 (by decide) (by decide) 95 rfl)).add (hv 11 (by decide) (by decide) 97 rfl)
      obtain ⟨X, hX⟩ : ∃ X, X = fpl [Ent.own 3 (tI .i64) q107 g110] := ⟨_, rfl⟩
      have hS : SH M X w [Ent.own 3 (tI .i64) q107 g110] w := by rw [hX]; exact hS0
      have hd := hS.hand [0] [] rfl rfl
      refine Stp.mono (o_estore (T := (tI .i64)) (g := g110) (q := q107) (ix := (w64 ((ln q107) - 1))) (off := 0) y116.1 (gL []) H hd rfl rfl rfl rfl (by kernel_rfl) rfl rfl ho117 rfl trivial rfl) ?_
      rintro v w2 hq
      obtain ⟨s118, hq⟩ := hq
      rw [← hq119] at hq
      have hn : q107.length = q119.length := by rw [hq119, setl_len]
      clear hn
      replace hS : SH M X w [Ent.own 3 (tI .i64) q119 (Gh.mk g110.a g110.c s118)] _ := hS.join [0] [] rfl rfl hq
      clear hq
      rw [hX] at hS
      exact ⟨gL [Gh.mk none 0 s118], (fun _ h => by cases h), hS.sel [0] rfl⟩
     ·intro o ho a w yg115 M Hb hv hO hS
      obtain rfl := Option.some.inj ho
      exact Stp.mono (o_evs [] (.string ⟨⟨y116.2⟩⟩) none [] ((Hb).add (hv 10 (by decide) (by decide) 96 rfl)) rfl (by kernel_rfl) (fun q e => by cases e)) fun _ _ hq => ⟨gL [], fun _ _ => hq.1, (hS.below hq.2.below).sel [] rfl⟩
    have H122 : Fr 119 [(6, [], .string ⟨⟨y116.2⟩⟩), (0, [], .string ⟨⟨s⟩⟩), (2, [], .pointer (some ⟨b1, 0, none⟩)), (4, [], .pointer (some ⟨b16, 0, none⟩))] _ := (FrG.add (FrG.keep (ks := [0, 2, 4]) H121 (by kernel_rfl)) (hv 13 6 rfl))
    replace hS : SH M X w [Ent.own 3 (tI .i64) q119 (Gh.mk g110.a g110.c (yg115 12 0).s), Ent.blk b16 [.int .i64 y19.1, .int .i64 y27.1, .slice g87.a s_z37.2.length g87.c, .slice g110.a q107.length g110.c], Ent.own 9 tS s_z37.2 g87, Ent.blk b1 [.int .i64 0, .int .i64 0, .slice none 0 0, .slice none 0 0]] _ := hS
    clear hv H121
    have hn : q107.length = q119.length := by rw [hq119, setl_len]
    first | rw [hn] at hS | skip
    first | rw [hn] at H122 | skip
    clear hn
    replace hS : SH M X w [Ent.own 3 (tI .i64) q119 (Gh.mk g110.a g110.c (yg115 12 0).s), Ent.blk b16 [.int .i64 y19.1, .int .i64 y27.1, .slice g87.a s_z37.2.length g87.c, .slice (Gh.mk g110.a g110.c (yg115 12 0).s).a q119.length (Gh.mk g110.a g110.c (yg115 12 0).s).c], Ent.own 9 tS s_z37.2 g87, Ent.blk b1 [.int .i64 0, .int .i64 0, .slice none 0 0, .slice none 0 0]] _ := hS
    generalize yg115 12 0 = g123 at H122 hS
    obtain ⟨ho124, hm⟩ := chkE hm
    obtain ⟨x125, hx125, hm⟩ := letE hm
    refine s_reg [] [0, 2, 4, 6, 105] [(0, [], .string ⟨⟨s⟩⟩), (2, [], .pointer (some ⟨b1, 0, none⟩)), (4, [], .pointer (some ⟨b16, 0, none⟩)), (6, [], .string ⟨⟨y116.2⟩⟩), (105, [], .bool x125)] [fun _ => ((decide (0 < (ln y116.2))) = true ∧ True → 0 ≤ (0 : Int) ∧ (0 : Int) < ln y116.2)] H122 (by subst hx125; kernel_rfl) ⟨fun hg => (ho124 hg.1), trivial⟩ fun _ wd126 H127 hb => ?_
    clear H122
    replace hS := hS.below hb
    clear hb
    refine w_if H127 rfl (fun hc => ?_) (fun hc => ?c131)
    case c131 =>
     replace hm := bF hc hm
     refine w_exit rfl ?_
     obtain rfl := someE hm
     replace hS : SH M X w [Ent.own 3 (tI .i64) q119 (Gh.mk g110.a g110.c g123.s), Ent.own 9 tS s_z37.2 g87, Ent.blk b16 [.int .i64 y19.1, .int .i64 y27.1, .slice g87.a s_z37.2.length g87.c, .slice (Gh.mk g110.a g110.c g123.s).a q119.length (Gh.mk g110.a g110.c g123.s).c], Ent.blk b1 [.int .i64 0, .int .i64 0, .slice none 0 0, .slice none 0 0]] _ := hS.sel [0, 2, 1, 3] rfl
     exact ⟨(Gh.mk g110.a g110.c g123.s), FrG.keep (ks := [0, 2, 4]) H127 (by kernel_rfl), hS⟩
    replace hm := bT hc hm
    obtain ⟨y128, hy128, hm⟩ := bindE hm
    refine w_reg [(.string ⟨⟨y128⟩⟩)] [0, 2, 4, 6] [(0, [], .string ⟨⟨s⟩⟩), (2, [], .pointer (some ⟨b1, 0, none⟩)), (4, [], .pointer (some ⟨b16, 0, none⟩)), (6, [], .string ⟨⟨y128⟩⟩)] [fun wz => RetB Tryd.prog 34 ⟨[.string ⟨⟨y116.2⟩⟩, .int .i64 2]⟩ (.string ⟨⟨y128⟩⟩) wz] H127 (by kernel_rfl) ⟨((r40_after_ok _ _ _ hy128).b), trivial⟩ fun _ wd129 H130 hb => ?_
    clear H127
    replace hS := hS.below hb
    clear hb
    replace hS : SH M X w [Ent.own 3 (tI .i64) q119 (Gh.mk g110.a g110.c g123.s), Ent.own 9 tS s_z37.2 g87, Ent.blk b16 [.int .i64 y19.1, .int .i64 y27.1, .slice g87.a s_z37.2.length g87.c, .slice (Gh.mk g110.a g110.c g123.s).a q119.length (Gh.mk g110.a g110.c g123.s).c], Ent.blk b1 [.int .i64 0, .int .i64 0, .slice none 0 0, .slice none 0 0]] _ := hS.sel [0, 2, 1, 3] rfl
    exact ⟨_, Nat.lt_succ_self _, y128, q119, (Gh.mk g110.a g110.c g123.s), hm, FrG.keep (ks := [0, 2, 4, 6]) H130 (by kernel_rfl), hS⟩
  ·rintro _ wd155 ⟨g134, H, hS⟩
   refine w_seq ?_
   obtain ⟨y136, hy136, hm⟩ := bindE hm
   obtain ⟨y137, hy137, hm⟩ := bindE hm
   refine s_reg [(.agg ⟨[.int .i64 y19.1, .int .i64 y27.1, .slice g87.a s_z37.2.length g87.c, .slice g134.a z92.length g134.c]⟩), (.int .i64 y136), (.agg ⟨[.int .i64 y19.1, .int .i64 y27.1, .slice g87.a s_z37.2.length g87.c, .slice g134.a z92.length g134.c]⟩), (.string ⟨⟨y137⟩⟩)] [2, 4, 116] [(2, [], .pointer (some ⟨b1, 0, none⟩)), (4, [], .pointer (some ⟨b16, 0, none⟩)), (116, [], .bool (cond (y136 != 0) true (!(y137 == s))))] [fun wz => V.atN b16 0 [.int .i64 y19.1, .int .i64 y27.1, .slice g87.a s_z37.2.length g87.c, .slice g134.a z92.length g134.c] 0 wz, fun wz => RetB Tryd.prog 14 ⟨[.agg ⟨[.int .i64 y19.1, .int .i64 y27.1, .slice g87.a s_z37.2.length g87.c, .slice g134.a z92.length g134.c]⟩]⟩ (.int .i64 y136) wz, fun wz => ((y136 != 0) = false ∧ True → V.atN b16 0 [.int .i64 y19.1, .int .i64 y27.1, .slice g87.a s_z37.2.length g87.c, .slice g134.a z92.length g134.c] 0 wz), fun wz => ((y136 != 0) = false ∧ True → RetB Tryd.prog 31 ⟨[.agg ⟨[.int .i64 y19.1, .int .i64 y27.1, .slice g87.a s_z37.2.length g87.c, .slice g134.a z92.length g134.c]⟩]⟩ (.string ⟨⟨y137⟩⟩) wz)] H (by kernel_rfl) ⟨((hS.bk 2 rfl).atD rfl), (r40_Check_ok (g_a__0 := g87) (g_a__1 := g134) m _ _ hy136 _ (s0im (s0im s0nil (hS.osl 0 rfl)) (hS.osl 1 rfl))), fun hg => (hS.bk 2 rfl).atD rfl, fun hg => r40_Shown_ok (g_a__0 := g87) (g_a__1 := g134) m _ _ (bF (hg.1) hy137) _ (s0im (s0im s0nil (hS.osl 0 rfl)) (hS.osl 1 rfl)), trivial⟩ fun _ wd138 H139 hb => ?_
   clear H
   replace hS := hS.below hb
   clear hb
   refine w_if H139 rfl (fun hc => ?_) (fun hc => ?c154)
   case c154 =>
    replace hm := bF hc hm
    refine w_skip ?_
    refine w_seq ?_
    refine wl_start ?_
    refine wl_batch 0 1 [(.agg ⟨[.int .i64 y19.1, .int .i64 y27.1, .slice g87.a s_z37.2.length g87.c, .slice g134.a z92.length g134.c]⟩)] [2, 118] [(2, [], .pointer (some ⟨b1, 0, none⟩)), (118, [], .agg ⟨[.int .i64 y19.1, .int .i64 y27.1, .slice g87.a s_z37.2.length g87.c, .slice g134.a z92.length g134.c]⟩)] [fun wz => V.atN b16 0 [.int .i64 y19.1, .int .i64 y27.1, .slice g87.a s_z37.2.length g87.c, .slice g134.a z92.length g134.c] 0 wz] H139 (by decide) (by kernel_rfl) ⟨((hS.bk 2 rfl).atD rfl), trivial⟩ fun _ wd148 H149 hb => ?_
    clear H139
    replace hS := hS.below hb
    clear hb
    have hd := hS.hand [3] [0, 1, 2] rfl rfl
    refine m_stp0 [2] [(2, [], .pointer (some ⟨b1, 0, none⟩))] H149 rfl rfl rfl (o_store [.int .i64 y19.1, .int .i64 y27.1, .slice g87.a s_z37.2.length g87.c, .slice g134.a z92.length g134.c] H149 hd rfl rfl (by kernel_rfl) rfl rfl rfl) rfl fun _ wd150 H151 hq => ?_
    clear H149 hd
    obtain ⟨_, hq⟩ := hq
    replace hS : SH M X w [Ent.blk b1 [.int .i64 y19.1, .int .i64 y27.1, .slice g87.a s_z37.2.length g87.c, .slice g134.a z92.length g134.c], Ent.own 3 (tI .i64) z92 g134, Ent.own 9 tS s_z37.2 g87, Ent.blk b16 [.int .i64 y19.1, .int .i64 y27.1, .slice g87.a s_z37.2.length g87.c, .slice g134.a z92.length g134.c]] _ := hS.join [3] [0, 1, 2] rfl rfl hq
    clear hq
    refine wl_batch 2 3 [] [2, 3] [(2, [], .pointer (some ⟨b1, 0, none⟩)), (3, [], .int .i64 0)] [] H151 (by decide) (by kernel_rfl) trivial fun _ wd152 H153 hb => ?_
    clear H151
    replace hS := hS.below hb
    clear hb
    refine wl_end rfl ?_
    replace hS : SH M X w [Ent.blk b1 [.int .i64 y19.1, .int .i64 y27.1, .slice g87.a s_z37.2.length g87.c, .slice g134.a z92.length g134.c], Ent.own 3 (tI .i64) z92 g134, Ent.own 9 tS s_z37.2 g87] _ := hS.sel [0, 1, 2] rfl
    refine w_ret ?_
    obtain rfl := someE hm
    exact retR2 H153 rfl (oneRes_agg rfl (hS.bk 0 rfl) Tryd.underlying26 rfl (by kernel_rfl)) rfl ⟨_, rfl, g87, g134, rfl, (hS.sel [2, 1] rfl)⟩
   replace hm := bT hc hm
   refine w_seq ?_
   refine wl_start ?_
   refine wl_batch 0 1 [] [2, 117] [(2, [], .pointer (some ⟨b1, 0, none⟩)), (117, [], .agg ⟨[.int .i64 0, .int .i64 0, .slice none 0 0, .slice none 0 0]⟩)] [] H139 (by decide) (by kernel_rfl) trivial fun _ wd140 H141 hb => ?_
   clear H139
   replace hS := hS.below hb
   clear hb
   have hd := hS.hand [3] [0, 1, 2] rfl rfl
   refine m_stp0 [2] [(2, [], .pointer (some ⟨b1, 0, none⟩))] H141 rfl rfl rfl (o_store [.int .i64 0, .int .i64 0, .slice none 0 0, .slice none 0 0] H141 hd rfl rfl (by kernel_rfl) rfl rfl rfl) rfl fun _ wd142 H143 hq => ?_
   clear H141 hd
   obtain ⟨_, hq⟩ := hq
   replace hS : SH M X w [Ent.blk b1 [.int .i64 0, .int .i64 0, .slice none 0 0, .slice none 0 0], Ent.own 3 (tI .i64) z92 g134, Ent.own 9 tS s_z37.2 g87, Ent.blk b16 [.int .i64 y19.1, .int .i64 y27.1, .slice g87.a s_z37.2.length g87.c, .slice g134.a z92.length g134.c]] _ := hS.join [3] [0, 1, 2] rfl rfl hq
   clear hq
   refine wl_batch 2 3 [] [2, 3] [(2, [], .pointer (some ⟨b1, 0, none⟩)), (3, [], .int .i64 12)] [] H143 (by decide) (by kernel_rfl) trivial fun _ wd144 H145 hb => ?_
   clear H143
   replace hS := hS.below hb
   clear hb
   refine wl_end rfl ?_
   replace hS : SH M X w [Ent.blk b1 [.int .i64 0, .int .i64 0, .slice none 0 0, .slice none 0 0]] _ := hS.sel [0] rfl
   refine w_ret ?_
   obtain rfl := someE hm
   replace hS : SH M X w [Ent.own 9 tS ([] : List Str) (.nil), Ent.blk b1 [.int .i64 0, .int .i64 0, .slice none 0 0, .slice none 0 0]] _ := hS.addNil 9 tS
   replace hS : SH M X w [Ent.own 3 (tI .i64) ([] : List Int) (.nil), Ent.own 9 tS ([] : List Str) (.nil), Ent.blk b1 [.int .i64 0, .int .i64 0, .slice none 0 0, .slice none 0 0]] _ := hS.addNil 3 (tI .i64)
   exact retR2 H145 rfl (oneRes_agg rfl (hS.bk 2 rfl) Tryd.underlying26 rfl (by kernel_rfl)) rfl ⟨_, rfl, Gh.nil, Gh.nil, rfl, (hS.sel [1, 0] rfl)⟩
theorem r40_ReadLine_ok  (m : Nat) (s : Str) (r : TAnswer × Int) (hm : r40_ReadLine m s = some r) (M : Av) (w : World) (hS : S0 M [] w) : DoesX Tryd.prog 12 ⟨[.string ⟨⟨s⟩⟩]⟩ w (fun v w' => ∃ (g901 : Gh) (g903 : Gh), v = .tuple ⟨[.agg ⟨[.int .i64 r.1.Err, .int .i64 r.1.Num, .slice g901.a r.1.Texts.length g901.c, .slice g903.a r.1.Numbers.length g903.c]⟩, .int .i64 r.2]⟩ ∧ SH M (fpl []) w [Ent.own 9 tS r.1.Texts g901, Ent.own 3 (tI .i64) r.1.Numbers g903] w') := ⟨Tryd.call12 _, r40_ReadLine_w M m   s r hm w hS⟩

theorem r40_Same_w {g_a__0 : Gh} {g_a__1 : Gh} {g_b__0 : Gh} {g_b__1 : Gh} (M : Av) (m : Nat) (a_ : TAnswer) (b_ : TAnswer) (r : Bool) (hm : r40_Same m a_ b_ = some r) (w : World) (hS : S0 M [Ent.im tS a_.Texts g_a__0, Ent.im (tI .i64) a_.Numbers g_a__1, Ent.im tS b_.Texts g_b__0, Ent.im (tI .i64) b_.Numbers g_b__1] w) : Calls Tryd.prog 15 ⟨[.agg ⟨[.int .i64 a_.Err, .int .i64 a_.Num, .slice g_a__0.a a_.Texts.length g_a__0.c, .slice g_a__1.a a_.Numbers.length g_a__1.c]⟩, .agg ⟨[.int .i64 b_.Err, .int .i64 b_.Num, .slice g_b__0.a b_.Texts.length g_b__0.c, .slice g_b__1.a b_.Numbers.length g_b__1.c]⟩]⟩ w (fun e w' => ∃ v, e = .returned v ∧ v = .bool r ∧ SH M (fpl [Ent.im tS a_.Texts g_a__0, Ent.im (tI .i64) a_.Numbers g_a__1, Ent.im tS b_.Texts g_b__0, Ent.im (tI .i64) b_.Numbers g_b__1]) w [] w') := by
 rw [r40_Same] at hm
 have hS0 : SH M (fpl [Ent.im tS a_.Texts g_a__0, Ent.im (tI .i64) a_.Numbers g_a__1, Ent.im tS b_.Texts g_b__0, Ent.im (tI .i64) b_.Numbers g_b__1]) w [Ent.im tS a_.Texts g_a__0, Ent.im (tI .i64) a_.Numbers g_a__1, Ent.im tS b_.Texts g_b__0, Ent.im (tI .i64) b_.Numbers g_b__1] w := hS
 generalize hX : fpl [Ent.im tS a_.Texts g_a__0, Ent.im (tI .i64) a_.Numbers g_a__1, Ent.im tS b_.Texts g_b__0, Ent.im (tI .i64) b_.Numbers g_b__1] = X at hS0 ⊢
 clear hS hX
 have hS := hS0
 clear hS0
 refine calls_entryP Tryd.func15 rfl Tryd.ntmps15 rfl fun _ H => ?_
 refine w_seq ?_
 refine wl_start ?_
 have hd := hS.hand [] [0, 1, 2, 3] rfl rfl
 refine m_stp [2, 1] [(1, [], .agg ⟨[.int .i64 b_.Err, .int .i64 b_.Num, .slice g_b__0.a b_.Texts.length g_b__0.c, .slice g_b__1.a b_.Numbers.length g_b__1.c]⟩)] H rfl rfl rfl rfl (o_box [.int .i64 a_.Err, .int .i64 a_.Num, .slice g_a__0.a a_.Texts.length g_a__0.c, .slice g_a__1.a a_.Numbers.length g_a__1.c] H hd rfl rfl) (fun _ => rfl) fun _ wd2 v H3 hq => ?_
 clear H hd
 obtain ⟨b1, rfl, hq⟩ := hq
 replace hS : SH M X w [Ent.blk b1 [.int .i64 a_.Err, .int .i64 a_.Num, .slice g_a__0.a a_.Texts.length g_a__0.c, .slice g_a__1.a a_.Numbers.length g_a__1.c], Ent.im tS a_.Texts g_a__0, Ent.im (tI .i64) a_.Numbers g_a__1, Ent.im tS b_.Texts g_b__0, Ent.im (tI .i64) b_.Numbers g_b__1] _ := hS.join [] [0, 1, 2, 3] rfl rfl hq
 clear hq
 have hd := hS.hand [] [0, 1, 2, 3, 4] rfl rfl
 refine m_stp [3, 2] [(2, [], .pointer (some ⟨b1, 0, none⟩))] H3 rfl rfl rfl rfl (o_box [.int .i64 b_.Err, .int .i64 b_.Num, .slice g_b__0.a b_.Texts.length g_b__0.c, .slice g_b__1.a b_.Numbers.length g_b__1.c] H3 hd rfl rfl) (fun _ => rfl) fun _ wd5 v H6 hq => ?_
 clear H3 hd
 obtain ⟨b4, rfl, hq⟩ := hq
 replace hS : SH M X w [Ent.blk b4 [.int .i64 b_.Err, .int .i64 b_.Num, .slice g_b__0.a b_.Texts.length g_b__0.c, .slice g_b__1.a b_.Numbers.length g_b__1.c], Ent.blk b1 [.int .i64 a_.Err, .int .i64 a_.Num, .slice g_a__0.a a_.Texts.length g_a__0.c, .slice g_a__1.a a_.Numbers.length g_a__1.c], Ent.im tS a_.Texts g_a__0, Ent.im (tI .i64) a_.Numbers g_a__1, Ent.im tS b_.Texts g_b__0, Ent.im (tI .i64) b_.Numbers g_b__1] _ := hS.join [] [0, 1, 2, 3, 4] rfl rfl hq
 clear hq
 refine wl_batch 2 3 [] [2, 3] [(2, [], .pointer (some ⟨b1, 0, none⟩)), (3, [], .pointer (some ⟨b4, 0, none⟩))] [] H6 (by decide) (by kernel_rfl) trivial fun _ wd7 H8 hb => ?_
 clear H6
 replace hS := hS.below hb
 clear hb
 refine wl_end rfl ?_
 refine w_seq ?_
 obtain ⟨x9, hx9, hm⟩ := letE hm
 obtain ⟨x10, hx10, hm⟩ := letE hm
 obtain ⟨x11, hx11, hm⟩ := letE hm
 refine s_reg [(.int .i64 a_.Err), (.int .i64 b_.Err), (.int .i64 a_.Num), (.int .i64 b_.Num), (.slice g_a__0.a a_.Texts.length g_a__0.c), (.slice g_b__0.a b_.Texts.length g_b__0.c), (.slice g_a__1.a a_.Numbers.length g_a__1.c), (.slice g_b__1.a b_.Numbers.length g_b__1.c)] [2, 3, 36] [(2, [], .pointer (some ⟨b1, 0, none⟩)), (3, [], .pointer (some ⟨b4, 0, none⟩)), (36, [], .bool x11)] [fun wz => V.at1 ⟨b1, 0, none⟩ (.int .i64 a_.Err) wz, fun wz => V.at1 ⟨b4, 0, none⟩ (.int .i64 b_.Err) wz, fun wz => ((a_.Err != b_.Err) = false ∧ True → V.at1 ⟨b1, 1, none⟩ (.int .i64 a_.Num) wz), fun wz => ((a_.Err != b_.Err) = false ∧ True → V.at1 ⟨b4, 1, none⟩ (.int .i64 b_.Num) wz), fun wz => (x9 = false ∧ True → V.at1 ⟨b1, 2, none⟩ (.slice g_a__0.a a_.Texts.length g_a__0.c) wz), fun wz => (x9 = false ∧ True → V.at1 ⟨b4, 2, none⟩ (.slice g_b__0.a b_.Texts.length g_b__0.c) wz), fun wz => (x10 = false ∧ True → V.at1 ⟨b1, 3, none⟩ (.slice g_a__1.a a_.Numbers.length g_a__1.c) wz), fun wz => (x10 = false ∧ True → V.at1 ⟨b4, 3, none⟩ (.slice g_b__1.a b_.Numbers.length g_b__1.c) wz)] H8 (by subst hx9 hx10 hx11; kernel_rfl) ⟨((hS.bk 1 rfl).at1 rfl), ((hS.bk 0 rfl).at1 rfl), fun hg => (hS.bk 1 rfl).at1 rfl, fun hg => (hS.bk 0 rfl).at1 rfl, fun hg => (hS.bk 1 rfl).at1 rfl, fun hg => (hS.bk 0 rfl).at1 rfl, fun hg => (hS.bk 1 rfl).at1 rfl, fun hg => (hS.bk 0 rfl).at1 rfl, trivial⟩ fun _ wd12 H13 hb => ?_
 clear H8
 replace hS := hS.below hb
 clear hb
 refine w_if H13 rfl (fun hc => ?c56) (fun hc => ?_)
 case c56 =>
  replace hm := bT hc hm
  refine s_reg [] [4] [(4, [], .bool false)] [] H13 (by kernel_rfl) trivial fun _ wd14 H15 hb => ?_
  clear H13
  replace hS := hS.below hb
  clear hb
  replace hS : SH M X w [] _ := hS.sel [] rfl
  refine w_ret ?_
  obtain rfl := someE hm
  exact retR1 H15 rfl rfl ⟨_, rfl, rfl, (hS.sel [] rfl)⟩
 replace hm := bF hc hm
 refine w_skip ?_
 obtain ⟨z16, hz, hm_z16⟩ := bindE hm
 refine w_cut (fun a' w' => ∃ s_z16 : Unit, z16 = Sum.inr s_z16 ∧ Fr 73 [(2, [], .pointer (some ⟨b1, 0, none⟩)), (3, [], .pointer (some ⟨b4, 0, none⟩))] a' ∧ SH M X w [Ent.blk b4 [.int .i64 b_.Err, .int .i64 b_.Num, .slice g_b__0.a b_.Texts.length g_b__0.c, .slice g_b__1.a b_.Numbers.length g_b__1.c], Ent.blk b1 [.int .i64 a_.Err, .int .i64 a_.Num, .slice g_a__0.a a_.Texts.length g_a__0.c, .slice g_a__1.a a_.Numbers.length g_a__1.c], Ent.im tS a_.Texts g_a__0, Ent.im (tI .i64) a_.Numbers g_a__1, Ent.im tS b_.Texts g_b__0, Ent.im (tI .i64) b_.Numbers g_b__1] w') ?_ ?_
 ·replace hm := hz
  refine s_reg [] [2, 3, 5] [(2, [], .pointer (some ⟨b1, 0, none⟩)), (3, [], .pointer (some ⟨b4, 0, none⟩)), (5, [], .int .i64 0)] [] H13 (by kernel_rfl) trivial fun _ wd17 H18 hb => ?_
  clear H13
  replace hS := hS.below hb
  clear hb
  refine w_block ?_
  refine w_loop (fun kk a' w' => ∃ (v19 : Int), r40_Same_L1 m a_ b_ kk v19 = some _ ∧ Fr 73 [(2, [], .pointer (some ⟨b1, 0, none⟩)), (3, [], .pointer (some ⟨b4, 0, none⟩)), (5, [], .int .i64 v19)] a' ∧ SH M X w [Ent.blk b4 [.int .i64 b_.Err, .int .i64 b_.Num, .slice g_b__0.a b_.Texts.length g_b__0.c, .slice g_b__1.a b_.Numbers.length g_b__1.c], Ent.blk b1 [.int .i64 a_.Err, .int .i64 a_.Num, .slice g_a__0.a a_.Texts.length g_a__0.c, .slice g_a__1.a a_.Numbers.length g_a__1.c], Ent.im tS a_.Texts g_a__0, Ent.im (tI .i64) a_.Numbers g_a__1, Ent.im tS b_.Texts g_b__0, Ent.im (tI .i64) b_.Numbers g_b__1] w') ⟨_, 0, hm, FrG.keep (ks := [2, 3, 5]) H18 (by kernel_rfl), hS⟩ ?_
  clear hm H18 hS
  rintro kk _ wd33 ⟨v19, hm, H, hS⟩
  cases kk with
  | zero => exact noneE hm
  | succ kk =>
   rw [r40_Same_L1] at hm
   refine w_seq ?_
   refine s_reg [(.slice g_a__0.a a_.Texts.length g_a__0.c)] [2, 3, 5, 41] [(2, [], .pointer (some ⟨b1, 0, none⟩)), (3, [], .pointer (some ⟨b4, 0, none⟩)), (5, [], .int .i64 v19), (41, [], .bool (decide (v19 < (ln a_.Texts))))] [fun wz => V.at1 ⟨b1, 2, none⟩ (.slice g_a__0.a a_.Texts.length g_a__0.c) wz] H (by kernel_rfl) ⟨((hS.bk 1 rfl).at1 rfl), trivial⟩ fun _ wd20 H21 hb => ?_
   clear H
   replace hS := hS.below hb
   clear hb
   refine w_if H21 rfl (fun hc => ?_) (fun hc => ?c32)
   case c32 =>
    replace hm := bF hc hm
    refine w_exit rfl ?_
    obtain rfl := someE hm
    exact ⟨_, rfl, FrG.keep (ks := [2, 3]) H21 (by kernel_rfl), hS⟩
   replace hm := bT hc hm
   refine w_skip ?_
   refine w_seq ?_
   refine w_block ?_
   obtain ⟨ho22, hm⟩ := chkE hm
   obtain ⟨ho23, hm⟩ := chkE hm
   obtain ⟨x24, hx24, hm⟩ := letE hm
   refine s_draw [(.slice g_a__0.a a_.Texts.length g_a__0.c), (.string ⟨⟨(gi a_.Texts v19)⟩⟩), (.slice g_b__0.a b_.Texts.length g_b__0.c), (.string ⟨⟨(gi b_.Texts v19)⟩⟩)] [2, 3, 5, 54] [(2, [], .pointer (some ⟨b1, 0, none⟩)), (3, [], .pointer (some ⟨b4, 0, none⟩)), (5, [], .int .i64 v19), (54, [], .bool x24)] [fun wz => V.at1 ⟨b1, 2, none⟩ (.slice g_a__0.a a_.Texts.length g_a__0.c) wz, fun _ => oka g_a__0.a ∧ 0 ≤ v19 ∧ v19 < ln a_.Texts, fun wz => V.at1 ⟨ab g_a__0.a, ao g_a__0.a + (v19).toNat * 1, none⟩ (.string ⟨⟨(gi a_.Texts v19)⟩⟩) wz, fun wz => V.at1 ⟨b4, 2, none⟩ (.slice g_b__0.a b_.Texts.length g_b__0.c) wz, fun _ => oka g_b__0.a ∧ 0 ≤ v19 ∧ v19 < ln b_.Texts, fun wz => V.at1 ⟨ab g_b__0.a, ao g_b__0.a + (v19).toNat * 1, none⟩ (.string ⟨⟨(gi b_.Texts v19)⟩⟩) wz] H21 (by kernel_rfl) (by kernel_rfl) (by subst hx24; kernel_rfl) ⟨((hS.bk 1 rfl).at1 rfl), ((hS.im 2 rfl).oki ho22), ((hS.im 2 rfl).at1 ho22 0 rfl), ((hS.bk 0 rfl).at1 rfl), ((hS.im 4 rfl).oki ho23), ((hS.im 4 rfl).at1 ho23 0 rfl), trivial⟩ fun _ wd25 H26 hb => ?_
   clear H21
   replace hS := hS.below hb
   clear hb
   refine w_if H26 rfl (fun hc => ?_) (fun hc => ?c31)
   case c31 =>
    replace hm := bF hc hm
    refine w_skip ?_
    refine w_reg [] [2, 3, 5] [(2, [], .pointer (some ⟨b1, 0, none⟩)), (3, [], .pointer (some ⟨b4, 0, none⟩)), (5, [], .int .i64 (w64 (v19 + 1)))] [] H26 (by kernel_rfl) trivial fun _ wd29 H30 hb => ?_
    clear H26
    replace hS := hS.below hb
    clear hb
    exact ⟨_, Nat.lt_succ_self _, w64 (v19 + 1), hm, FrG.keep (ks := [2, 3, 5]) H30 (by kernel_rfl), hS⟩
   replace hm := bT hc hm
   refine s_reg [] [4] [(4, [], .bool false)] [] H26 (by kernel_rfl) trivial fun _ wd27 H28 hb => ?_
   clear H26
   replace hS := hS.below hb
   clear hb
   refine w_ret ?_
   obtain rfl := someE hm
   have hm := hm_z16
   obtain rfl := someE hm
   exact retR1 H28 rfl rfl ⟨_, rfl, rfl, (hS.sel [] rfl)⟩
 ·rintro _ wd55 ⟨s_z16, hz, H, hS⟩
  subst hz
  replace hm := sumR hm_z16
  obtain ⟨z34, hz, hm_z34⟩ := bindE hm
  refine w_cut (fun a' w' => ∃ s_z34 : Unit, z34 = Sum.inr s_z34 ∧ Fr 73 [] a' ∧ SH M X w [Ent.blk b4 [.int .i64 b_.Err, .int .i64 b_.Num, .slice g_b__0.a b_.Texts.length g_b__0.c, .slice g_b__1.a b_.Numbers.length g_b__1.c], Ent.blk b1 [.int .i64 a_.Err, .int .i64 a_.Num, .slice g_a__0.a a_.Texts.length g_a__0.c, .slice g_a__1.a a_.Numbers.length g_a__1.c], Ent.im tS a_.Texts g_a__0, Ent.im (tI .i64) a_.Numbers g_a__1, Ent.im tS b_.Texts g_b__0, Ent.im (tI .i64) b_.Numbers g_b__1] w') ?_ ?_
  ·replace hm := hz
   refine s_reg [] [2, 3, 6] [(2, [], .pointer (some ⟨b1, 0, none⟩)), (3, [], .pointer (some ⟨b4, 0, none⟩)), (6, [], .int .i64 0)] [] H (by kernel_rfl) trivial fun _ wd35 H36 hb => ?_
   clear H
   replace hS := hS.below hb
   clear hb
   refine w_block ?_
   refine w_loop (fun kk a' w' => ∃ (v37 : Int), r40_Same_L2 m a_ b_ kk v37 = some _ ∧ Fr 73 [(2, [], .pointer (some ⟨b1, 0, none⟩)), (3, [], .pointer (some ⟨b4, 0, none⟩)), (6, [], .int .i64 v37)] a' ∧ SH M X w [Ent.blk b4 [.int .i64 b_.Err, .int .i64 b_.Num, .slice g_b__0.a b_.Texts.length g_b__0.c, .slice g_b__1.a b_.Numbers.length g_b__1.c], Ent.blk b1 [.int .i64 a_.Err, .int .i64 a_.Num, .slice g_a__0.a a_.Texts.length g_a__0.c, .slice g_a__1.a a_.Numbers.length g_a__1.c], Ent.im tS a_.Texts g_a__0, Ent.im (tI .i64) a_.Numbers g_a__1, Ent.im tS b_.Texts g_b__0, Ent.im (tI .i64) b_.Numbers g_b__1] w') ⟨_, 0, hm, FrG.keep (ks := [2, 3, 6]) H36 (by kernel_rfl), hS⟩ ?_
   clear hm H36 hS
   rintro kk _ wd51 ⟨v37, hm, H, hS⟩
   cases kk with
   | zero => exact noneE hm
   | succ kk =>
    rw [r40_Same_L2] at hm
    refine w_seq ?_
    refine s_reg [(.slice g_a__1.a a_.Numbers.length g_a__1.c)] [2, 3, 6, 59] [(2, [], .pointer (some ⟨b1, 0, none⟩)), (3, [], .pointer (some ⟨b4, 0, none⟩)), (6, [], .int .i64 v37), (59, [], .bool (decide (v37 < (ln a_.Numbers))))] [fun wz => V.at1 ⟨b1, 3, none⟩ (.slice g_a__1.a a_.Numbers.length g_a__1.c) wz] H (by kernel_rfl) ⟨((hS.bk 1 rfl).at1 rfl), trivial⟩ fun _ wd38 H39 hb => ?_
    clear H
    replace hS := hS.below hb
    clear hb
    refine w_if H39 rfl (fun hc => ?_) (fun hc => ?c50)
    case c50 =>
     replace hm := bF hc hm
     refine w_exit rfl ?_
     obtain rfl := someE hm
     exact ⟨_, rfl, FrG.keep (ks := []) H39 (by kernel_rfl), hS⟩
    replace hm := bT hc hm
    refine w_skip ?_
    refine w_seq ?_
    refine w_block ?_
    obtain ⟨ho40, hm⟩ := chkE hm
    obtain ⟨ho41, hm⟩ := chkE hm
    obtain ⟨x42, hx42, hm⟩ := letE hm
    refine s_draw [(.slice g_a__1.a a_.Numbers.length g_a__1.c), (.int .i64 (gi a_.Numbers v37)), (.slice g_b__1.a b_.Numbers.length g_b__1.c), (.int .i64 (gi b_.Numbers v37))] [2, 3, 6, 72] [(2, [], .pointer (some ⟨b1, 0, none⟩)), (3, [], .pointer (some ⟨b4, 0, none⟩)), (6, [], .int .i64 v37), (72, [], .bool x42)] [fun wz => V.at1 ⟨b1, 3, none⟩ (.slice g_a__1.a a_.Numbers.length g_a__1.c) wz, fun _ => oka g_a__1.a ∧ 0 ≤ v37 ∧ v37 < ln a_.Numbers, fun wz => V.at1 ⟨ab g_a__1.a, ao g_a__1.a + (v37).toNat * 1, none⟩ (.int .i64 (gi a_.Numbers v37)) wz, fun wz => V.at1 ⟨b4, 3, none⟩ (.slice g_b__1.a b_.Numbers.length g_b__1.c) wz, fun _ => oka g_b__1.a ∧ 0 ≤ v37 ∧ v37 < ln b_.Numbers, fun wz => V.at1 ⟨ab g_b__1.a, ao g_b__1.a + (v37).toNat * 1, none⟩ (.int .i64 (gi b_.Numbers v37)) wz] H39 (by kernel_rfl) (by kernel_rfl) (by subst hx42; kernel_rfl) ⟨((hS.bk 1 rfl).at1 rfl), ((hS.im 3 rfl).oki ho40), ((hS.im 3 rfl).at1 ho40 0 rfl), ((hS.bk 0 rfl).at1 rfl), ((hS.im 5 rfl).oki ho41), ((hS.im 5 rfl).at1 ho41 0 rfl), trivial⟩ fun _ wd43 H44 hb => ?_
    clear H39
    replace hS := hS.below hb
    clear hb
    refine w_if H44 rfl (fun hc => ?_) (fun hc => ?c49)
    case c49 =>
     replace hm := bF hc hm
     refine w_skip ?_
     refine w_reg [] [2, 3, 6] [(2, [], .pointer (some ⟨b1, 0, none⟩)), (3, [], .pointer (some ⟨b4, 0, none⟩)), (6, [], .int .i64 (w64 (v37 + 1)))] [] H44 (by kernel_rfl) trivial fun _ wd47 H48 hb => ?_
     clear H44
     replace hS := hS.below hb
     clear hb
     exact ⟨_, Nat.lt_succ_self _, w64 (v37 + 1), hm, FrG.keep (ks := [2, 3, 6]) H48 (by kernel_rfl), hS⟩
    replace hm := bT hc hm
    refine s_reg [] [4] [(4, [], .bool false)] [] H44 (by kernel_rfl) trivial fun _ wd45 H46 hb => ?_
    clear H44
    replace hS := hS.below hb
    clear hb
    refine w_ret ?_
    obtain rfl := someE hm
    have hm := hm_z34
    obtain rfl := someE hm
    exact retR1 H46 rfl rfl ⟨_, rfl, rfl, (hS.sel [] rfl)⟩
  ·rintro _ wd54 ⟨s_z34, hz, H, hS⟩
   subst hz
   replace hm := sumR hm_z34
   replace hS : SH M X w [] _ := hS.sel [] rfl
   refine s_reg [] [4] [(4, [], .bool true)] [] H (by kernel_rfl) trivial fun _ wd52 H53 hb => ?_
   clear H
   replace hS := hS.below hb
   clear hb
   refine w_ret ?_
   obtain rfl := someE hm
   exact retR1 H53 rfl rfl ⟨_, rfl, rfl, (hS.sel [] rfl)⟩
theorem r40_Same_ok {g_a__0 : Gh} {g_a__1 : Gh} {g_b__0 : Gh} {g_b__1 : Gh} (m : Nat) (a_ : TAnswer) (b_ : TAnswer) (r : Bool) (hm : r40_Same m a_ b_ = some r) (w : World) (hL : S0 F0 [Ent.im tS a_.Texts g_a__0, Ent.im (tI .i64) a_.Numbers g_a__1, Ent.im tS b_.Texts g_b__0, Ent.im (tI .i64) b_.Numbers g_b__1] w ∧ fpl [Ent.im tS a_.Texts g_a__0, Ent.im (tI .i64) a_.Numbers g_a__1, Ent.im tS b_.Texts g_b__0, Ent.im (tI .i64) b_.Numbers g_b__1] = []) : RetB Tryd.prog 15 ⟨[.agg ⟨[.int .i64 a_.Err, .int .i64 a_.Num, .slice g_a__0.a a_.Texts.length g_a__0.c, .slice g_a__1.a a_.Numbers.length g_a__1.c]⟩, .agg ⟨[.int .i64 b_.Err, .int .i64 b_.Num, .slice g_b__0.a b_.Texts.length g_b__0.c, .slice g_b__1.a b_.Numbers.length g_b__1.c]⟩]⟩ (.bool r) w := retB_of hL (Tryd.call15 _) (fun w' h => r40_Same_w F0 m   a_ b_ r hm w' h)

theorem law40_AnswerLines_w {g_a__0 : Gh} {g_a__1 : Gh} (M : Av) (m : Nat) (a_ : TAnswer) (s : Str) (r : Bool) (hm : law40_AnswerLines m a_ s = some r) (w : World) (hS : S0 M [Ent.im tS a_.Texts g_a__0, Ent.im (tI .i64) a_.Numbers g_a__1, Ent.tab 1 (Lib.pow10Tab.map fun z => Value.int .u64 z), Ent.gifc 2, Ent.gifc 3] w) : Calls Tryd.prog 3 ⟨[.agg ⟨[.int .i64 a_.Err, .int .i64 a_.Num, .slice g_a__0.a a_.Texts.length g_a__0.c, .slice g_a__1.a a_.Numbers.length g_a__1.c]⟩, .string ⟨⟨s⟩⟩]⟩ w (fun e w' => ∃ v, e = .returned v ∧ v = .bool r ∧ SH M (fpl [Ent.im tS a_.Texts g_a__0, Ent.im (tI .i64) a_.Numbers g_a__1, Ent.tab 1 (Lib.pow10Tab.map fun z => Value.int .u64 z), Ent.gifc 2, Ent.gifc 3]) w [] w') := by
 rw [law40_AnswerLines] at hm
 have hS0 : SH M (fpl [Ent.im tS a_.Texts g_a__0, Ent.im (tI .i64) a_.Numbers g_a__1, Ent.tab 1 (Lib.pow10Tab.map fun z => Value.int .u64 z), Ent.gifc 2, Ent.gifc 3]) w [Ent.im tS a_.Texts g_a__0, Ent.im (tI .i64) a_.Numbers g_a__1, Ent.tab 1 (Lib.pow10Tab.map fun z => Value.int .u64 z), Ent.gifc 2, Ent.gifc 3] w := hS
 generalize hX : fpl [Ent.im tS a_.Texts g_a__0, Ent.im (tI .i64) a_.Numbers g_a__1, Ent.tab 1 (Lib.pow10Tab.map fun z => Value.int .u64 z), Ent.gifc 2, Ent.gifc 3] = X at hS0 ⊢
 clear hS hX
 have hS := hS0
 clear hS0
 refine calls_entryP Tryd.func3 rfl Tryd.ntmps3 rfl fun _ H => ?_
 refine w_seq ?_
 refine wl_start ?_
 have hd := hS.hand [] [0, 1, 2, 3, 4] rfl rfl
 refine m_stp [2, 1] [(1, [], .string ⟨⟨s⟩⟩)] H rfl rfl rfl rfl (o_box [.int .i64 a_.Err, .int .i64 a_.Num, .slice g_a__0.a a_.Texts.length g_a__0.c, .slice g_a__1.a a_.Numbers.length g_a__1.c] H hd rfl rfl) (fun _ => rfl) fun _ wd2 v H3 hq => ?_
 clear H hd
 obtain ⟨b1, rfl, hq⟩ := hq
 replace hS : SH M X w [Ent.blk b1 [.int .i64 a_.Err, .int .i64 a_.Num, .slice g_a__0.a a_.Texts.length g_a__0.c, .slice g_a__1.a a_.Numbers.length g_a__1.c], Ent.im tS a_.Texts g_a__0, Ent.im (tI .i64) a_.Numbers g_a__1, Ent.tab 1 (Lib.pow10Tab.map fun z => Value.int .u64 z), Ent.gifc 2, Ent.gifc 3] _ := hS.join [] [0, 1, 2, 3, 4] rfl rfl hq
 clear hq
 refine wl_batch 1 2 [] [1, 2] [(1, [], .string ⟨⟨s⟩⟩), (2, [], .pointer (some ⟨b1, 0, none⟩))] [] H3 (by decide) (by kernel_rfl) trivial fun _ wd4 H5 hb => ?_
 clear H3
 replace hS := hS.below hb
 clear hb
 refine wl_end rfl ?_
 refine w_seq ?_
 obtain ⟨y6, hy6, hm⟩ := bindE hm
 obtain ⟨x7, hx7, hm⟩ := letE hm
 refine s_reg [(.agg ⟨[.int .i64 a_.Err, .int .i64 a_.Num, .slice g_a__0.a a_.Texts.length g_a__0.c, .slice g_a__1.a a_.Numbers.length g_a__1.c]⟩), (.bool y6)] [1, 2, 29] [(1, [], .string ⟨⟨s⟩⟩), (2, [], .pointer (some ⟨b1, 0, none⟩)), (29, [], .bool (cond x7 true (decide (90100 < (ln s)))))] [fun wz => V.atN b1 0 [.int .i64 a_.Err, .int .i64 a_.Num, .slice g_a__0.a a_.Texts.length g_a__0.c, .slice g_a__1.a a_.Numbers.length g_a__1.c] 0 wz, fun wz => RetB Tryd.prog 8 ⟨[.agg ⟨[.int .i64 a_.Err, .int .i64 a_.Num, .slice g_a__0.a a_.Texts.length g_a__0.c, .slice g_a__1.a a_.Numbers.length g_a__1.c]⟩]⟩ (.bool y6) wz] H5 (by subst hx7; kernel_rfl) ⟨((hS.bk 0 rfl).atD rfl), (r40_Big_ok (g_a__0 := g_a__0) (g_a__1 := g_a__1) m _ _ hy6 _ (s0im (s0im s0nil (hS.im 2 rfl)) (hS.im 1 rfl))), trivial⟩ fun _ wd8 H9 hb => ?_
 clear H5
 replace hS := hS.below hb
 clear hb
 refine w_if H9 rfl (fun hc => ?c61) (fun hc => ?_)
 case c61 =>
  replace hm := bT hc hm
  refine s_reg [] [4] [(4, [], .bool true)] [] H9 (by kernel_rfl) trivial fun _ wd10 H11 hb => ?_
  clear H9
  replace hS := hS.below hb
  clear hb
  replace hS : SH M X w [Ent.tab 1 (Lib.pow10Tab.map fun z => Value.int .u64 z), Ent.gifc 2, Ent.gifc 3] _ := hS.sel [3, 4, 5] rfl
  refine w_ret ?_
  obtain rfl := someE hm
  exact retR1 H11 rfl rfl ⟨_, rfl, rfl, (hS.sel [] rfl)⟩
 replace hm := bF hc hm
 refine w_skip ?_
 obtain ⟨y12, hy12, hm⟩ := bindE hm
 refine s_reg [(.agg ⟨[.int .i64 a_.Err, .int .i64 a_.Num, .slice g_a__0.a a_.Texts.length g_a__0.c, .slice g_a__1.a a_.Numbers.length g_a__1.c]⟩), (.tuple ⟨[.string ⟨⟨y12.1⟩⟩, .int .i64 y12.2]⟩)] [1, 2, 5, 6] [(1, [], .string ⟨⟨s⟩⟩), (2, [], .pointer (some ⟨b1, 0, none⟩)), (5, [], .string ⟨⟨y12.1⟩⟩), (6, [], .int .i64 y12.2)] [fun wz => V.atN b1 0 [.int .i64 a_.Err, .int .i64 a_.Num, .slice g_a__0.a a_.Texts.length g_a__0.c, .slice g_a__1.a a_.Numbers.length g_a__1.c] 0 wz, fun wz => RetB Tryd.prog 9 ⟨[.agg ⟨[.int .i64 a_.Err, .int .i64 a_.Num, .slice g_a__0.a a_.Texts.length g_a__0.c, .slice g_a__1.a a_.Numbers.length g_a__1.c]⟩]⟩ (.tuple ⟨[.string ⟨⟨y12.1⟩⟩, .int .i64 y12.2]⟩) wz] H9 (by kernel_rfl) ⟨((hS.bk 0 rfl).atD rfl), (answer_Line_ok (g_a__0 := g_a__0) (g_a__1 := g_a__1) m _ _ hy12 _ (s0im (s0im (s0tab s0nil (hS.at 3 rfl)) (hS.im 2 rfl)) (hS.im 1 rfl))), trivial⟩ fun _ wd13 H14 hb => ?_
 clear H9
 replace hS := hS.below hb
 clear hb
 obtain ⟨y15, hy15, hm⟩ := bindE hm
 refine s_reg [(.agg ⟨[.int .i64 a_.Err, .int .i64 a_.Num, .slice g_a__0.a a_.Texts.length g_a__0.c, .slice g_a__1.a a_.Numbers.length g_a__1.c]⟩), (.tuple ⟨[.string ⟨⟨y15.1⟩⟩, .int .i64 y15.2]⟩)] [1, 2, 5, 6, 7, 8] [(1, [], .string ⟨⟨s⟩⟩), (2, [], .pointer (some ⟨b1, 0, none⟩)), (5, [], .string ⟨⟨y12.1⟩⟩), (6, [], .int .i64 y12.2), (7, [], .string ⟨⟨y15.1⟩⟩), (8, [], .int .i64 y15.2)] [fun wz => V.atN b1 0 [.int .i64 a_.Err, .int .i64 a_.Num, .slice g_a__0.a a_.Texts.length g_a__0.c, .slice g_a__1.a a_.Numbers.length g_a__1.c] 0 wz, fun wz => RetB Tryd.prog 10 ⟨[.agg ⟨[.int .i64 a_.Err, .int .i64 a_.Num, .slice g_a__0.a a_.Texts.length g_a__0.c, .slice g_a__1.a a_.Numbers.length g_a__1.c]⟩]⟩ (.tuple ⟨[.string ⟨⟨y15.1⟩⟩, .int .i64 y15.2]⟩) wz] H14 (by kernel_rfl) ⟨((hS.bk 0 rfl).atD rfl), (r40_Line_ok (g_a__0 := g_a__0) (g_a__1 := g_a__1) m _ _ hy15 _ (s0im (s0im s0nil (hS.im 2 rfl)) (hS.im 1 rfl))), trivial⟩ fun _ wd16 H17 hb => ?_
 clear H14
 replace hS := hS.below hb
 clear hb
 refine w_seq ?_
 refine wl_start ?_
 refine wl_batch 0 1 [] [1, 2, 5, 6, 7, 8, 41] [(1, [], .string ⟨⟨s⟩⟩), (2, [], .pointer (some ⟨b1, 0, none⟩)), (5, [], .string ⟨⟨y12.1⟩⟩), (6, [], .int .i64 y12.2), (7, [], .string ⟨⟨y15.1⟩⟩), (8, [], .int .i64 y15.2), (41, [], .string ⟨⟨s⟩⟩)] [] H17 (by decide) (by kernel_rfl) trivial fun _ wd18 H19 hb => ?_
 clear H17
 replace hS := hS.below hb
 clear hb
 obtain ⟨y20, hy20, hm⟩ := bindE hm
 have hd := hS.hand [4, 5, 3] [0, 1, 2, 3, 4, 5] rfl rfl
 refine m_stp [42, 1, 2, 5, 6, 7, 8] [(1, [], .string ⟨⟨s⟩⟩), (2, [], .pointer (some ⟨b1, 0, none⟩)), (5, [], .string ⟨⟨y12.1⟩⟩), (6, [], .int .i64 y12.2), (7, [], .string ⟨⟨y15.1⟩⟩), (8, [], .int .i64 y15.2)] H19 rfl rfl rfl rfl (o_callx H19 rfl rfl (answer_ReadLine_ok m _ _ hy20 _ _ hd)) (fun _ => rfl) fun _ wd25 v H26 hq => ?_
 clear H19 hd
 obtain ⟨g21, g23, rfl, hq⟩ := hq
 replace hS : SH M X w [Ent.im tS y20.1.Texts g21, Ent.own 3 (tI .i64) y20.1.Numbers g23, Ent.blk b1 [.int .i64 a_.Err, .int .i64 a_.Num, .slice g_a__0.a a_.Texts.length g_a__0.c, .slice g_a__1.a a_.Numbers.length g_a__1.c], Ent.im tS a_.Texts g_a__0, Ent.im (tI .i64) a_.Numbers g_a__1, Ent.tab 1 (Lib.pow10Tab.map fun z => Value.int .u64 z), Ent.gifc 2, Ent.gifc 3] _ := hS.join [4, 5, 3] [0, 1, 2, 3, 4, 5] rfl rfl hq
 clear hq
 refine wl_batch 2 5 [] [1, 2, 5, 6, 7, 8, 43, 44] [(1, [], .string ⟨⟨s⟩⟩), (2, [], .pointer (some ⟨b1, 0, none⟩)), (5, [], .string ⟨⟨y12.1⟩⟩), (6, [], .int .i64 y12.2), (7, [], .string ⟨⟨y15.1⟩⟩), (8, [], .int .i64 y15.2), (43, [], .agg ⟨[.int .i64 y20.1.Err, .int .i64 y20.1.Num, .slice g21.a y20.1.Texts.length g21.c, .slice g23.a y20.1.Numbers.length g23.c]⟩), (44, [], .int .i64 y20.2)] [] H26 (by decide) (by kernel_rfl) trivial fun _ wd27 H28 hb => ?_
 clear H26
 replace hS := hS.below hb
 clear hb
 have hd := hS.hand [] [0, 1, 2, 3, 4, 5, 6, 7] rfl rfl
 refine m_stp [9, 1, 2, 5, 6, 7, 8, 43, 44] [(1, [], .string ⟨⟨s⟩⟩), (2, [], .pointer (some ⟨b1, 0, none⟩)), (5, [], .string ⟨⟨y12.1⟩⟩), (6, [], .int .i64 y12.2), (7, [], .string ⟨⟨y15.1⟩⟩), (8, [], .int .i64 y15.2), (43, [], .agg ⟨[.int .i64 y20.1.Err, .int .i64 y20.1.Num, .slice g21.a y20.1.Texts.length g21.c, .slice g23.a y20.1.Numbers.length g23.c]⟩), (44, [], .int .i64 y20.2)] H28 rfl rfl rfl rfl (o_alloc [.int .i64 0, .int .i64 0, .slice none 0 0, .slice none 0 0] (z := .agg ⟨[.int .i64 0, .int .i64 0, .slice none 0 0, .slice none 0 0]⟩) hd (by kernel_rfl) rfl) (fun _ => rfl) fun _ wd30 v H31 hq => ?_
 clear H28 hd
 obtain ⟨b29, rfl, hq⟩ := hq
 replace hS : SH M X w [Ent.blk b29 [.int .i64 0, .int .i64 0, .slice none 0 0, .slice none 0 0], Ent.im tS y20.1.Texts g21, Ent.own 3 (tI .i64) y20.1.Numbers g23, Ent.blk b1 [.int .i64 a_.Err, .int .i64 a_.Num, .slice g_a__0.a a_.Texts.length g_a__0.c, .slice g_a__1.a a_.Numbers.length g_a__1.c], Ent.im tS a_.Texts g_a__0, Ent.im (tI .i64) a_.Numbers g_a__1, Ent.tab 1 (Lib.pow10Tab.map fun z => Value.int .u64 z), Ent.gifc 2, Ent.gifc 3] _ := hS.join [] [0, 1, 2, 3, 4, 5, 6, 7] rfl rfl hq
 clear hq
 have hd := hS.hand [0] [1, 2, 3, 4, 5, 6, 7, 8] rfl rfl
 refine m_stp0 [1, 2, 5, 6, 7, 8, 9, 44] [(1, [], .string ⟨⟨s⟩⟩), (2, [], .pointer (some ⟨b1, 0, none⟩)), (5, [], .string ⟨⟨y12.1⟩⟩), (6, [], .int .i64 y12.2), (7, [], .string ⟨⟨y15.1⟩⟩), (8, [], .int .i64 y15.2), (9, [], .pointer (some ⟨b29, 0, none⟩)), (44, [], .int .i64 y20.2)] H31 rfl rfl rfl (o_store [.int .i64 y20.1.Err, .int .i64 y20.1.Num, .slice g21.a y20.1.Texts.length g21.c, .slice g23.a y20.1.Numbers.length g23.c] H31 hd rfl rfl (by kernel_rfl) rfl rfl rfl) rfl fun _ wd32 H33 hq => ?_
 clear H31 hd
 obtain ⟨_, hq⟩ := hq
 replace hS : SH M X w [Ent.blk b29 [.int .i64 y20.1.Err, .int .i64 y20.1.Num, .slice g21.a y20.1.Texts.length g21.c, .slice g23.a y20.1.Numbers.length g23.c], Ent.im tS y20.1.Texts g21, Ent.own 3 (tI .i64) y20.1.Numbers g23, Ent.blk b1 [.int .i64 a_.Err, .int .i64 a_.Num, .slice g_a__0.a a_.Texts.length g_a__0.c, .slice g_a__1.a a_.Numbers.length g_a__1.c], Ent.im tS a_.Texts g_a__0, Ent.im (tI .i64) a_.Numbers g_a__1, Ent.tab 1 (Lib.pow10Tab.map fun z => Value.int .u64 z), Ent.gifc 2, Ent.gifc 3] _ := hS.join [0] [1, 2, 3, 4, 5, 6, 7, 8] rfl rfl hq
 clear hq
 refine wl_batch 7 8 [] [1, 2, 5, 6, 7, 8, 9, 10] [(1, [], .string ⟨⟨s⟩⟩), (2, [], .pointer (some ⟨b1, 0, none⟩)), (5, [], .string ⟨⟨y12.1⟩⟩), (6, [], .int .i64 y12.2), (7, [], .string ⟨⟨y15.1⟩⟩), (8, [], .int .i64 y15.2), (9, [], .pointer (some ⟨b29, 0, none⟩)), (10, [], .int .i64 y20.2)] [] H33 (by decide) (by kernel_rfl) trivial fun _ wd34 H35 hb => ?_
 clear H33
 replace hS := hS.below hb
 clear hb
 refine wl_end rfl ?_
 refine w_seq ?_
 refine wl_start ?_
 refine wl_batch 0 1 [] [2, 5, 6, 7, 8, 9, 10, 46] [(2, [], .pointer (some ⟨b1, 0, none⟩)), (5, [], .string ⟨⟨y12.1⟩⟩), (6, [], .int .i64 y12.2), (7, [], .string ⟨⟨y15.1⟩⟩), (8, [], .int .i64 y15.2), (9, [], .pointer (some ⟨b29, 0, none⟩)), (10, [], .int .i64 y20.2), (46, [], .string ⟨⟨s⟩⟩)] [] H35 (by decide) (by kernel_rfl) trivial fun _ wd36 H37 hb => ?_
 clear H35
 replace hS := hS.below hb
 clear hb
 obtain ⟨y38, hy38, hm⟩ := bindE hm
 have hd := hS.hand [] [0, 1, 2, 3, 4, 5, 6, 7, 8] rfl rfl
 refine m_stp [47, 2, 5, 6, 7, 8, 9, 10] [(2, [], .pointer (some ⟨b1, 0, none⟩)), (5, [], .string ⟨⟨y12.1⟩⟩), (6, [], .int .i64 y12.2), (7, [], .string ⟨⟨y15.1⟩⟩), (8, [], .int .i64 y15.2), (9, [], .pointer (some ⟨b29, 0, none⟩)), (10, [], .int .i64 y20.2)] H37 rfl rfl rfl rfl (o_callx H37 rfl rfl (r40_ReadLine_ok m _ _ hy38 _ _ hd)) (fun _ => rfl) fun _ wd43 v H44 hq => ?_
 clear H37 hd
 obtain ⟨g39, g41, rfl, hq⟩ := hq
 replace hS : SH M X w [Ent.own 9 tS y38.1.Texts g39, Ent.own 3 (tI .i64) y38.1.Numbers g41, Ent.blk b29 [.int .i64 y20.1.Err, .int .i64 y20.1.Num, .slice g21.a y20.1.Texts.length g21.c, .slice g23.a y20.1.Numbers.length g23.c], Ent.im tS y20.1.Texts g21, Ent.own 3 (tI .i64) y20.1.Numbers g23, Ent.blk b1 [.int .i64 a_.Err, .int .i64 a_.Num, .slice g_a__0.a a_.Texts.length g_a__0.c, .slice g_a__1.a a_.Numbers.length g_a__1.c], Ent.im tS a_.Texts g_a__0, Ent.im (tI .i64) a_.Numbers g_a__1, Ent.tab 1 (Lib.pow10Tab.map fun z => Value.int .u64 z), Ent.gifc 2, Ent.gifc 3] _ := hS.join [] [0, 1, 2, 3, 4, 5, 6, 7, 8] rfl rfl hq
 clear hq
 refine wl_batch 2 5 [] [2, 5, 6, 7, 8, 9, 10, 48, 49] [(2, [], .pointer (some ⟨b1, 0, none⟩)), (5, [], .string ⟨⟨y12.1⟩⟩), (6, [], .int .i64 y12.2), (7, [], .string ⟨⟨y15.1⟩⟩), (8, [], .int .i64 y15.2), (9, [], .pointer (some ⟨b29, 0, none⟩)), (10, [], .int .i64 y20.2), (48, [], .agg ⟨[.int .i64 y38.1.Err, .int .i64 y38.1.Num, .slice g39.a y38.1.Texts.length g39.c, .slice g41.a y38.1.Numbers.length g41.c]⟩), (49, [], .int .i64 y38.2)] [] H44 (by decide) (by kernel_rfl) trivial fun _ wd45 H46 hb => ?_
 clear H44
 replace hS := hS.below hb
 clear hb
 have hd := hS.hand [] [0, 1, 2, 3, 4, 5, 6, 7, 8, 9, 10] rfl rfl
 refine m_stp [11, 2, 5, 6, 7, 8, 9, 10, 48, 49] [(2, [], .pointer (some ⟨b1, 0, none⟩)), (5, [], .string ⟨⟨y12.1⟩⟩), (6, [], .int .i64 y12.2), (7, [], .string ⟨⟨y15.1⟩⟩), (8, [], .int .i64 y15.2), (9, [], .pointer (some ⟨b29, 0, none⟩)), (10, [], .int .i64 y20.2), (48, [], .agg ⟨[.int .i64 y38.1.Err, .int .i64 y38.1.Num, .slice g39.a y38.1.Texts.length g39.c, .slice g41.a y38.1.Numbers.length g41.c]⟩), (49, [], .int .i64 y38.2)] H46 rfl rfl rfl rfl (o_alloc [.int .i64 0, .int .i64 0, .slice none 0 0, .slice none 0 0] (z := .agg ⟨[.int .i64 0, .int .i64 0, .slice none 0 0, .slice none 0 0]⟩) hd (by kernel_rfl) rfl) (fun _ => rfl) fun _ wd48 v H49 hq => ?_
 clear H46 hd
 obtain ⟨b47, rfl, hq⟩ := hq
 replace hS : SH M X w [Ent.blk b47 [.int .i64 0, .int .i64 0, .slice none 0 0, .slice none 0 0], Ent.own 9 tS y38.1.Texts g39, Ent.own 3 (tI .i64) y38.1.Numbers g41, Ent.blk b29 [.int .i64 y20.1.Err, .int .i64 y20.1.Num, .slice g21.a y20.1.Texts.length g21.c, .slice g23.a y20.1.Numbers.length g23.c], Ent.im tS y20.1.Texts g21, Ent.own 3 (tI .i64) y20.1.Numbers g23, Ent.blk b1 [.int .i64 a_.Err, .int .i64 a_.Num, .slice g_a__0.a a_.Texts.length g_a__0.c, .slice g_a__1.a a_.Numbers.length g_a__1.c], Ent.im tS a_.Texts g_a__0, Ent.im (tI .i64) a_.Numbers g_a__1, Ent.tab 1 (Lib.pow10Tab.map fun z => Value.int .u64 z), Ent.gifc 2, Ent.gifc 3] _ := hS.join [] [0, 1, 2, 3, 4, 5, 6, 7, 8, 9, 10] rfl rfl hq
 clear hq
 have hd := hS.hand [0] [1, 2, 3, 4, 5, 6, 7, 8, 9, 10, 11] rfl rfl
 refine m_stp0 [2, 5, 6, 7, 8, 9, 10, 11, 49] [(2, [], .pointer (some ⟨b1, 0, none⟩)), (5, [], .string ⟨⟨y12.1⟩⟩), (6, [], .int .i64 y12.2), (7, [], .string ⟨⟨y15.1⟩⟩), (8, [], .int .i64 y15.2), (9, [], .pointer (some ⟨b29, 0, none⟩)), (10, [], .int .i64 y20.2), (11, [], .pointer (some ⟨b47, 0, none⟩)), (49, [], .int .i64 y38.2)] H49 rfl rfl rfl (o_store [.int .i64 y38.1.Err, .int .i64 y38.1.Num, .slice g39.a y38.1.Texts.length g39.c, .slice g41.a y38.1.Numbers.length g41.c] H49 hd rfl rfl (by kernel_rfl) rfl rfl rfl) rfl fun _ wd50 H51 hq => ?_
 clear H49 hd
 obtain ⟨_, hq⟩ := hq
 replace hS : SH M X w [Ent.blk b47 [.int .i64 y38.1.Err, .int .i64 y38.1.Num, .slice g39.a y38.1.Texts.length g39.c, .slice g41.a y38.1.Numbers.length g41.c], Ent.own 9 tS y38.1.Texts g39, Ent.own 3 (tI .i64) y38.1.Numbers g41, Ent.blk b29 [.int .i64 y20.1.Err, .int .i64 y20.1.Num, .slice g21.a y20.1.Texts.length g21.c, .slice g23.a y20.1.Numbers.length g23.c], Ent.im tS y20.1.Texts g21, Ent.own 3 (tI .i64) y20.1.Numbers g23, Ent.blk b1 [.int .i64 a_.Err, .int .i64 a_.Num, .slice g_a__0.a a_.Texts.length g_a__0.c, .slice g_a__1.a a_.Numbers.length g_a__1.c], Ent.im tS a_.Texts g_a__0, Ent.im (tI .i64) a_.Numbers g_a__1, Ent.tab 1 (Lib.pow10Tab.map fun z => Value.int .u64 z), Ent.gifc 2, Ent.gifc 3] _ := hS.join [0] [1, 2, 3, 4, 5, 6, 7, 8, 9, 10, 11] rfl rfl hq
 clear hq
 refine wl_batch 7 8 [] [2, 5, 6, 7, 8, 9, 10, 11, 12] [(2, [], .pointer (some ⟨b1, 0, none⟩)), (5, [], .string ⟨⟨y12.1⟩⟩), (6, [], .int .i64 y12.2), (7, [], .string ⟨⟨y15.1⟩⟩), (8, [], .int .i64 y15.2), (9, [], .pointer (some ⟨b29, 0, none⟩)), (10, [], .int .i64 y20.2), (11, [], .pointer (some ⟨b47, 0, none⟩)), (12, [], .int .i64 y38.2)] [] H51 (by decide) (by kernel_rfl) trivial fun _ wd52 H53 hb => ?_
 clear H51
 replace hS := hS.below hb
 clear hb
 refine wl_end rfl ?_
 obtain ⟨y54, hy54, hm⟩ := bindE hm
 obtain ⟨y55, hy55, hm⟩ := bindE hm
 obtain ⟨x56, hx56, hm⟩ := letE hm
 obtain ⟨y57, hy57, hm⟩ := bindE hm
 obtain ⟨x58, hx58, hm⟩ := letE hm
 refine s_draw [(.agg ⟨[.int .i64 a_.Err, .int .i64 a_.Num, .slice g_a__0.a a_.Texts.length g_a__0.c, .slice g_a__1.a a_.Numbers.length g_a__1.c]⟩), (.int .i64 y54), (.agg ⟨[.int .i64 a_.Err, .int .i64 a_.Num, .slice g_a__0.a a_.Texts.length g_a__0.c, .slice g_a__1.a a_.Numbers.length g_a__1.c]⟩), (.int .i64 y55), (.agg ⟨[.int .i64 y20.1.Err, .int .i64 y20.1.Num, .slice g21.a y20.1.Texts.length g21.c, .slice g23.a y20.1.Numbers.length g23.c]⟩), (.agg ⟨[.int .i64 y38.1.Err, .int .i64 y38.1.Num, .slice g39.a y38.1.Texts.length g39.c, .slice g41.a y38.1.Numbers.length g41.c]⟩), (.bool y57)] [4] [(4, [], .bool x58)] [fun wz => V.atN b1 0 [.int .i64 a_.Err, .int .i64 a_.Num, .slice g_a__0.a a_.Texts.length g_a__0.c, .slice g_a__1.a a_.Numbers.length g_a__1.c] 0 wz, fun wz => RetB Tryd.prog 13 ⟨[.agg ⟨[.int .i64 a_.Err, .int .i64 a_.Num, .slice g_a__0.a a_.Texts.length g_a__0.c, .slice g_a__1.a a_.Numbers.length g_a__1.c]⟩]⟩ (.int .i64 y54) wz, fun wz => V.atN b1 0 [.int .i64 a_.Err, .int .i64 a_.Num, .slice g_a__0.a a_.Texts.length g_a__0.c, .slice g_a__1.a a_.Numbers.length g_a__1.c] 0 wz, fun wz => RetB Tryd.prog 14 ⟨[.agg ⟨[.int .i64 a_.Err, .int .i64 a_.Num, .slice g_a__0.a a_.Texts.length g_a__0.c, .slice g_a__1.a a_.Numbers.length g_a__1.c]⟩]⟩ (.int .i64 y55) wz, fun wz => (x56 = true ∧ True → V.atN b29 0 [.int .i64 y20.1.Err, .int .i64 y20.1.Num, .slice g21.a y20.1.Texts.length g21.c, .slice g23.a y20.1.Numbers.length g23.c] 0 wz), fun wz => (x56 = true ∧ True → V.atN b47 0 [.int .i64 y38.1.Err, .int .i64 y38.1.Num, .slice g39.a y38.1.Texts.length g39.c, .slice g41.a y38.1.Numbers.length g41.c] 0 wz), fun wz => (x56 = true ∧ True → RetB Tryd.prog 15 ⟨[.agg ⟨[.int .i64 y20.1.Err, .int .i64 y20.1.Num, .slice g21.a y20.1.Texts.length g21.c, .slice g23.a y20.1.Numbers.length g23.c]⟩, .agg ⟨[.int .i64 y38.1.Err, .int .i64 y38.1.Num, .slice g39.a y38.1.Texts.length g39.c, .slice g41.a y38.1.Numbers.length g41.c]⟩]⟩ (.bool y57) wz)] H53 (by kernel_rfl) (by kernel_rfl) (by subst hx56 hx58; kernel_rfl) ⟨((hS.bk 6 rfl).atD rfl), (answer_Check_ok (g_a__0 := g_a__0) (g_a__1 := g_a__1) m _ _ hy54 _ (s0im (s0im s0nil (hS.im 8 rfl)) (hS.im 7 rfl))), ((hS.bk 6 rfl).atD rfl), (r40_Check_ok (g_a__0 := g_a__0) (g_a__1 := g_a__1) m _ _ hy55 _ (s0im (s0im s0nil (hS.im 8 rfl)) (hS.im 7 rfl))), fun hg => (hS.bk 3 rfl).atD rfl, fun hg => (hS.bk 0 rfl).atD rfl, fun hg => r40_Same_ok (g_a__0 := g21) (g_a__1 := g23) (g_b__0 := g39) (g_b__1 := g41) m _ _ _ (bT (hg.1) hy57) _ (s0im (s0im (s0im (s0im s0nil (hS.osl 2 rfl)) (hS.osl 1 rfl)) (hS.osl 5 rfl)) (hS.im 4 rfl)), trivial⟩ fun _ wd59 H60 hb => ?_
 clear H53
 replace hS := hS.below hb
 clear hb
 replace hS : SH M X w [Ent.tab 1 (Lib.pow10Tab.map fun z => Value.int .u64 z), Ent.gifc 2, Ent.gifc 3] _ := hS.sel [9, 10, 11] rfl
 refine w_ret ?_
 obtain rfl := someE hm
 exact retR1 H60 rfl rfl ⟨_, rfl, rfl, (hS.sel [] rfl)⟩
theorem law40_AnswerLines_ok {g_a__0 : Gh} {g_a__1 : Gh} (m : Nat) (a_ : TAnswer) (s : Str) (r : Bool) (hm : law40_AnswerLines m a_ s = some r) (w : World) (hL : S0 F0 [Ent.im tS a_.Texts g_a__0, Ent.im (tI .i64) a_.Numbers g_a__1, Ent.tab 1 (Lib.pow10Tab.map fun z => Value.int .u64 z), Ent.gifc 2, Ent.gifc 3] w ∧ fpl [Ent.im tS a_.Texts g_a__0, Ent.im (tI .i64) a_.Numbers g_a__1, Ent.tab 1 (Lib.pow10Tab.map fun z => Value.int .u64 z), Ent.gifc 2, Ent.gifc 3] = []) : RetB Tryd.prog 3 ⟨[.agg ⟨[.int .i64 a_.Err, .int .i64 a_.Num, .slice g_a__0.a a_.Texts.length g_a__0.c, .slice g_a__1.a a_.Numbers.length g_a__1.c]⟩, .string ⟨⟨s⟩⟩]⟩ (.bool r) w := retB_of hL (Tryd.call3 _) (fun w' h => law40_AnswerLines_w F0 m   a_ s r hm w' h)

end Go.Proofs.YtipafpkdkhnjmaaDoor
