/-
  The walks of a strings.Replacer that cleans texts: what it builds, what it finds, what it writes. Printed by a program.
-/
import Derived.Test.YtihckkbhieblkaaRows
import Derived.Test.YtihckkbhieblkaaK
import Derived.Test.YtihckkbhieblkaaRPb
set_option linter.unusedVariables false
set_option maxRecDepth 20000
set_option maxHeartbeats 4000000
namespace Go.Proofs.Ytihckkbhieblkaa
open Go.V Go.RowKit

theorem strings_genericReplacer_lookup_w {t_r : Nat} {tb_r : Nat} {n1_r : Nat} {n2_r : Nat} {n3_r : Nat} {n4_r : Nat} (M : Av) (s : Str) (r : Str × Int × Bool) (hm : strings_genericReplacer_lookup s = some r) (w : World) (hS : S0 M [Ent.trie t_r tb_r n1_r n2_r n3_r n4_r] w) : Calls Try.prog 117 ⟨[.pointer (some ⟨t_r, 0, none⟩), .string ⟨⟨s⟩⟩, .bool false]⟩ w (fun e w' => ∃ v, e = .returned v ∧ v = .tuple ⟨[.string ⟨⟨r.1⟩⟩, .int .i64 r.2.1, .bool r.2.2]⟩ ∧ SH M (fpl [Ent.trie t_r tb_r n1_r n2_r n3_r n4_r]) w [] w') := by
 rw [strings_genericReplacer_lookup] at hm
 have hS0 : SH M (fpl [Ent.trie t_r tb_r n1_r n2_r n3_r n4_r]) w [Ent.trie t_r tb_r n1_r n2_r n3_r n4_r] w := hS
 generalize hX : fpl [Ent.trie t_r tb_r n1_r n2_r n3_r n4_r] = X at hS0 ⊢
 clear hS hX
 have hS := hS0
 clear hS0
 refine calls_entryP Try.func117 rfl Try.ntmps117 rfl fun _ H => ?_
 refine s_reg [] [0, 1, 2, 6, 7, 8] [(0, [], .pointer (some ⟨t_r, 0, none⟩)), (1, [], .string ⟨⟨s⟩⟩), (2, [], .bool false), (6, [], .string ⟨⟨[]⟩⟩), (7, [], .int .i64 0), (8, [], .bool false)] [] H (by kernel_rfl) trivial fun _ wd1 H2 hb => ?_
 clear H
 replace hS := hS.below hb
 clear hb
 refine s_reg [] [0, 1, 2, 6, 7, 8, 9] [(0, [], .pointer (some ⟨t_r, 0, none⟩)), (1, [], .string ⟨⟨s⟩⟩), (2, [], .bool false), (6, [], .string ⟨⟨[]⟩⟩), (7, [], .int .i64 0), (8, [], .bool false), (9, [], .int .i64 0)] [] H2 (by kernel_rfl) trivial fun _ wd3 H4 hb => ?_
 clear H2
 replace hS := hS.below hb
 clear hb
 refine s_reg [] [0, 1, 2, 6, 7, 8, 9, 10] [(0, [], .pointer (some ⟨t_r, 0, none⟩)), (1, [], .string ⟨⟨s⟩⟩), (2, [], .bool false), (6, [], .string ⟨⟨[]⟩⟩), (7, [], .int .i64 0), (8, [], .bool false), (9, [], .int .i64 0), (10, [], .pointer (some ⟨t_r, 0, none⟩))] [] H4 (by kernel_rfl) trivial fun _ wd5 H6 hb => ?_
 clear H4
 replace hS := hS.below hb
 clear hb
 refine s_reg [] [0, 1, 2, 6, 7, 8, 9, 10, 11] [(0, [], .pointer (some ⟨t_r, 0, none⟩)), (1, [], .string ⟨⟨s⟩⟩), (2, [], .bool false), (6, [], .string ⟨⟨[]⟩⟩), (7, [], .int .i64 0), (8, [], .bool false), (9, [], .int .i64 0), (10, [], .pointer (some ⟨t_r, 0, none⟩)), (11, [], .int .i64 0)] [] H6 (by kernel_rfl) trivial fun _ wd7 H8 hb => ?_
 clear H6
 replace hS := hS.below hb
 clear hb
 refine w_seq ?_
 refine w_block ?_
 refine w_loopU ?_
 refine lw_round ?_
 refine w_seq ?_
 refine s_reg [] [0, 1, 2, 6, 7, 8, 9, 10, 11, 17] [(0, [], .pointer (some ⟨t_r, 0, none⟩)), (1, [], .string ⟨⟨s⟩⟩), (2, [], .bool false), (6, [], .string ⟨⟨[]⟩⟩), (7, [], .int .i64 0), (8, [], .bool false), (9, [], .int .i64 0), (10, [], .pointer (some ⟨t_r, 0, none⟩)), (11, [], .int .i64 0), (17, [], .bool true)] [] H8 (by kernel_rfl) trivial fun _ wd9 H10 hb => ?_
 clear H8
 replace hS := hS.below hb
 clear hb
 refine w_if H10 rfl (fun _ => ?_) (fun hc => by cases hc)
 refine w_skip ?_
 refine w_block ?_
 refine w_seq ?_
 refine w_seq ?_
 refine wl_start ?_
 refine wl_batch 0 7 [(.int .i64 0)] [0, 1, 2, 6, 7, 8, 9, 10, 11, 24] [(0, [], .pointer (some ⟨t_r, 0, none⟩)), (1, [], .string ⟨⟨s⟩⟩), (2, [], .bool false), (6, [], .string ⟨⟨[]⟩⟩), (7, [], .int .i64 0), (8, [], .bool false), (9, [], .int .i64 0), (10, [], .pointer (some ⟨t_r, 0, none⟩)), (11, [], .int .i64 0), (24, [], .bool false)] [fun wz => V.at1 ⟨t_r, 1, none⟩ (.int .i64 0) wz] H10 (by decide) (by kernel_rfl) ⟨((hS.tr 0 rfl).bg.at1 rfl), trivial⟩ fun _ wd11 H12 hb => ?_
 clear H10
 replace hS := hS.below hb
 clear hb
 refine m_skipG 24 [25, 0, 1, 2, 6, 7, 8, 9, 10, 11, 24] [(25, [], undef), (0, [], .pointer (some ⟨t_r, 0, none⟩)), (1, [], .string ⟨⟨s⟩⟩), (2, [], .bool false), (6, [], .string ⟨⟨[]⟩⟩), (7, [], .int .i64 0), (8, [], .bool false), (9, [], .int .i64 0), (10, [], .pointer (some ⟨t_r, 0, none⟩)), (11, [], .int .i64 0), (24, [], .bool false)] H12 rfl rfl rfl rfl rfl rfl fun _ H13 => ?_
 clear H12
 refine m_skipG 24 [26, 0, 1, 2, 6, 7, 8, 9, 10, 11, 24] [(26, [], undef), (0, [], .pointer (some ⟨t_r, 0, none⟩)), (1, [], .string ⟨⟨s⟩⟩), (2, [], .bool false), (6, [], .string ⟨⟨[]⟩⟩), (7, [], .int .i64 0), (8, [], .bool false), (9, [], .int .i64 0), (10, [], .pointer (some ⟨t_r, 0, none⟩)), (11, [], .int .i64 0), (24, [], .bool false)] H13 rfl rfl rfl rfl rfl rfl fun _ H14 => ?_
 clear H13
 refine m_skipU 26 [27, 0, 1, 2, 6, 7, 8, 9, 10, 11, 24, 26] [(27, [], undef), (0, [], .pointer (some ⟨t_r, 0, none⟩)), (1, [], .string ⟨⟨s⟩⟩), (2, [], .bool false), (6, [], .string ⟨⟨[]⟩⟩), (7, [], .int .i64 0), (8, [], .bool false), (9, [], .int .i64 0), (10, [], .pointer (some ⟨t_r, 0, none⟩)), (11, [], .int .i64 0), (24, [], .bool false), (26, [], undef)] H14 rfl rfl rfl rfl rfl fun _ H15 => ?_
 clear H14
 refine m_skipU 26 [28, 0, 1, 2, 6, 7, 8, 9, 10, 11, 24, 26, 27] [(28, [], undef), (0, [], .pointer (some ⟨t_r, 0, none⟩)), (1, [], .string ⟨⟨s⟩⟩), (2, [], .bool false), (6, [], .string ⟨⟨[]⟩⟩), (7, [], .int .i64 0), (8, [], .bool false), (9, [], .int .i64 0), (10, [], .pointer (some ⟨t_r, 0, none⟩)), (11, [], .int .i64 0), (24, [], .bool false), (26, [], undef), (27, [], undef)] H15 rfl rfl rfl rfl rfl fun _ H16 => ?_
 clear H15
 refine m_skipU 26 [29, 0, 1, 2, 6, 7, 8, 9, 10, 11, 24, 26, 27] [(29, [], undef), (0, [], .pointer (some ⟨t_r, 0, none⟩)), (1, [], .string ⟨⟨s⟩⟩), (2, [], .bool false), (6, [], .string ⟨⟨[]⟩⟩), (7, [], .int .i64 0), (8, [], .bool false), (9, [], .int .i64 0), (10, [], .pointer (some ⟨t_r, 0, none⟩)), (11, [], .int .i64 0), (24, [], .bool false), (26, [], undef), (27, [], undef)] H16 rfl rfl rfl rfl rfl fun _ H17 => ?_
 clear H16
 refine m_skipU 26 [30, 0, 1, 2, 6, 7, 8, 9, 10, 11, 24, 26, 27] [(30, [], undef), (0, [], .pointer (some ⟨t_r, 0, none⟩)), (1, [], .string ⟨⟨s⟩⟩), (2, [], .bool false), (6, [], .string ⟨⟨[]⟩⟩), (7, [], .int .i64 0), (8, [], .bool false), (9, [], .int .i64 0), (10, [], .pointer (some ⟨t_r, 0, none⟩)), (11, [], .int .i64 0), (24, [], .bool false), (26, [], undef), (27, [], undef)] H17 rfl rfl rfl rfl rfl fun _ H18 => ?_
 clear H17
 refine m_skipU 26 [31, 0, 1, 2, 6, 7, 8, 9, 10, 11, 24, 26] [(31, [], undef), (0, [], .pointer (some ⟨t_r, 0, none⟩)), (1, [], .string ⟨⟨s⟩⟩), (2, [], .bool false), (6, [], .string ⟨⟨[]⟩⟩), (7, [], .int .i64 0), (8, [], .bool false), (9, [], .int .i64 0), (10, [], .pointer (some ⟨t_r, 0, none⟩)), (11, [], .int .i64 0), (24, [], .bool false), (26, [], undef)] H18 rfl rfl rfl rfl rfl fun _ H19 => ?_
 clear H18
 refine m_skipG 24 [32, 0, 1, 2, 6, 7, 8, 9, 10, 11, 24] [(32, [], undef), (0, [], .pointer (some ⟨t_r, 0, none⟩)), (1, [], .string ⟨⟨s⟩⟩), (2, [], .bool false), (6, [], .string ⟨⟨[]⟩⟩), (7, [], .int .i64 0), (8, [], .bool false), (9, [], .int .i64 0), (10, [], .pointer (some ⟨t_r, 0, none⟩)), (11, [], .int .i64 0), (24, [], .bool false)] H19 rfl rfl rfl rfl rfl rfl fun _ H20 => ?_
 clear H19
 refine m_skipG 24 [33, 0, 1, 2, 6, 7, 8, 9, 10, 11, 24] [(33, [], undef), (0, [], .pointer (some ⟨t_r, 0, none⟩)), (1, [], .string ⟨⟨s⟩⟩), (2, [], .bool false), (6, [], .string ⟨⟨[]⟩⟩), (7, [], .int .i64 0), (8, [], .bool false), (9, [], .int .i64 0), (10, [], .pointer (some ⟨t_r, 0, none⟩)), (11, [], .int .i64 0), (24, [], .bool false)] H20 rfl rfl rfl rfl rfl rfl fun _ H21 => ?_
 clear H20
 refine wl_batch 16 17 [] [0, 1, 2, 6, 7, 8, 9, 10, 11, 34] [(0, [], .pointer (some ⟨t_r, 0, none⟩)), (1, [], .string ⟨⟨s⟩⟩), (2, [], .bool false), (6, [], .string ⟨⟨[]⟩⟩), (7, [], .int .i64 0), (8, [], .bool false), (9, [], .int .i64 0), (10, [], .pointer (some ⟨t_r, 0, none⟩)), (11, [], .int .i64 0), (34, [], .bool false)] [] H21 (by decide) (by kernel_rfl) trivial fun _ wd22 H23 hb => ?_
 clear H21
 replace hS := hS.below hb
 clear hb
 refine wl_end rfl ?_
 refine w_if H23 rfl (fun hc => by cases hc) (fun _ => ?_)
 refine w_skip ?_
 refine w_seq ?_
 refine s_reg [] [0, 1, 2, 6, 7, 8, 9, 10, 11, 45] [(0, [], .pointer (some ⟨t_r, 0, none⟩)), (1, [], .string ⟨⟨s⟩⟩), (2, [], .bool false), (6, [], .string ⟨⟨[]⟩⟩), (7, [], .int .i64 0), (8, [], .bool false), (9, [], .int .i64 0), (10, [], .pointer (some ⟨t_r, 0, none⟩)), (11, [], .int .i64 0), (45, [], .bool (s == []))] [] H23 (by kernel_rfl) trivial fun _ wd24 H25 hb => ?_
 clear H23
 replace hS := hS.below hb
 clear hb
 refine w_if H25 rfl (fun hc => ?c209) (fun hc => ?_)
 case c209 =>
  replace hm := bT hc hm
  refine w_exit rfl ?_
  refine w_ret ?_
  obtain rfl := someE hm
  exact retR3 H25 rfl rfl rfl rfl ⟨_, rfl, rfl, (hS.sel [] rfl)⟩
 replace hm := bF hc hm
 refine w_skip ?_
 refine s_reg [(.slice (some ⟨tb_r, 0, none⟩) 4 4)] [0, 1, 2, 6, 7, 8, 9, 10, 11, 50] [(0, [], .pointer (some ⟨t_r, 0, none⟩)), (1, [], .string ⟨⟨s⟩⟩), (2, [], .bool false), (6, [], .string ⟨⟨[]⟩⟩), (7, [], .int .i64 0), (8, [], .bool false), (9, [], .int .i64 0), (10, [], .pointer (some ⟨t_r, 0, none⟩)), (11, [], .int .i64 0), (50, [], .bool true)] [fun wz => V.at1 ⟨t_r, 4, none⟩ (.slice (some ⟨tb_r, 0, none⟩) 4 4) wz] H25 (by kernel_rfl) ⟨((hS.tr 0 rfl).bg.at1 rfl), trivial⟩ fun _ wd26 H27 hb => ?_
 clear H25
 replace hS := hS.below hb
 clear hb
 refine w_if H27 rfl (fun _ => ?_) (fun hc => by cases hc)
 obtain ⟨ho28, hm⟩ := chkE hm
 refine s_draw [(.int .u8 (gi gmap (bat s 0)))] [0, 1, 2, 6, 7, 8, 9, 10, 11, 12] [(0, [], .pointer (some ⟨t_r, 0, none⟩)), (1, [], .string ⟨⟨s⟩⟩), (2, [], .bool false), (6, [], .string ⟨⟨[]⟩⟩), (7, [], .int .i64 0), (8, [], .bool false), (9, [], .int .i64 0), (10, [], .pointer (some ⟨t_r, 0, none⟩)), (11, [], .int .i64 0), (12, [], .int .u8 (gi gmap (bat s 0)))] [fun _ => 0 ≤ (0 : Int) ∧ (0 : Int) < ln s, fun _ => 0 ≤ (bat s 0) ∧ (bat s 0) < (256 : Int), fun wz => V.at1 ⟨t_r, 6 + ((bat s 0)).toNat * 1, none⟩ (.int .u8 (gi gmap (bat s 0))) wz] H27 (by kernel_rfl) (by kernel_rfl) (by kernel_rfl) ⟨ho28, (bat_byte _ _), (Mix.ixn ⟨(hS.tr 0 rfl).bg, gmap_len⟩ rfl (bat_byte _ _)), trivial⟩ fun _ wd29 H30 hb => ?_
 clear H27
 replace hS := hS.below hb
 clear hb
 by_cases hx13 : (bat s 0) = 13
 ·replace hm := bT (decide_eq_true hx13) hm
  rw [show gi gmap (bat s 0) = 3 from by rw [hx13]; exact gmap13] at H30
  replace H30 := FrG.keep (l' := [(0, [], .pointer (some ⟨t_r, 0, none⟩)), (1, [], .string ⟨⟨s⟩⟩), (2, [], .bool false), (6, [], .string ⟨⟨[]⟩⟩), (7, [], .int .i64 0), (8, [], .bool false), (9, [], .int .i64 0), (10, [], .pointer (some ⟨t_r, 0, none⟩)), (11, [], .int .i64 0), (12, [], .int .u8 3)]) (ks := [0, 1, 2, 6, 7, 8, 9, 10, 11, 12]) H30 (by kernel_rfl)
  refine w_seq ?_
  refine s_reg [(.int .i64 4)] [0, 1, 2, 6, 7, 8, 9, 10, 11, 12, 64] [(0, [], .pointer (some ⟨t_r, 0, none⟩)), (1, [], .string ⟨⟨s⟩⟩), (2, [], .bool false), (6, [], .string ⟨⟨[]⟩⟩), (7, [], .int .i64 0), (8, [], .bool false), (9, [], .int .i64 0), (10, [], .pointer (some ⟨t_r, 0, none⟩)), (11, [], .int .i64 0), (12, [], .int .u8 3), (64, [], .bool false)] [fun wz => V.at1 ⟨t_r, 5, none⟩ (.int .i64 4) wz] H30 (by kernel_rfl) ⟨((hS.tr 0 rfl).bg.at1 rfl), trivial⟩ fun _ wd31 H32 hb => ?_
  clear H30
  replace hS := hS.below hb
  clear hb
  refine w_if H32 rfl (fun hc => by cases hc) (fun _ => ?_)
  refine w_skip ?_
  refine s_reg [(.slice (some ⟨tb_r, 0, none⟩) 4 4), (.pointer (some ⟨n1_r, 0, none⟩))] [0, 1, 2, 6, 7, 8, 9, 10, 11] [(0, [], .pointer (some ⟨t_r, 0, none⟩)), (1, [], .string ⟨⟨s⟩⟩), (2, [], .bool false), (6, [], .string ⟨⟨[]⟩⟩), (7, [], .int .i64 0), (8, [], .bool false), (9, [], .int .i64 0), (10, [], .pointer (some ⟨n1_r, 0, none⟩)), (11, [], .int .i64 0)] [fun wz => V.at1 ⟨t_r, 4, none⟩ (.slice (some ⟨tb_r, 0, none⟩) 4 4) wz, fun _ => oka (some ⟨tb_r, 0, none⟩) ∧ 0 ≤ (3 : Int) ∧ (3 : Int) < 4, fun wz => V.at1 ⟨tb_r, 3, none⟩ (.pointer (some ⟨n1_r, 0, none⟩)) wz] H32 (by kernel_rfl) ⟨((hS.tr 0 rfl).bg.at1 rfl), (⟨rfl, (show 0 ≤ (3 : Int) ∧ (3 : Int) < 4 from by decide)⟩), ((hS.tr 0 rfl).bt.at1 rfl), trivial⟩ fun _ wd33 H34 hb => ?_
  clear H32
  replace hS := hS.below hb
  clear hb
  obtain ⟨ho35, hm⟩ := chkE hm
  refine s_reg [] [0, 1, 2, 6, 7, 8, 9, 10, 11] [(0, [], .pointer (some ⟨t_r, 0, none⟩)), (1, [], .string ⟨⟨sub s 1 (ln s)⟩⟩), (2, [], .bool false), (6, [], .string ⟨⟨[]⟩⟩), (7, [], .int .i64 0), (8, [], .bool false), (9, [], .int .i64 0), (10, [], .pointer (some ⟨n1_r, 0, none⟩)), (11, [], .int .i64 0)] [fun _ => 0 ≤ (1 : Int) ∧ (1 : Int) ≤ ln s] H34 (by kernel_rfl) ⟨ho35, trivial⟩ fun _ wd36 H37 hb => ?_
  clear H34
  replace hS := hS.below hb
  clear hb
  refine w_reg [] [0, 1, 2, 6, 7, 8, 9, 10, 11] [(0, [], .pointer (some ⟨t_r, 0, none⟩)), (1, [], .string ⟨⟨sub s 1 (ln s)⟩⟩), (2, [], .bool false), (6, [], .string ⟨⟨[]⟩⟩), (7, [], .int .i64 0), (8, [], .bool false), (9, [], .int .i64 0), (10, [], .pointer (some ⟨n1_r, 0, none⟩)), (11, [], .int .i64 1)] [] H37 (by kernel_rfl) trivial fun _ wd38 H39 hb => ?_
  clear H37
  replace hS := hS.below hb
  clear hb
  refine lw_round ?_
  refine w_seq ?_
  refine s_reg [] [0, 1, 2, 6, 7, 8, 9, 10, 11, 17] [(0, [], .pointer (some ⟨t_r, 0, none⟩)), (1, [], .string ⟨⟨sub s 1 (ln s)⟩⟩), (2, [], .bool false), (6, [], .string ⟨⟨[]⟩⟩), (7, [], .int .i64 0), (8, [], .bool false), (9, [], .int .i64 0), (10, [], .pointer (some ⟨n1_r, 0, none⟩)), (11, [], .int .i64 1), (17, [], .bool true)] [] H39 (by kernel_rfl) trivial fun _ wd40 H41 hb => ?_
  clear H39
  replace hS := hS.below hb
  clear hb
  refine w_if H41 rfl (fun _ => ?_) (fun hc => by cases hc)
  refine w_skip ?_
  refine w_block ?_
  refine w_seq ?_
  refine w_seq ?_
  refine wl_start ?_
  refine wl_batchM 0 9 [(.int .i64 6)] [(0, 0), (1, 0), (2, 0), (6, 0), (7, 0), (8, 0), (9, 0), (10, 0), (11, 0), (24, 0), (26, 1)] [(0, [], .pointer (some ⟨t_r, 0, none⟩)), (1, [], .string ⟨⟨sub s 1 (ln s)⟩⟩), (2, [], .bool false), (6, [], .string ⟨⟨[]⟩⟩), (7, [], .int .i64 0), (8, [], .bool false), (9, [], .int .i64 0), (10, [], .pointer (some ⟨n1_r, 0, none⟩)), (11, [], .int .i64 1), (24, [], .bool true), (26, [], .bool false)] [fun wz => V.at1 ⟨n1_r, 1, none⟩ (.int .i64 6) wz] H41 (by decide) (by kernel_rfl) ⟨((hS.tr 0 rfl).b1.at1 rfl), trivial⟩ fun _ wd42 H43 hb => ?_
  clear H41
  replace hS := hS.below hb
  clear hb
  refine m_skipG 26 [27, 0, 1, 2, 6, 7, 8, 9, 10, 11, 24, 26] [(27, [], undef), (0, [], .pointer (some ⟨t_r, 0, none⟩)), (1, [], .string ⟨⟨sub s 1 (ln s)⟩⟩), (2, [], .bool false), (6, [], .string ⟨⟨[]⟩⟩), (7, [], .int .i64 0), (8, [], .bool false), (9, [], .int .i64 0), (10, [], .pointer (some ⟨n1_r, 0, none⟩)), (11, [], .int .i64 1), (24, [], .bool true), (26, [], .bool false)] H43 rfl rfl rfl rfl rfl rfl fun _ H44 => ?_
  clear H43
  refine m_skipG 26 [28, 0, 1, 2, 6, 7, 8, 9, 10, 11, 24, 26, 27] [(28, [], undef), (0, [], .pointer (some ⟨t_r, 0, none⟩)), (1, [], .string ⟨⟨sub s 1 (ln s)⟩⟩), (2, [], .bool false), (6, [], .string ⟨⟨[]⟩⟩), (7, [], .int .i64 0), (8, [], .bool false), (9, [], .int .i64 0), (10, [], .pointer (some ⟨n1_r, 0, none⟩)), (11, [], .int .i64 1), (24, [], .bool true), (26, [], .bool false), (27, [], undef)] H44 rfl rfl rfl rfl rfl rfl fun _ H45 => ?_
  clear H44
  refine m_skipG 26 [29, 0, 1, 2, 6, 7, 8, 9, 10, 11, 24, 26, 27] [(29, [], undef), (0, [], .pointer (some ⟨t_r, 0, none⟩)), (1, [], .string ⟨⟨sub s 1 (ln s)⟩⟩), (2, [], .bool false), (6, [], .string ⟨⟨[]⟩⟩), (7, [], .int .i64 0), (8, [], .bool false), (9, [], .int .i64 0), (10, [], .pointer (some ⟨n1_r, 0, none⟩)), (11, [], .int .i64 1), (24, [], .bool true), (26, [], .bool false), (27, [], undef)] H45 rfl rfl rfl rfl rfl rfl fun _ H46 => ?_
  clear H45
  refine m_skipG 26 [30, 0, 1, 2, 6, 7, 8, 9, 10, 11, 24, 26, 27] [(30, [], undef), (0, [], .pointer (some ⟨t_r, 0, none⟩)), (1, [], .string ⟨⟨sub s 1 (ln s)⟩⟩), (2, [], .bool false), (6, [], .string ⟨⟨[]⟩⟩), (7, [], .int .i64 0), (8, [], .bool false), (9, [], .int .i64 0), (10, [], .pointer (some ⟨n1_r, 0, none⟩)), (11, [], .int .i64 1), (24, [], .bool true), (26, [], .bool false), (27, [], undef)] H46 rfl rfl rfl rfl rfl rfl fun _ H47 => ?_
  clear H46
  refine m_skipG 26 [31, 0, 1, 2, 6, 7, 8, 9, 10, 11, 24, 26] [(31, [], undef), (0, [], .pointer (some ⟨t_r, 0, none⟩)), (1, [], .string ⟨⟨sub s 1 (ln s)⟩⟩), (2, [], .bool false), (6, [], .string ⟨⟨[]⟩⟩), (7, [], .int .i64 0), (8, [], .bool false), (9, [], .int .i64 0), (10, [], .pointer (some ⟨n1_r, 0, none⟩)), (11, [], .int .i64 1), (24, [], .bool true), (26, [], .bool false)] H47 rfl rfl rfl rfl rfl rfl fun _ H48 => ?_
  clear H47
  refine wl_batch 14 17 [] [0, 1, 2, 6, 7, 8, 9, 10, 11, 34] [(0, [], .pointer (some ⟨t_r, 0, none⟩)), (1, [], .string ⟨⟨sub s 1 (ln s)⟩⟩), (2, [], .bool false), (6, [], .string ⟨⟨[]⟩⟩), (7, [], .int .i64 0), (8, [], .bool false), (9, [], .int .i64 0), (10, [], .pointer (some ⟨n1_r, 0, none⟩)), (11, [], .int .i64 1), (34, [], .bool true)] [] H48 (by decide) (by kernel_rfl) trivial fun _ wd49 H50 hb => ?_
  clear H48
  replace hS := hS.below hb
  clear hb
  refine wl_end rfl ?_
  refine w_if H50 rfl (fun _ => ?_) (fun hc => by cases hc)
  refine s_reg [(.int .i64 6)] [0, 1, 2, 9, 10, 11] [(0, [], .pointer (some ⟨t_r, 0, none⟩)), (1, [], .string ⟨⟨sub s 1 (ln s)⟩⟩), (2, [], .bool false), (9, [], .int .i64 6), (10, [], .pointer (some ⟨n1_r, 0, none⟩)), (11, [], .int .i64 1)] [fun wz => V.at1 ⟨n1_r, 1, none⟩ (.int .i64 6) wz] H50 (by kernel_rfl) ⟨((hS.tr 0 rfl).b1.at1 rfl), trivial⟩ fun _ wd51 H52 hb => ?_
  clear H50
  replace hS := hS.below hb
  clear hb
  refine s_reg [(.string ⟨⟨[10]⟩⟩)] [0, 1, 2, 6, 9, 10, 11] [(0, [], .pointer (some ⟨t_r, 0, none⟩)), (1, [], .string ⟨⟨sub s 1 (ln s)⟩⟩), (2, [], .bool false), (6, [], .string ⟨⟨[10]⟩⟩), (9, [], .int .i64 6), (10, [], .pointer (some ⟨n1_r, 0, none⟩)), (11, [], .int .i64 1)] [fun wz => V.at1 ⟨n1_r, 0, none⟩ (.string ⟨⟨[10]⟩⟩) wz] H52 (by kernel_rfl) ⟨((hS.tr 0 rfl).b1.at1 rfl), trivial⟩ fun _ wd53 H54 hb => ?_
  clear H52
  replace hS := hS.below hb
  clear hb
  refine s_reg [] [0, 1, 2, 6, 7, 9, 10, 11] [(0, [], .pointer (some ⟨t_r, 0, none⟩)), (1, [], .string ⟨⟨sub s 1 (ln s)⟩⟩), (2, [], .bool false), (6, [], .string ⟨⟨[10]⟩⟩), (7, [], .int .i64 1), (9, [], .int .i64 6), (10, [], .pointer (some ⟨n1_r, 0, none⟩)), (11, [], .int .i64 1)] [] H54 (by kernel_rfl) trivial fun _ wd55 H56 hb => ?_
  clear H54
  replace hS := hS.below hb
  clear hb
  refine w_reg [] [0, 1, 2, 6, 7, 8, 9, 10, 11] [(0, [], .pointer (some ⟨t_r, 0, none⟩)), (1, [], .string ⟨⟨sub s 1 (ln s)⟩⟩), (2, [], .bool false), (6, [], .string ⟨⟨[10]⟩⟩), (7, [], .int .i64 1), (8, [], .bool true), (9, [], .int .i64 6), (10, [], .pointer (some ⟨n1_r, 0, none⟩)), (11, [], .int .i64 1)] [] H56 (by kernel_rfl) trivial fun _ wd57 H58 hb => ?_
  clear H56
  replace hS := hS.below hb
  clear hb
  refine w_seq ?_
  refine s_reg [] [0, 1, 2, 6, 7, 8, 9, 10, 11, 45] [(0, [], .pointer (some ⟨t_r, 0, none⟩)), (1, [], .string ⟨⟨sub s 1 (ln s)⟩⟩), (2, [], .bool false), (6, [], .string ⟨⟨[10]⟩⟩), (7, [], .int .i64 1), (8, [], .bool true), (9, [], .int .i64 6), (10, [], .pointer (some ⟨n1_r, 0, none⟩)), (11, [], .int .i64 1), (45, [], .bool ((sub s 1 (ln s)) == []))] [] H58 (by kernel_rfl) trivial fun _ wd59 H60 hb => ?_
  clear H58
  replace hS := hS.below hb
  clear hb
  refine w_if H60 rfl (fun hc => ?c109) (fun hc => ?_)
  case c109 =>
   replace hm := bT hc hm
   refine w_exit rfl ?_
   refine w_ret ?_
   obtain rfl := someE hm
   exact retR3 H60 rfl rfl rfl rfl ⟨_, rfl, rfl, (hS.sel [] rfl)⟩
  replace hm := bF hc hm
  refine w_skip ?_
  refine s_reg [(.slice none 0 0)] [0, 1, 2, 6, 7, 8, 9, 10, 11, 50] [(0, [], .pointer (some ⟨t_r, 0, none⟩)), (1, [], .string ⟨⟨sub s 1 (ln s)⟩⟩), (2, [], .bool false), (6, [], .string ⟨⟨[10]⟩⟩), (7, [], .int .i64 1), (8, [], .bool true), (9, [], .int .i64 6), (10, [], .pointer (some ⟨n1_r, 0, none⟩)), (11, [], .int .i64 1), (50, [], .bool false)] [fun wz => V.at1 ⟨n1_r, 4, none⟩ (.slice none 0 0) wz] H60 (by kernel_rfl) ⟨((hS.tr 0 rfl).b1.at1 rfl), trivial⟩ fun _ wd61 H62 hb => ?_
  clear H60
  replace hS := hS.below hb
  clear hb
  refine w_if H62 rfl (fun hc => by cases hc) (fun _ => ?_)
  obtain ⟨y63, hy63, hm⟩ := bindE hm
  refine s_reg [(.string ⟨⟨[10]⟩⟩), (.string ⟨⟨[10]⟩⟩), (.bool y63)] [0, 1, 2, 6, 7, 8, 9, 10, 11, 88] [(0, [], .pointer (some ⟨t_r, 0, none⟩)), (1, [], .string ⟨⟨sub s 1 (ln s)⟩⟩), (2, [], .bool false), (6, [], .string ⟨⟨[10]⟩⟩), (7, [], .int .i64 1), (8, [], .bool true), (9, [], .int .i64 6), (10, [], .pointer (some ⟨n1_r, 0, none⟩)), (11, [], .int .i64 1), (88, [], .bool y63)] [fun wz => V.at1 ⟨n1_r, 2, none⟩ (.string ⟨⟨[10]⟩⟩) wz, fun wz => (true = true ∧ True → V.at1 ⟨n1_r, 2, none⟩ (.string ⟨⟨[10]⟩⟩) wz), fun wz => (true = true ∧ True → RetB Try.prog 78 ⟨[.string ⟨⟨sub s 1 (ln s)⟩⟩, .string ⟨⟨[10]⟩⟩]⟩ (.bool y63) wz)] H62 (by kernel_rfl) ⟨((hS.tr 0 rfl).b1.at1 rfl), fun hg => (hS.tr 0 rfl).b1.at1 rfl, fun hg => (strings_HasPrefix_ok _ _ _ hy63).b, trivial⟩ fun _ wd64 H65 hb => ?_
  clear H62
  replace hS := hS.below hb
  clear hb
  refine w_if H65 rfl (fun hc => ?_) (fun hc => ?c108)
  case c108 =>
   replace hm := bF hc hm
   refine w_exit rfl ?_
   refine w_ret ?_
   obtain rfl := someE hm
   exact retR3 H65 rfl rfl rfl rfl ⟨_, rfl, rfl, (hS.sel [] rfl)⟩
  replace hm := bT hc hm
  refine s_reg [(.string ⟨⟨[10]⟩⟩)] [0, 1, 2, 6, 7, 8, 9, 10, 11] [(0, [], .pointer (some ⟨t_r, 0, none⟩)), (1, [], .string ⟨⟨sub s 1 (ln s)⟩⟩), (2, [], .bool false), (6, [], .string ⟨⟨[10]⟩⟩), (7, [], .int .i64 1), (8, [], .bool true), (9, [], .int .i64 6), (10, [], .pointer (some ⟨n1_r, 0, none⟩)), (11, [], .int .i64 2)] [fun wz => V.at1 ⟨n1_r, 2, none⟩ (.string ⟨⟨[10]⟩⟩) wz] H65 (by kernel_rfl) ⟨((hS.tr 0 rfl).b1.at1 rfl), trivial⟩ fun _ wd66 H67 hb => ?_
  clear H65
  replace hS := hS.below hb
  clear hb
  obtain ⟨ho68, hm⟩ := chkE hm
  obtain ⟨x69, hx69, hm⟩ := letE hm
  refine s_reg [(.string ⟨⟨[10]⟩⟩)] [0, 1, 2, 6, 7, 8, 9, 10, 11] [(0, [], .pointer (some ⟨t_r, 0, none⟩)), (1, [], .string ⟨⟨x69⟩⟩), (2, [], .bool false), (6, [], .string ⟨⟨[10]⟩⟩), (7, [], .int .i64 1), (8, [], .bool true), (9, [], .int .i64 6), (10, [], .pointer (some ⟨n1_r, 0, none⟩)), (11, [], .int .i64 2)] [fun wz => V.at1 ⟨n1_r, 2, none⟩ (.string ⟨⟨[10]⟩⟩) wz, fun _ => 0 ≤ (1 : Int) ∧ (1 : Int) ≤ ln (sub s 1 (ln s))] H67 (by subst hx69; kernel_rfl) ⟨((hS.tr 0 rfl).b1.at1 rfl), ho68, trivial⟩ fun _ wd70 H71 hb => ?_
  clear H67
  replace hS := hS.below hb
  clear hb
  refine w_reg [(.pointer (some ⟨n2_r, 0, none⟩))] [0, 1, 2, 6, 7, 8, 9, 10, 11] [(0, [], .pointer (some ⟨t_r, 0, none⟩)), (1, [], .string ⟨⟨x69⟩⟩), (2, [], .bool false), (6, [], .string ⟨⟨[10]⟩⟩), (7, [], .int .i64 1), (8, [], .bool true), (9, [], .int .i64 6), (10, [], .pointer (some ⟨n2_r, 0, none⟩)), (11, [], .int .i64 2)] [fun wz => V.at1 ⟨n1_r, 3, none⟩ (.pointer (some ⟨n2_r, 0, none⟩)) wz] H71 (by kernel_rfl) ⟨((hS.tr 0 rfl).b1.at1 rfl), trivial⟩ fun _ wd72 H73 hb => ?_
  clear H71
  replace hS := hS.below hb
  clear hb
  refine lw_round ?_
  refine w_seq ?_
  refine s_reg [] [0, 1, 2, 6, 7, 8, 9, 10, 11, 17] [(0, [], .pointer (some ⟨t_r, 0, none⟩)), (1, [], .string ⟨⟨x69⟩⟩), (2, [], .bool false), (6, [], .string ⟨⟨[10]⟩⟩), (7, [], .int .i64 1), (8, [], .bool true), (9, [], .int .i64 6), (10, [], .pointer (some ⟨n2_r, 0, none⟩)), (11, [], .int .i64 2), (17, [], .bool true)] [] H73 (by kernel_rfl) trivial fun _ wd74 H75 hb => ?_
  clear H73
  replace hS := hS.below hb
  clear hb
  refine w_if H75 rfl (fun _ => ?_) (fun hc => by cases hc)
  refine w_skip ?_
  refine w_block ?_
  refine w_seq ?_
  refine w_seq ?_
  refine wl_start ?_
  refine wl_batchM 0 9 [(.int .i64 8)] [(0, 0), (1, 0), (2, 0), (6, 0), (7, 0), (8, 0), (9, 0), (10, 0), (11, 0), (24, 0), (26, 1)] [(0, [], .pointer (some ⟨t_r, 0, none⟩)), (1, [], .string ⟨⟨x69⟩⟩), (2, [], .bool false), (6, [], .string ⟨⟨[10]⟩⟩), (7, [], .int .i64 1), (8, [], .bool true), (9, [], .int .i64 6), (10, [], .pointer (some ⟨n2_r, 0, none⟩)), (11, [], .int .i64 2), (24, [], .bool true), (26, [], .bool false)] [fun wz => V.at1 ⟨n2_r, 1, none⟩ (.int .i64 8) wz] H75 (by decide) (by kernel_rfl) ⟨((hS.tr 0 rfl).b2.at1 rfl), trivial⟩ fun _ wd76 H77 hb => ?_
  clear H75
  replace hS := hS.below hb
  clear hb
  refine m_skipG 26 [27, 0, 1, 2, 6, 7, 8, 9, 10, 11, 24, 26] [(27, [], undef), (0, [], .pointer (some ⟨t_r, 0, none⟩)), (1, [], .string ⟨⟨x69⟩⟩), (2, [], .bool false), (6, [], .string ⟨⟨[10]⟩⟩), (7, [], .int .i64 1), (8, [], .bool true), (9, [], .int .i64 6), (10, [], .pointer (some ⟨n2_r, 0, none⟩)), (11, [], .int .i64 2), (24, [], .bool true), (26, [], .bool false)] H77 rfl rfl rfl rfl rfl rfl fun _ H78 => ?_
  clear H77
  refine m_skipG 26 [28, 0, 1, 2, 6, 7, 8, 9, 10, 11, 24, 26, 27] [(28, [], undef), (0, [], .pointer (some ⟨t_r, 0, none⟩)), (1, [], .string ⟨⟨x69⟩⟩), (2, [], .bool false), (6, [], .string ⟨⟨[10]⟩⟩), (7, [], .int .i64 1), (8, [], .bool true), (9, [], .int .i64 6), (10, [], .pointer (some ⟨n2_r, 0, none⟩)), (11, [], .int .i64 2), (24, [], .bool true), (26, [], .bool false), (27, [], undef)] H78 rfl rfl rfl rfl rfl rfl fun _ H79 => ?_
  clear H78
  refine m_skipG 26 [29, 0, 1, 2, 6, 7, 8, 9, 10, 11, 24, 26, 27] [(29, [], undef), (0, [], .pointer (some ⟨t_r, 0, none⟩)), (1, [], .string ⟨⟨x69⟩⟩), (2, [], .bool false), (6, [], .string ⟨⟨[10]⟩⟩), (7, [], .int .i64 1), (8, [], .bool true), (9, [], .int .i64 6), (10, [], .pointer (some ⟨n2_r, 0, none⟩)), (11, [], .int .i64 2), (24, [], .bool true), (26, [], .bool false), (27, [], undef)] H79 rfl rfl rfl rfl rfl rfl fun _ H80 => ?_
  clear H79
  refine m_skipG 26 [30, 0, 1, 2, 6, 7, 8, 9, 10, 11, 24, 26, 27] [(30, [], undef), (0, [], .pointer (some ⟨t_r, 0, none⟩)), (1, [], .string ⟨⟨x69⟩⟩), (2, [], .bool false), (6, [], .string ⟨⟨[10]⟩⟩), (7, [], .int .i64 1), (8, [], .bool true), (9, [], .int .i64 6), (10, [], .pointer (some ⟨n2_r, 0, none⟩)), (11, [], .int .i64 2), (24, [], .bool true), (26, [], .bool false), (27, [], undef)] H80 rfl rfl rfl rfl rfl rfl fun _ H81 => ?_
  clear H80
  refine m_skipG 26 [31, 0, 1, 2, 6, 7, 8, 9, 10, 11, 24, 26] [(31, [], undef), (0, [], .pointer (some ⟨t_r, 0, none⟩)), (1, [], .string ⟨⟨x69⟩⟩), (2, [], .bool false), (6, [], .string ⟨⟨[10]⟩⟩), (7, [], .int .i64 1), (8, [], .bool true), (9, [], .int .i64 6), (10, [], .pointer (some ⟨n2_r, 0, none⟩)), (11, [], .int .i64 2), (24, [], .bool true), (26, [], .bool false)] H81 rfl rfl rfl rfl rfl rfl fun _ H82 => ?_
  clear H81
  refine wl_batch 14 17 [] [0, 1, 2, 6, 7, 8, 9, 10, 11, 34] [(0, [], .pointer (some ⟨t_r, 0, none⟩)), (1, [], .string ⟨⟨x69⟩⟩), (2, [], .bool false), (6, [], .string ⟨⟨[10]⟩⟩), (7, [], .int .i64 1), (8, [], .bool true), (9, [], .int .i64 6), (10, [], .pointer (some ⟨n2_r, 0, none⟩)), (11, [], .int .i64 2), (34, [], .bool true)] [] H82 (by decide) (by kernel_rfl) trivial fun _ wd83 H84 hb => ?_
  clear H82
  replace hS := hS.below hb
  clear hb
  refine wl_end rfl ?_
  refine w_if H84 rfl (fun _ => ?_) (fun hc => by cases hc)
  refine s_reg [(.int .i64 8)] [0, 1, 2, 9, 10, 11] [(0, [], .pointer (some ⟨t_r, 0, none⟩)), (1, [], .string ⟨⟨x69⟩⟩), (2, [], .bool false), (9, [], .int .i64 8), (10, [], .pointer (some ⟨n2_r, 0, none⟩)), (11, [], .int .i64 2)] [fun wz => V.at1 ⟨n2_r, 1, none⟩ (.int .i64 8) wz] H84 (by kernel_rfl) ⟨((hS.tr 0 rfl).b2.at1 rfl), trivial⟩ fun _ wd85 H86 hb => ?_
  clear H84
  replace hS := hS.below hb
  clear hb
  refine s_reg [(.string ⟨⟨[10]⟩⟩)] [0, 1, 2, 6, 9, 10, 11] [(0, [], .pointer (some ⟨t_r, 0, none⟩)), (1, [], .string ⟨⟨x69⟩⟩), (2, [], .bool false), (6, [], .string ⟨⟨[10]⟩⟩), (9, [], .int .i64 8), (10, [], .pointer (some ⟨n2_r, 0, none⟩)), (11, [], .int .i64 2)] [fun wz => V.at1 ⟨n2_r, 0, none⟩ (.string ⟨⟨[10]⟩⟩) wz] H86 (by kernel_rfl) ⟨((hS.tr 0 rfl).b2.at1 rfl), trivial⟩ fun _ wd87 H88 hb => ?_
  clear H86
  replace hS := hS.below hb
  clear hb
  refine s_reg [] [0, 1, 2, 6, 7, 9, 10, 11] [(0, [], .pointer (some ⟨t_r, 0, none⟩)), (1, [], .string ⟨⟨x69⟩⟩), (2, [], .bool false), (6, [], .string ⟨⟨[10]⟩⟩), (7, [], .int .i64 2), (9, [], .int .i64 8), (10, [], .pointer (some ⟨n2_r, 0, none⟩)), (11, [], .int .i64 2)] [] H88 (by kernel_rfl) trivial fun _ wd89 H90 hb => ?_
  clear H88
  replace hS := hS.below hb
  clear hb
  refine w_reg [] [0, 1, 2, 6, 7, 8, 9, 10, 11] [(0, [], .pointer (some ⟨t_r, 0, none⟩)), (1, [], .string ⟨⟨x69⟩⟩), (2, [], .bool false), (6, [], .string ⟨⟨[10]⟩⟩), (7, [], .int .i64 2), (8, [], .bool true), (9, [], .int .i64 8), (10, [], .pointer (some ⟨n2_r, 0, none⟩)), (11, [], .int .i64 2)] [] H90 (by kernel_rfl) trivial fun _ wd91 H92 hb => ?_
  clear H90
  replace hS := hS.below hb
  clear hb
  refine w_seq ?_
  refine s_reg [] [0, 1, 2, 6, 7, 8, 9, 10, 11, 45] [(0, [], .pointer (some ⟨t_r, 0, none⟩)), (1, [], .string ⟨⟨x69⟩⟩), (2, [], .bool false), (6, [], .string ⟨⟨[10]⟩⟩), (7, [], .int .i64 2), (8, [], .bool true), (9, [], .int .i64 8), (10, [], .pointer (some ⟨n2_r, 0, none⟩)), (11, [], .int .i64 2), (45, [], .bool (x69 == []))] [] H92 (by kernel_rfl) trivial fun _ wd93 H94 hb => ?_
  clear H92
  replace hS := hS.below hb
  clear hb
  refine w_if H94 rfl (fun hc => ?c107) (fun hc => ?_)
  case c107 =>
   replace hm := bT hc hm
   refine w_exit rfl ?_
   refine w_ret ?_
   obtain rfl := someE hm
   exact retR3 H94 rfl rfl rfl rfl ⟨_, rfl, rfl, (hS.sel [] rfl)⟩
  replace hm := bF hc hm
  refine w_skip ?_
  refine s_reg [(.slice none 0 0)] [0, 1, 2, 6, 7, 8, 9, 10, 11, 50] [(0, [], .pointer (some ⟨t_r, 0, none⟩)), (1, [], .string ⟨⟨x69⟩⟩), (2, [], .bool false), (6, [], .string ⟨⟨[10]⟩⟩), (7, [], .int .i64 2), (8, [], .bool true), (9, [], .int .i64 8), (10, [], .pointer (some ⟨n2_r, 0, none⟩)), (11, [], .int .i64 2), (50, [], .bool false)] [fun wz => V.at1 ⟨n2_r, 4, none⟩ (.slice none 0 0) wz] H94 (by kernel_rfl) ⟨((hS.tr 0 rfl).b2.at1 rfl), trivial⟩ fun _ wd95 H96 hb => ?_
  clear H94
  replace hS := hS.below hb
  clear hb
  refine w_if H96 rfl (fun hc => by cases hc) (fun _ => ?_)
  refine w_seq ?_
  refine wl_start ?_
  refine wl_batch 0 6 [(.string ⟨⟨[]⟩⟩)] [0, 1, 2, 6, 7, 8, 9, 10, 11, 81] [(0, [], .pointer (some ⟨t_r, 0, none⟩)), (1, [], .string ⟨⟨x69⟩⟩), (2, [], .bool false), (6, [], .string ⟨⟨[10]⟩⟩), (7, [], .int .i64 2), (8, [], .bool true), (9, [], .int .i64 8), (10, [], .pointer (some ⟨n2_r, 0, none⟩)), (11, [], .int .i64 2), (81, [], .bool false)] [fun wz => V.at1 ⟨n2_r, 2, none⟩ (.string ⟨⟨[]⟩⟩) wz] H96 (by decide) (by kernel_rfl) ⟨((hS.tr 0 rfl).b2.at1 rfl), trivial⟩ fun _ wd97 H98 hb => ?_
  clear H96
  replace hS := hS.below hb
  clear hb
  refine m_skipG 81 [82, 0, 1, 2, 6, 7, 8, 9, 10, 11, 81] [(82, [], undef), (0, [], .pointer (some ⟨t_r, 0, none⟩)), (1, [], .string ⟨⟨x69⟩⟩), (2, [], .bool false), (6, [], .string ⟨⟨[10]⟩⟩), (7, [], .int .i64 2), (8, [], .bool true), (9, [], .int .i64 8), (10, [], .pointer (some ⟨n2_r, 0, none⟩)), (11, [], .int .i64 2), (81, [], .bool false)] H98 rfl rfl rfl rfl rfl rfl fun _ H99 => ?_
  clear H98
  refine m_skipG 81 [83, 0, 1, 2, 6, 7, 8, 9, 10, 11, 81, 82] [(83, [], undef), (0, [], .pointer (some ⟨t_r, 0, none⟩)), (1, [], .string ⟨⟨x69⟩⟩), (2, [], .bool false), (6, [], .string ⟨⟨[10]⟩⟩), (7, [], .int .i64 2), (8, [], .bool true), (9, [], .int .i64 8), (10, [], .pointer (some ⟨n2_r, 0, none⟩)), (11, [], .int .i64 2), (81, [], .bool false), (82, [], undef)] H99 rfl rfl rfl rfl rfl rfl fun _ H100 => ?_
  clear H99
  refine m_skipG 81 [84, 0, 1, 2, 6, 7, 8, 9, 10, 11, 81, 82] [(84, [], undef), (0, [], .pointer (some ⟨t_r, 0, none⟩)), (1, [], .string ⟨⟨x69⟩⟩), (2, [], .bool false), (6, [], .string ⟨⟨[10]⟩⟩), (7, [], .int .i64 2), (8, [], .bool true), (9, [], .int .i64 8), (10, [], .pointer (some ⟨n2_r, 0, none⟩)), (11, [], .int .i64 2), (81, [], .bool false), (82, [], undef)] H100 rfl rfl rfl rfl rfl rfl fun _ H101 => ?_
  clear H100
  refine m_skipG 81 [85, 0, 1, 2, 6, 7, 8, 9, 10, 11, 81, 82] [(85, [], undef), (0, [], .pointer (some ⟨t_r, 0, none⟩)), (1, [], .string ⟨⟨x69⟩⟩), (2, [], .bool false), (6, [], .string ⟨⟨[10]⟩⟩), (7, [], .int .i64 2), (8, [], .bool true), (9, [], .int .i64 8), (10, [], .pointer (some ⟨n2_r, 0, none⟩)), (11, [], .int .i64 2), (81, [], .bool false), (82, [], undef)] H101 rfl rfl rfl rfl rfl rfl fun _ H102 => ?_
  clear H101
  refine m_skipG 81 [86, 0, 1, 2, 6, 7, 8, 9, 10, 11, 81, 82] [(86, [], undef), (0, [], .pointer (some ⟨t_r, 0, none⟩)), (1, [], .string ⟨⟨x69⟩⟩), (2, [], .bool false), (6, [], .string ⟨⟨[10]⟩⟩), (7, [], .int .i64 2), (8, [], .bool true), (9, [], .int .i64 8), (10, [], .pointer (some ⟨n2_r, 0, none⟩)), (11, [], .int .i64 2), (81, [], .bool false), (82, [], undef)] H102 rfl rfl rfl rfl rfl rfl fun _ H103 => ?_
  clear H102
  refine m_skipG 81 [87, 0, 1, 2, 6, 7, 8, 9, 10, 11, 81] [(87, [], undef), (0, [], .pointer (some ⟨t_r, 0, none⟩)), (1, [], .string ⟨⟨x69⟩⟩), (2, [], .bool false), (6, [], .string ⟨⟨[10]⟩⟩), (7, [], .int .i64 2), (8, [], .bool true), (9, [], .int .i64 8), (10, [], .pointer (some ⟨n2_r, 0, none⟩)), (11, [], .int .i64 2), (81, [], .bool false)] H103 rfl rfl rfl rfl rfl rfl fun _ H104 => ?_
  clear H103
  refine wl_batch 12 13 [] [0, 1, 2, 6, 7, 8, 9, 10, 11, 88] [(0, [], .pointer (some ⟨t_r, 0, none⟩)), (1, [], .string ⟨⟨x69⟩⟩), (2, [], .bool false), (6, [], .string ⟨⟨[10]⟩⟩), (7, [], .int .i64 2), (8, [], .bool true), (9, [], .int .i64 8), (10, [], .pointer (some ⟨n2_r, 0, none⟩)), (11, [], .int .i64 2), (88, [], .bool false)] [] H104 (by decide) (by kernel_rfl) trivial fun _ wd105 H106 hb => ?_
  clear H104
  replace hS := hS.below hb
  clear hb
  refine wl_end rfl ?_
  refine w_if H106 rfl (fun hc => by cases hc) (fun _ => ?_)
  refine w_exit rfl ?_
  refine w_ret ?_
  obtain rfl := someE hm
  exact retR3 H106 rfl rfl rfl rfl ⟨_, rfl, rfl, (hS.sel [] rfl)⟩
 replace hm := bF (decide_eq_false hx13) hm
 by_cases hx12 : (bat s 0) = 12
 ·replace hm := bT (decide_eq_true hx12) hm
  rw [show gi gmap (bat s 0) = 2 from by rw [hx12]; exact gmap12] at H30
  replace H30 := FrG.keep (l' := [(0, [], .pointer (some ⟨t_r, 0, none⟩)), (1, [], .string ⟨⟨s⟩⟩), (2, [], .bool false), (6, [], .string ⟨⟨[]⟩⟩), (7, [], .int .i64 0), (8, [], .bool false), (9, [], .int .i64 0), (10, [], .pointer (some ⟨t_r, 0, none⟩)), (11, [], .int .i64 0), (12, [], .int .u8 2)]) (ks := [0, 1, 2, 6, 7, 8, 9, 10, 11, 12]) H30 (by kernel_rfl)
  refine w_seq ?_
  refine s_reg [(.int .i64 4)] [0, 1, 2, 6, 7, 8, 9, 10, 11, 12, 64] [(0, [], .pointer (some ⟨t_r, 0, none⟩)), (1, [], .string ⟨⟨s⟩⟩), (2, [], .bool false), (6, [], .string ⟨⟨[]⟩⟩), (7, [], .int .i64 0), (8, [], .bool false), (9, [], .int .i64 0), (10, [], .pointer (some ⟨t_r, 0, none⟩)), (11, [], .int .i64 0), (12, [], .int .u8 2), (64, [], .bool false)] [fun wz => V.at1 ⟨t_r, 5, none⟩ (.int .i64 4) wz] H30 (by kernel_rfl) ⟨((hS.tr 0 rfl).bg.at1 rfl), trivial⟩ fun _ wd110 H111 hb => ?_
  clear H30
  replace hS := hS.below hb
  clear hb
  refine w_if H111 rfl (fun hc => by cases hc) (fun _ => ?_)
  refine w_skip ?_
  refine s_reg [(.slice (some ⟨tb_r, 0, none⟩) 4 4), (.pointer (some ⟨n3_r, 0, none⟩))] [0, 1, 2, 6, 7, 8, 9, 10, 11] [(0, [], .pointer (some ⟨t_r, 0, none⟩)), (1, [], .string ⟨⟨s⟩⟩), (2, [], .bool false), (6, [], .string ⟨⟨[]⟩⟩), (7, [], .int .i64 0), (8, [], .bool false), (9, [], .int .i64 0), (10, [], .pointer (some ⟨n3_r, 0, none⟩)), (11, [], .int .i64 0)] [fun wz => V.at1 ⟨t_r, 4, none⟩ (.slice (some ⟨tb_r, 0, none⟩) 4 4) wz, fun _ => oka (some ⟨tb_r, 0, none⟩) ∧ 0 ≤ (2 : Int) ∧ (2 : Int) < 4, fun wz => V.at1 ⟨tb_r, 2, none⟩ (.pointer (some ⟨n3_r, 0, none⟩)) wz] H111 (by kernel_rfl) ⟨((hS.tr 0 rfl).bg.at1 rfl), (⟨rfl, (show 0 ≤ (2 : Int) ∧ (2 : Int) < 4 from by decide)⟩), ((hS.tr 0 rfl).bt.at1 rfl), trivial⟩ fun _ wd112 H113 hb => ?_
  clear H111
  replace hS := hS.below hb
  clear hb
  obtain ⟨ho114, hm⟩ := chkE hm
  refine s_reg [] [0, 1, 2, 6, 7, 8, 9, 10, 11] [(0, [], .pointer (some ⟨t_r, 0, none⟩)), (1, [], .string ⟨⟨sub s 1 (ln s)⟩⟩), (2, [], .bool false), (6, [], .string ⟨⟨[]⟩⟩), (7, [], .int .i64 0), (8, [], .bool false), (9, [], .int .i64 0), (10, [], .pointer (some ⟨n3_r, 0, none⟩)), (11, [], .int .i64 0)] [fun _ => 0 ≤ (1 : Int) ∧ (1 : Int) ≤ ln s] H113 (by kernel_rfl) ⟨ho114, trivial⟩ fun _ wd115 H116 hb => ?_
  clear H113
  replace hS := hS.below hb
  clear hb
  refine w_reg [] [0, 1, 2, 6, 7, 8, 9, 10, 11] [(0, [], .pointer (some ⟨t_r, 0, none⟩)), (1, [], .string ⟨⟨sub s 1 (ln s)⟩⟩), (2, [], .bool false), (6, [], .string ⟨⟨[]⟩⟩), (7, [], .int .i64 0), (8, [], .bool false), (9, [], .int .i64 0), (10, [], .pointer (some ⟨n3_r, 0, none⟩)), (11, [], .int .i64 1)] [] H116 (by kernel_rfl) trivial fun _ wd117 H118 hb => ?_
  clear H116
  replace hS := hS.below hb
  clear hb
  refine lw_round ?_
  refine w_seq ?_
  refine s_reg [] [0, 1, 2, 6, 7, 8, 9, 10, 11, 17] [(0, [], .pointer (some ⟨t_r, 0, none⟩)), (1, [], .string ⟨⟨sub s 1 (ln s)⟩⟩), (2, [], .bool false), (6, [], .string ⟨⟨[]⟩⟩), (7, [], .int .i64 0), (8, [], .bool false), (9, [], .int .i64 0), (10, [], .pointer (some ⟨n3_r, 0, none⟩)), (11, [], .int .i64 1), (17, [], .bool true)] [] H118 (by kernel_rfl) trivial fun _ wd119 H120 hb => ?_
  clear H118
  replace hS := hS.below hb
  clear hb
  refine w_if H120 rfl (fun _ => ?_) (fun hc => by cases hc)
  refine w_skip ?_
  refine w_block ?_
  refine w_seq ?_
  refine w_seq ?_
  refine wl_start ?_
  refine wl_batchM 0 9 [(.int .i64 4)] [(0, 0), (1, 0), (2, 0), (6, 0), (7, 0), (8, 0), (9, 0), (10, 0), (11, 0), (24, 0), (26, 1)] [(0, [], .pointer (some ⟨t_r, 0, none⟩)), (1, [], .string ⟨⟨sub s 1 (ln s)⟩⟩), (2, [], .bool false), (6, [], .string ⟨⟨[]⟩⟩), (7, [], .int .i64 0), (8, [], .bool false), (9, [], .int .i64 0), (10, [], .pointer (some ⟨n3_r, 0, none⟩)), (11, [], .int .i64 1), (24, [], .bool true), (26, [], .bool false)] [fun wz => V.at1 ⟨n3_r, 1, none⟩ (.int .i64 4) wz] H120 (by decide) (by kernel_rfl) ⟨((hS.tr 0 rfl).b3.at1 rfl), trivial⟩ fun _ wd121 H122 hb => ?_
  clear H120
  replace hS := hS.below hb
  clear hb
  refine m_skipG 26 [27, 0, 1, 2, 6, 7, 8, 9, 10, 11, 24, 26] [(27, [], undef), (0, [], .pointer (some ⟨t_r, 0, none⟩)), (1, [], .string ⟨⟨sub s 1 (ln s)⟩⟩), (2, [], .bool false), (6, [], .string ⟨⟨[]⟩⟩), (7, [], .int .i64 0), (8, [], .bool false), (9, [], .int .i64 0), (10, [], .pointer (some ⟨n3_r, 0, none⟩)), (11, [], .int .i64 1), (24, [], .bool true), (26, [], .bool false)] H122 rfl rfl rfl rfl rfl rfl fun _ H123 => ?_
  clear H122
  refine m_skipG 26 [28, 0, 1, 2, 6, 7, 8, 9, 10, 11, 24, 26, 27] [(28, [], undef), (0, [], .pointer (some ⟨t_r, 0, none⟩)), (1, [], .string ⟨⟨sub s 1 (ln s)⟩⟩), (2, [], .bool false), (6, [], .string ⟨⟨[]⟩⟩), (7, [], .int .i64 0), (8, [], .bool false), (9, [], .int .i64 0), (10, [], .pointer (some ⟨n3_r, 0, none⟩)), (11, [], .int .i64 1), (24, [], .bool true), (26, [], .bool false), (27, [], undef)] H123 rfl rfl rfl rfl rfl rfl fun _ H124 => ?_
  clear H123
  refine m_skipG 26 [29, 0, 1, 2, 6, 7, 8, 9, 10, 11, 24, 26, 27] [(29, [], undef), (0, [], .pointer (some ⟨t_r, 0, none⟩)), (1, [], .string ⟨⟨sub s 1 (ln s)⟩⟩), (2, [], .bool false), (6, [], .string ⟨⟨[]⟩⟩), (7, [], .int .i64 0), (8, [], .bool false), (9, [], .int .i64 0), (10, [], .pointer (some ⟨n3_r, 0, none⟩)), (11, [], .int .i64 1), (24, [], .bool true), (26, [], .bool false), (27, [], undef)] H124 rfl rfl rfl rfl rfl rfl fun _ H125 => ?_
  clear H124
  refine m_skipG 26 [30, 0, 1, 2, 6, 7, 8, 9, 10, 11, 24, 26, 27] [(30, [], undef), (0, [], .pointer (some ⟨t_r, 0, none⟩)), (1, [], .string ⟨⟨sub s 1 (ln s)⟩⟩), (2, [], .bool false), (6, [], .string ⟨⟨[]⟩⟩), (7, [], .int .i64 0), (8, [], .bool false), (9, [], .int .i64 0), (10, [], .pointer (some ⟨n3_r, 0, none⟩)), (11, [], .int .i64 1), (24, [], .bool true), (26, [], .bool false), (27, [], undef)] H125 rfl rfl rfl rfl rfl rfl fun _ H126 => ?_
  clear H125
  refine m_skipG 26 [31, 0, 1, 2, 6, 7, 8, 9, 10, 11, 24, 26] [(31, [], undef), (0, [], .pointer (some ⟨t_r, 0, none⟩)), (1, [], .string ⟨⟨sub s 1 (ln s)⟩⟩), (2, [], .bool false), (6, [], .string ⟨⟨[]⟩⟩), (7, [], .int .i64 0), (8, [], .bool false), (9, [], .int .i64 0), (10, [], .pointer (some ⟨n3_r, 0, none⟩)), (11, [], .int .i64 1), (24, [], .bool true), (26, [], .bool false)] H126 rfl rfl rfl rfl rfl rfl fun _ H127 => ?_
  clear H126
  refine wl_batch 14 17 [] [0, 1, 2, 6, 7, 8, 9, 10, 11, 34] [(0, [], .pointer (some ⟨t_r, 0, none⟩)), (1, [], .string ⟨⟨sub s 1 (ln s)⟩⟩), (2, [], .bool false), (6, [], .string ⟨⟨[]⟩⟩), (7, [], .int .i64 0), (8, [], .bool false), (9, [], .int .i64 0), (10, [], .pointer (some ⟨n3_r, 0, none⟩)), (11, [], .int .i64 1), (34, [], .bool true)] [] H127 (by decide) (by kernel_rfl) trivial fun _ wd128 H129 hb => ?_
  clear H127
  replace hS := hS.below hb
  clear hb
  refine wl_end rfl ?_
  refine w_if H129 rfl (fun _ => ?_) (fun hc => by cases hc)
  refine s_reg [(.int .i64 4)] [0, 1, 2, 9, 10, 11] [(0, [], .pointer (some ⟨t_r, 0, none⟩)), (1, [], .string ⟨⟨sub s 1 (ln s)⟩⟩), (2, [], .bool false), (9, [], .int .i64 4), (10, [], .pointer (some ⟨n3_r, 0, none⟩)), (11, [], .int .i64 1)] [fun wz => V.at1 ⟨n3_r, 1, none⟩ (.int .i64 4) wz] H129 (by kernel_rfl) ⟨((hS.tr 0 rfl).b3.at1 rfl), trivial⟩ fun _ wd130 H131 hb => ?_
  clear H129
  replace hS := hS.below hb
  clear hb
  refine s_reg [(.string ⟨⟨[10]⟩⟩)] [0, 1, 2, 6, 9, 10, 11] [(0, [], .pointer (some ⟨t_r, 0, none⟩)), (1, [], .string ⟨⟨sub s 1 (ln s)⟩⟩), (2, [], .bool false), (6, [], .string ⟨⟨[10]⟩⟩), (9, [], .int .i64 4), (10, [], .pointer (some ⟨n3_r, 0, none⟩)), (11, [], .int .i64 1)] [fun wz => V.at1 ⟨n3_r, 0, none⟩ (.string ⟨⟨[10]⟩⟩) wz] H131 (by kernel_rfl) ⟨((hS.tr 0 rfl).b3.at1 rfl), trivial⟩ fun _ wd132 H133 hb => ?_
  clear H131
  replace hS := hS.below hb
  clear hb
  refine s_reg [] [0, 1, 2, 6, 7, 9, 10, 11] [(0, [], .pointer (some ⟨t_r, 0, none⟩)), (1, [], .string ⟨⟨sub s 1 (ln s)⟩⟩), (2, [], .bool false), (6, [], .string ⟨⟨[10]⟩⟩), (7, [], .int .i64 1), (9, [], .int .i64 4), (10, [], .pointer (some ⟨n3_r, 0, none⟩)), (11, [], .int .i64 1)] [] H133 (by kernel_rfl) trivial fun _ wd134 H135 hb => ?_
  clear H133
  replace hS := hS.below hb
  clear hb
  refine w_reg [] [0, 1, 2, 6, 7, 8, 9, 10, 11] [(0, [], .pointer (some ⟨t_r, 0, none⟩)), (1, [], .string ⟨⟨sub s 1 (ln s)⟩⟩), (2, [], .bool false), (6, [], .string ⟨⟨[10]⟩⟩), (7, [], .int .i64 1), (8, [], .bool true), (9, [], .int .i64 4), (10, [], .pointer (some ⟨n3_r, 0, none⟩)), (11, [], .int .i64 1)] [] H135 (by kernel_rfl) trivial fun _ wd136 H137 hb => ?_
  clear H135
  replace hS := hS.below hb
  clear hb
  refine w_seq ?_
  refine s_reg [] [0, 1, 2, 6, 7, 8, 9, 10, 11, 45] [(0, [], .pointer (some ⟨t_r, 0, none⟩)), (1, [], .string ⟨⟨sub s 1 (ln s)⟩⟩), (2, [], .bool false), (6, [], .string ⟨⟨[10]⟩⟩), (7, [], .int .i64 1), (8, [], .bool true), (9, [], .int .i64 4), (10, [], .pointer (some ⟨n3_r, 0, none⟩)), (11, [], .int .i64 1), (45, [], .bool ((sub s 1 (ln s)) == []))] [] H137 (by kernel_rfl) trivial fun _ wd138 H139 hb => ?_
  clear H137
  replace hS := hS.below hb
  clear hb
  refine w_if H139 rfl (fun hc => ?c152) (fun hc => ?_)
  case c152 =>
   replace hm := bT hc hm
   refine w_exit rfl ?_
   refine w_ret ?_
   obtain rfl := someE hm
   exact retR3 H139 rfl rfl rfl rfl ⟨_, rfl, rfl, (hS.sel [] rfl)⟩
  replace hm := bF hc hm
  refine w_skip ?_
  refine s_reg [(.slice none 0 0)] [0, 1, 2, 6, 7, 8, 9, 10, 11, 50] [(0, [], .pointer (some ⟨t_r, 0, none⟩)), (1, [], .string ⟨⟨sub s 1 (ln s)⟩⟩), (2, [], .bool false), (6, [], .string ⟨⟨[10]⟩⟩), (7, [], .int .i64 1), (8, [], .bool true), (9, [], .int .i64 4), (10, [], .pointer (some ⟨n3_r, 0, none⟩)), (11, [], .int .i64 1), (50, [], .bool false)] [fun wz => V.at1 ⟨n3_r, 4, none⟩ (.slice none 0 0) wz] H139 (by kernel_rfl) ⟨((hS.tr 0 rfl).b3.at1 rfl), trivial⟩ fun _ wd140 H141 hb => ?_
  clear H139
  replace hS := hS.below hb
  clear hb
  refine w_if H141 rfl (fun hc => by cases hc) (fun _ => ?_)
  refine w_seq ?_
  refine wl_start ?_
  refine wl_batch 0 6 [(.string ⟨⟨[]⟩⟩)] [0, 1, 2, 6, 7, 8, 9, 10, 11, 81] [(0, [], .pointer (some ⟨t_r, 0, none⟩)), (1, [], .string ⟨⟨sub s 1 (ln s)⟩⟩), (2, [], .bool false), (6, [], .string ⟨⟨[10]⟩⟩), (7, [], .int .i64 1), (8, [], .bool true), (9, [], .int .i64 4), (10, [], .pointer (some ⟨n3_r, 0, none⟩)), (11, [], .int .i64 1), (81, [], .bool false)] [fun wz => V.at1 ⟨n3_r, 2, none⟩ (.string ⟨⟨[]⟩⟩) wz] H141 (by decide) (by kernel_rfl) ⟨((hS.tr 0 rfl).b3.at1 rfl), trivial⟩ fun _ wd142 H143 hb => ?_
  clear H141
  replace hS := hS.below hb
  clear hb
  refine m_skipG 81 [82, 0, 1, 2, 6, 7, 8, 9, 10, 11, 81] [(82, [], undef), (0, [], .pointer (some ⟨t_r, 0, none⟩)), (1, [], .string ⟨⟨sub s 1 (ln s)⟩⟩), (2, [], .bool false), (6, [], .string ⟨⟨[10]⟩⟩), (7, [], .int .i64 1), (8, [], .bool true), (9, [], .int .i64 4), (10, [], .pointer (some ⟨n3_r, 0, none⟩)), (11, [], .int .i64 1), (81, [], .bool false)] H143 rfl rfl rfl rfl rfl rfl fun _ H144 => ?_
  clear H143
  refine m_skipG 81 [83, 0, 1, 2, 6, 7, 8, 9, 10, 11, 81, 82] [(83, [], undef), (0, [], .pointer (some ⟨t_r, 0, none⟩)), (1, [], .string ⟨⟨sub s 1 (ln s)⟩⟩), (2, [], .bool false), (6, [], .string ⟨⟨[10]⟩⟩), (7, [], .int .i64 1), (8, [], .bool true), (9, [], .int .i64 4), (10, [], .pointer (some ⟨n3_r, 0, none⟩)), (11, [], .int .i64 1), (81, [], .bool false), (82, [], undef)] H144 rfl rfl rfl rfl rfl rfl fun _ H145 => ?_
  clear H144
  refine m_skipG 81 [84, 0, 1, 2, 6, 7, 8, 9, 10, 11, 81, 82] [(84, [], undef), (0, [], .pointer (some ⟨t_r, 0, none⟩)), (1, [], .string ⟨⟨sub s 1 (ln s)⟩⟩), (2, [], .bool false), (6, [], .string ⟨⟨[10]⟩⟩), (7, [], .int .i64 1), (8, [], .bool true), (9, [], .int .i64 4), (10, [], .pointer (some ⟨n3_r, 0, none⟩)), (11, [], .int .i64 1), (81, [], .bool false), (82, [], undef)] H145 rfl rfl rfl rfl rfl rfl fun _ H146 => ?_
  clear H145
  refine m_skipG 81 [85, 0, 1, 2, 6, 7, 8, 9, 10, 11, 81, 82] [(85, [], undef), (0, [], .pointer (some ⟨t_r, 0, none⟩)), (1, [], .string ⟨⟨sub s 1 (ln s)⟩⟩), (2, [], .bool false), (6, [], .string ⟨⟨[10]⟩⟩), (7, [], .int .i64 1), (8, [], .bool true), (9, [], .int .i64 4), (10, [], .pointer (some ⟨n3_r, 0, none⟩)), (11, [], .int .i64 1), (81, [], .bool false), (82, [], undef)] H146 rfl rfl rfl rfl rfl rfl fun _ H147 => ?_
  clear H146
  refine m_skipG 81 [86, 0, 1, 2, 6, 7, 8, 9, 10, 11, 81, 82] [(86, [], undef), (0, [], .pointer (some ⟨t_r, 0, none⟩)), (1, [], .string ⟨⟨sub s 1 (ln s)⟩⟩), (2, [], .bool false), (6, [], .string ⟨⟨[10]⟩⟩), (7, [], .int .i64 1), (8, [], .bool true), (9, [], .int .i64 4), (10, [], .pointer (some ⟨n3_r, 0, none⟩)), (11, [], .int .i64 1), (81, [], .bool false), (82, [], undef)] H147 rfl rfl rfl rfl rfl rfl fun _ H148 => ?_
  clear H147
  refine m_skipG 81 [87, 0, 1, 2, 6, 7, 8, 9, 10, 11, 81] [(87, [], undef), (0, [], .pointer (some ⟨t_r, 0, none⟩)), (1, [], .string ⟨⟨sub s 1 (ln s)⟩⟩), (2, [], .bool false), (6, [], .string ⟨⟨[10]⟩⟩), (7, [], .int .i64 1), (8, [], .bool true), (9, [], .int .i64 4), (10, [], .pointer (some ⟨n3_r, 0, none⟩)), (11, [], .int .i64 1), (81, [], .bool false)] H148 rfl rfl rfl rfl rfl rfl fun _ H149 => ?_
  clear H148
  refine wl_batch 12 13 [] [0, 1, 2, 6, 7, 8, 9, 10, 11, 88] [(0, [], .pointer (some ⟨t_r, 0, none⟩)), (1, [], .string ⟨⟨sub s 1 (ln s)⟩⟩), (2, [], .bool false), (6, [], .string ⟨⟨[10]⟩⟩), (7, [], .int .i64 1), (8, [], .bool true), (9, [], .int .i64 4), (10, [], .pointer (some ⟨n3_r, 0, none⟩)), (11, [], .int .i64 1), (88, [], .bool false)] [] H149 (by decide) (by kernel_rfl) trivial fun _ wd150 H151 hb => ?_
  clear H149
  replace hS := hS.below hb
  clear hb
  refine wl_end rfl ?_
  refine w_if H151 rfl (fun hc => by cases hc) (fun _ => ?_)
  refine w_exit rfl ?_
  refine w_ret ?_
  obtain rfl := someE hm
  exact retR3 H151 rfl rfl rfl rfl ⟨_, rfl, rfl, (hS.sel [] rfl)⟩
 replace hm := bF (decide_eq_false hx12) hm
 by_cases hx10 : (bat s 0) = 10
 ·replace hm := bT (decide_eq_true hx10) hm
  rw [show gi gmap (bat s 0) = 1 from by rw [hx10]; exact gmap10] at H30
  replace H30 := FrG.keep (l' := [(0, [], .pointer (some ⟨t_r, 0, none⟩)), (1, [], .string ⟨⟨s⟩⟩), (2, [], .bool false), (6, [], .string ⟨⟨[]⟩⟩), (7, [], .int .i64 0), (8, [], .bool false), (9, [], .int .i64 0), (10, [], .pointer (some ⟨t_r, 0, none⟩)), (11, [], .int .i64 0), (12, [], .int .u8 1)]) (ks := [0, 1, 2, 6, 7, 8, 9, 10, 11, 12]) H30 (by kernel_rfl)
  refine w_seq ?_
  refine s_reg [(.int .i64 4)] [0, 1, 2, 6, 7, 8, 9, 10, 11, 12, 64] [(0, [], .pointer (some ⟨t_r, 0, none⟩)), (1, [], .string ⟨⟨s⟩⟩), (2, [], .bool false), (6, [], .string ⟨⟨[]⟩⟩), (7, [], .int .i64 0), (8, [], .bool false), (9, [], .int .i64 0), (10, [], .pointer (some ⟨t_r, 0, none⟩)), (11, [], .int .i64 0), (12, [], .int .u8 1), (64, [], .bool false)] [fun wz => V.at1 ⟨t_r, 5, none⟩ (.int .i64 4) wz] H30 (by kernel_rfl) ⟨((hS.tr 0 rfl).bg.at1 rfl), trivial⟩ fun _ wd153 H154 hb => ?_
  clear H30
  replace hS := hS.below hb
  clear hb
  refine w_if H154 rfl (fun hc => by cases hc) (fun _ => ?_)
  refine w_skip ?_
  refine s_reg [(.slice (some ⟨tb_r, 0, none⟩) 4 4), (.pointer none)] [0, 1, 2, 6, 7, 8, 9, 10, 11] [(0, [], .pointer (some ⟨t_r, 0, none⟩)), (1, [], .string ⟨⟨s⟩⟩), (2, [], .bool false), (6, [], .string ⟨⟨[]⟩⟩), (7, [], .int .i64 0), (8, [], .bool false), (9, [], .int .i64 0), (10, [], .pointer none), (11, [], .int .i64 0)] [fun wz => V.at1 ⟨t_r, 4, none⟩ (.slice (some ⟨tb_r, 0, none⟩) 4 4) wz, fun _ => oka (some ⟨tb_r, 0, none⟩) ∧ 0 ≤ (1 : Int) ∧ (1 : Int) < 4, fun wz => V.at1 ⟨tb_r, 1, none⟩ (.pointer none) wz] H154 (by kernel_rfl) ⟨((hS.tr 0 rfl).bg.at1 rfl), (⟨rfl, (show 0 ≤ (1 : Int) ∧ (1 : Int) < 4 from by decide)⟩), ((hS.tr 0 rfl).bt.at1 rfl), trivial⟩ fun _ wd155 H156 hb => ?_
  clear H154
  replace hS := hS.below hb
  clear hb
  obtain ⟨ho157, hm⟩ := chkE hm
  refine s_reg [] [0, 1, 2, 6, 7, 8, 9, 10, 11] [(0, [], .pointer (some ⟨t_r, 0, none⟩)), (1, [], .string ⟨⟨sub s 1 (ln s)⟩⟩), (2, [], .bool false), (6, [], .string ⟨⟨[]⟩⟩), (7, [], .int .i64 0), (8, [], .bool false), (9, [], .int .i64 0), (10, [], .pointer none), (11, [], .int .i64 0)] [fun _ => 0 ≤ (1 : Int) ∧ (1 : Int) ≤ ln s] H156 (by kernel_rfl) ⟨ho157, trivial⟩ fun _ wd158 H159 hb => ?_
  clear H156
  replace hS := hS.below hb
  clear hb
  refine w_reg [] [0, 1, 2, 6, 7, 8, 9, 10, 11] [(0, [], .pointer (some ⟨t_r, 0, none⟩)), (1, [], .string ⟨⟨sub s 1 (ln s)⟩⟩), (2, [], .bool false), (6, [], .string ⟨⟨[]⟩⟩), (7, [], .int .i64 0), (8, [], .bool false), (9, [], .int .i64 0), (10, [], .pointer none), (11, [], .int .i64 1)] [] H159 (by kernel_rfl) trivial fun _ wd160 H161 hb => ?_
  clear H159
  replace hS := hS.below hb
  clear hb
  refine lw_round ?_
  refine w_seq ?_
  refine s_reg [] [0, 1, 2, 6, 7, 8, 9, 10, 11, 17] [(0, [], .pointer (some ⟨t_r, 0, none⟩)), (1, [], .string ⟨⟨sub s 1 (ln s)⟩⟩), (2, [], .bool false), (6, [], .string ⟨⟨[]⟩⟩), (7, [], .int .i64 0), (8, [], .bool false), (9, [], .int .i64 0), (10, [], .pointer none), (11, [], .int .i64 1), (17, [], .bool false)] [] H161 (by kernel_rfl) trivial fun _ wd162 H163 hb => ?_
  clear H161
  replace hS := hS.below hb
  clear hb
  refine w_if H163 rfl (fun hc => by cases hc) (fun _ => ?_)
  refine w_exit rfl ?_
  refine w_ret ?_
  obtain rfl := someE hm
  exact retR3 H163 rfl rfl rfl rfl ⟨_, rfl, rfl, (hS.sel [] rfl)⟩
 replace hm := bF (decide_eq_false hx10) hm
 by_cases hx0 : (bat s 0) = 0
 ·replace hm := bT (decide_eq_true hx0) hm
  rw [show gi gmap (bat s 0) = 0 from by rw [hx0]; exact gmap0] at H30
  replace H30 := FrG.keep (l' := [(0, [], .pointer (some ⟨t_r, 0, none⟩)), (1, [], .string ⟨⟨s⟩⟩), (2, [], .bool false), (6, [], .string ⟨⟨[]⟩⟩), (7, [], .int .i64 0), (8, [], .bool false), (9, [], .int .i64 0), (10, [], .pointer (some ⟨t_r, 0, none⟩)), (11, [], .int .i64 0), (12, [], .int .u8 0)]) (ks := [0, 1, 2, 6, 7, 8, 9, 10, 11, 12]) H30 (by kernel_rfl)
  refine w_seq ?_
  refine s_reg [(.int .i64 4)] [0, 1, 2, 6, 7, 8, 9, 10, 11, 12, 64] [(0, [], .pointer (some ⟨t_r, 0, none⟩)), (1, [], .string ⟨⟨s⟩⟩), (2, [], .bool false), (6, [], .string ⟨⟨[]⟩⟩), (7, [], .int .i64 0), (8, [], .bool false), (9, [], .int .i64 0), (10, [], .pointer (some ⟨t_r, 0, none⟩)), (11, [], .int .i64 0), (12, [], .int .u8 0), (64, [], .bool false)] [fun wz => V.at1 ⟨t_r, 5, none⟩ (.int .i64 4) wz] H30 (by kernel_rfl) ⟨((hS.tr 0 rfl).bg.at1 rfl), trivial⟩ fun _ wd164 H165 hb => ?_
  clear H30
  replace hS := hS.below hb
  clear hb
  refine w_if H165 rfl (fun hc => by cases hc) (fun _ => ?_)
  refine w_skip ?_
  refine s_reg [(.slice (some ⟨tb_r, 0, none⟩) 4 4), (.pointer (some ⟨n4_r, 0, none⟩))] [0, 1, 2, 6, 7, 8, 9, 10, 11] [(0, [], .pointer (some ⟨t_r, 0, none⟩)), (1, [], .string ⟨⟨s⟩⟩), (2, [], .bool false), (6, [], .string ⟨⟨[]⟩⟩), (7, [], .int .i64 0), (8, [], .bool false), (9, [], .int .i64 0), (10, [], .pointer (some ⟨n4_r, 0, none⟩)), (11, [], .int .i64 0)] [fun wz => V.at1 ⟨t_r, 4, none⟩ (.slice (some ⟨tb_r, 0, none⟩) 4 4) wz, fun _ => oka (some ⟨tb_r, 0, none⟩) ∧ 0 ≤ (0 : Int) ∧ (0 : Int) < 4, fun wz => V.at1 ⟨tb_r, 0, none⟩ (.pointer (some ⟨n4_r, 0, none⟩)) wz] H165 (by kernel_rfl) ⟨((hS.tr 0 rfl).bg.at1 rfl), (⟨rfl, (show 0 ≤ (0 : Int) ∧ (0 : Int) < 4 from by decide)⟩), ((hS.tr 0 rfl).bt.at1 rfl), trivial⟩ fun _ wd166 H167 hb => ?_
  clear H165
  replace hS := hS.below hb
  clear hb
  obtain ⟨ho168, hm⟩ := chkE hm
  refine s_reg [] [0, 1, 2, 6, 7, 8, 9, 10, 11] [(0, [], .pointer (some ⟨t_r, 0, none⟩)), (1, [], .string ⟨⟨sub s 1 (ln s)⟩⟩), (2, [], .bool false), (6, [], .string ⟨⟨[]⟩⟩), (7, [], .int .i64 0), (8, [], .bool false), (9, [], .int .i64 0), (10, [], .pointer (some ⟨n4_r, 0, none⟩)), (11, [], .int .i64 0)] [fun _ => 0 ≤ (1 : Int) ∧ (1 : Int) ≤ ln s] H167 (by kernel_rfl) ⟨ho168, trivial⟩ fun _ wd169 H170 hb => ?_
  clear H167
  replace hS := hS.below hb
  clear hb
  refine w_reg [] [0, 1, 2, 6, 7, 8, 9, 10, 11] [(0, [], .pointer (some ⟨t_r, 0, none⟩)), (1, [], .string ⟨⟨sub s 1 (ln s)⟩⟩), (2, [], .bool false), (6, [], .string ⟨⟨[]⟩⟩), (7, [], .int .i64 0), (8, [], .bool false), (9, [], .int .i64 0), (10, [], .pointer (some ⟨n4_r, 0, none⟩)), (11, [], .int .i64 1)] [] H170 (by kernel_rfl) trivial fun _ wd171 H172 hb => ?_
  clear H170
  replace hS := hS.below hb
  clear hb
  refine lw_round ?_
  refine w_seq ?_
  refine s_reg [] [0, 1, 2, 6, 7, 8, 9, 10, 11, 17] [(0, [], .pointer (some ⟨t_r, 0, none⟩)), (1, [], .string ⟨⟨sub s 1 (ln s)⟩⟩), (2, [], .bool false), (6, [], .string ⟨⟨[]⟩⟩), (7, [], .int .i64 0), (8, [], .bool false), (9, [], .int .i64 0), (10, [], .pointer (some ⟨n4_r, 0, none⟩)), (11, [], .int .i64 1), (17, [], .bool true)] [] H172 (by kernel_rfl) trivial fun _ wd173 H174 hb => ?_
  clear H172
  replace hS := hS.below hb
  clear hb
  refine w_if H174 rfl (fun _ => ?_) (fun hc => by cases hc)
  refine w_skip ?_
  refine w_block ?_
  refine w_seq ?_
  refine w_seq ?_
  refine wl_start ?_
  refine wl_batchM 0 9 [(.int .i64 2)] [(0, 0), (1, 0), (2, 0), (6, 0), (7, 0), (8, 0), (9, 0), (10, 0), (11, 0), (24, 0), (26, 1)] [(0, [], .pointer (some ⟨t_r, 0, none⟩)), (1, [], .string ⟨⟨sub s 1 (ln s)⟩⟩), (2, [], .bool false), (6, [], .string ⟨⟨[]⟩⟩), (7, [], .int .i64 0), (8, [], .bool false), (9, [], .int .i64 0), (10, [], .pointer (some ⟨n4_r, 0, none⟩)), (11, [], .int .i64 1), (24, [], .bool true), (26, [], .bool false)] [fun wz => V.at1 ⟨n4_r, 1, none⟩ (.int .i64 2) wz] H174 (by decide) (by kernel_rfl) ⟨((hS.tr 0 rfl).b4.at1 rfl), trivial⟩ fun _ wd175 H176 hb => ?_
  clear H174
  replace hS := hS.below hb
  clear hb
  refine m_skipG 26 [27, 0, 1, 2, 6, 7, 8, 9, 10, 11, 24, 26] [(27, [], undef), (0, [], .pointer (some ⟨t_r, 0, none⟩)), (1, [], .string ⟨⟨sub s 1 (ln s)⟩⟩), (2, [], .bool false), (6, [], .string ⟨⟨[]⟩⟩), (7, [], .int .i64 0), (8, [], .bool false), (9, [], .int .i64 0), (10, [], .pointer (some ⟨n4_r, 0, none⟩)), (11, [], .int .i64 1), (24, [], .bool true), (26, [], .bool false)] H176 rfl rfl rfl rfl rfl rfl fun _ H177 => ?_
  clear H176
  refine m_skipG 26 [28, 0, 1, 2, 6, 7, 8, 9, 10, 11, 24, 26, 27] [(28, [], undef), (0, [], .pointer (some ⟨t_r, 0, none⟩)), (1, [], .string ⟨⟨sub s 1 (ln s)⟩⟩), (2, [], .bool false), (6, [], .string ⟨⟨[]⟩⟩), (7, [], .int .i64 0), (8, [], .bool false), (9, [], .int .i64 0), (10, [], .pointer (some ⟨n4_r, 0, none⟩)), (11, [], .int .i64 1), (24, [], .bool true), (26, [], .bool false), (27, [], undef)] H177 rfl rfl rfl rfl rfl rfl fun _ H178 => ?_
  clear H177
  refine m_skipG 26 [29, 0, 1, 2, 6, 7, 8, 9, 10, 11, 24, 26, 27] [(29, [], undef), (0, [], .pointer (some ⟨t_r, 0, none⟩)), (1, [], .string ⟨⟨sub s 1 (ln s)⟩⟩), (2, [], .bool false), (6, [], .string ⟨⟨[]⟩⟩), (7, [], .int .i64 0), (8, [], .bool false), (9, [], .int .i64 0), (10, [], .pointer (some ⟨n4_r, 0, none⟩)), (11, [], .int .i64 1), (24, [], .bool true), (26, [], .bool false), (27, [], undef)] H178 rfl rfl rfl rfl rfl rfl fun _ H179 => ?_
  clear H178
  refine m_skipG 26 [30, 0, 1, 2, 6, 7, 8, 9, 10, 11, 24, 26, 27] [(30, [], undef), (0, [], .pointer (some ⟨t_r, 0, none⟩)), (1, [], .string ⟨⟨sub s 1 (ln s)⟩⟩), (2, [], .bool false), (6, [], .string ⟨⟨[]⟩⟩), (7, [], .int .i64 0), (8, [], .bool false), (9, [], .int .i64 0), (10, [], .pointer (some ⟨n4_r, 0, none⟩)), (11, [], .int .i64 1), (24, [], .bool true), (26, [], .bool false), (27, [], undef)] H179 rfl rfl rfl rfl rfl rfl fun _ H180 => ?_
  clear H179
  refine m_skipG 26 [31, 0, 1, 2, 6, 7, 8, 9, 10, 11, 24, 26] [(31, [], undef), (0, [], .pointer (some ⟨t_r, 0, none⟩)), (1, [], .string ⟨⟨sub s 1 (ln s)⟩⟩), (2, [], .bool false), (6, [], .string ⟨⟨[]⟩⟩), (7, [], .int .i64 0), (8, [], .bool false), (9, [], .int .i64 0), (10, [], .pointer (some ⟨n4_r, 0, none⟩)), (11, [], .int .i64 1), (24, [], .bool true), (26, [], .bool false)] H180 rfl rfl rfl rfl rfl rfl fun _ H181 => ?_
  clear H180
  refine wl_batch 14 17 [] [0, 1, 2, 6, 7, 8, 9, 10, 11, 34] [(0, [], .pointer (some ⟨t_r, 0, none⟩)), (1, [], .string ⟨⟨sub s 1 (ln s)⟩⟩), (2, [], .bool false), (6, [], .string ⟨⟨[]⟩⟩), (7, [], .int .i64 0), (8, [], .bool false), (9, [], .int .i64 0), (10, [], .pointer (some ⟨n4_r, 0, none⟩)), (11, [], .int .i64 1), (34, [], .bool true)] [] H181 (by decide) (by kernel_rfl) trivial fun _ wd182 H183 hb => ?_
  clear H181
  replace hS := hS.below hb
  clear hb
  refine wl_end rfl ?_
  refine w_if H183 rfl (fun _ => ?_) (fun hc => by cases hc)
  refine s_reg [(.int .i64 2)] [0, 1, 2, 9, 10, 11] [(0, [], .pointer (some ⟨t_r, 0, none⟩)), (1, [], .string ⟨⟨sub s 1 (ln s)⟩⟩), (2, [], .bool false), (9, [], .int .i64 2), (10, [], .pointer (some ⟨n4_r, 0, none⟩)), (11, [], .int .i64 1)] [fun wz => V.at1 ⟨n4_r, 1, none⟩ (.int .i64 2) wz] H183 (by kernel_rfl) ⟨((hS.tr 0 rfl).b4.at1 rfl), trivial⟩ fun _ wd184 H185 hb => ?_
  clear H183
  replace hS := hS.below hb
  clear hb
  refine s_reg [(.string ⟨⟨[239, 191, 189]⟩⟩)] [0, 1, 2, 6, 9, 10, 11] [(0, [], .pointer (some ⟨t_r, 0, none⟩)), (1, [], .string ⟨⟨sub s 1 (ln s)⟩⟩), (2, [], .bool false), (6, [], .string ⟨⟨[239, 191, 189]⟩⟩), (9, [], .int .i64 2), (10, [], .pointer (some ⟨n4_r, 0, none⟩)), (11, [], .int .i64 1)] [fun wz => V.at1 ⟨n4_r, 0, none⟩ (.string ⟨⟨[239, 191, 189]⟩⟩) wz] H185 (by kernel_rfl) ⟨((hS.tr 0 rfl).b4.at1 rfl), trivial⟩ fun _ wd186 H187 hb => ?_
  clear H185
  replace hS := hS.below hb
  clear hb
  refine s_reg [] [0, 1, 2, 6, 7, 9, 10, 11] [(0, [], .pointer (some ⟨t_r, 0, none⟩)), (1, [], .string ⟨⟨sub s 1 (ln s)⟩⟩), (2, [], .bool false), (6, [], .string ⟨⟨[239, 191, 189]⟩⟩), (7, [], .int .i64 1), (9, [], .int .i64 2), (10, [], .pointer (some ⟨n4_r, 0, none⟩)), (11, [], .int .i64 1)] [] H187 (by kernel_rfl) trivial fun _ wd188 H189 hb => ?_
  clear H187
  replace hS := hS.below hb
  clear hb
  refine w_reg [] [0, 1, 2, 6, 7, 8, 9, 10, 11] [(0, [], .pointer (some ⟨t_r, 0, none⟩)), (1, [], .string ⟨⟨sub s 1 (ln s)⟩⟩), (2, [], .bool false), (6, [], .string ⟨⟨[239, 191, 189]⟩⟩), (7, [], .int .i64 1), (8, [], .bool true), (9, [], .int .i64 2), (10, [], .pointer (some ⟨n4_r, 0, none⟩)), (11, [], .int .i64 1)] [] H189 (by kernel_rfl) trivial fun _ wd190 H191 hb => ?_
  clear H189
  replace hS := hS.below hb
  clear hb
  refine w_seq ?_
  refine s_reg [] [0, 1, 2, 6, 7, 8, 9, 10, 11, 45] [(0, [], .pointer (some ⟨t_r, 0, none⟩)), (1, [], .string ⟨⟨sub s 1 (ln s)⟩⟩), (2, [], .bool false), (6, [], .string ⟨⟨[239, 191, 189]⟩⟩), (7, [], .int .i64 1), (8, [], .bool true), (9, [], .int .i64 2), (10, [], .pointer (some ⟨n4_r, 0, none⟩)), (11, [], .int .i64 1), (45, [], .bool ((sub s 1 (ln s)) == []))] [] H191 (by kernel_rfl) trivial fun _ wd192 H193 hb => ?_
  clear H191
  replace hS := hS.below hb
  clear hb
  refine w_if H193 rfl (fun hc => ?c206) (fun hc => ?_)
  case c206 =>
   replace hm := bT hc hm
   refine w_exit rfl ?_
   refine w_ret ?_
   obtain rfl := someE hm
   exact retR3 H193 rfl rfl rfl rfl ⟨_, rfl, rfl, (hS.sel [] rfl)⟩
  replace hm := bF hc hm
  refine w_skip ?_
  refine s_reg [(.slice none 0 0)] [0, 1, 2, 6, 7, 8, 9, 10, 11, 50] [(0, [], .pointer (some ⟨t_r, 0, none⟩)), (1, [], .string ⟨⟨sub s 1 (ln s)⟩⟩), (2, [], .bool false), (6, [], .string ⟨⟨[239, 191, 189]⟩⟩), (7, [], .int .i64 1), (8, [], .bool true), (9, [], .int .i64 2), (10, [], .pointer (some ⟨n4_r, 0, none⟩)), (11, [], .int .i64 1), (50, [], .bool false)] [fun wz => V.at1 ⟨n4_r, 4, none⟩ (.slice none 0 0) wz] H193 (by kernel_rfl) ⟨((hS.tr 0 rfl).b4.at1 rfl), trivial⟩ fun _ wd194 H195 hb => ?_
  clear H193
  replace hS := hS.below hb
  clear hb
  refine w_if H195 rfl (fun hc => by cases hc) (fun _ => ?_)
  refine w_seq ?_
  refine wl_start ?_
  refine wl_batch 0 6 [(.string ⟨⟨[]⟩⟩)] [0, 1, 2, 6, 7, 8, 9, 10, 11, 81] [(0, [], .pointer (some ⟨t_r, 0, none⟩)), (1, [], .string ⟨⟨sub s 1 (ln s)⟩⟩), (2, [], .bool false), (6, [], .string ⟨⟨[239, 191, 189]⟩⟩), (7, [], .int .i64 1), (8, [], .bool true), (9, [], .int .i64 2), (10, [], .pointer (some ⟨n4_r, 0, none⟩)), (11, [], .int .i64 1), (81, [], .bool false)] [fun wz => V.at1 ⟨n4_r, 2, none⟩ (.string ⟨⟨[]⟩⟩) wz] H195 (by decide) (by kernel_rfl) ⟨((hS.tr 0 rfl).b4.at1 rfl), trivial⟩ fun _ wd196 H197 hb => ?_
  clear H195
  replace hS := hS.below hb
  clear hb
  refine m_skipG 81 [82, 0, 1, 2, 6, 7, 8, 9, 10, 11, 81] [(82, [], undef), (0, [], .pointer (some ⟨t_r, 0, none⟩)), (1, [], .string ⟨⟨sub s 1 (ln s)⟩⟩), (2, [], .bool false), (6, [], .string ⟨⟨[239, 191, 189]⟩⟩), (7, [], .int .i64 1), (8, [], .bool true), (9, [], .int .i64 2), (10, [], .pointer (some ⟨n4_r, 0, none⟩)), (11, [], .int .i64 1), (81, [], .bool false)] H197 rfl rfl rfl rfl rfl rfl fun _ H198 => ?_
  clear H197
  refine m_skipG 81 [83, 0, 1, 2, 6, 7, 8, 9, 10, 11, 81, 82] [(83, [], undef), (0, [], .pointer (some ⟨t_r, 0, none⟩)), (1, [], .string ⟨⟨sub s 1 (ln s)⟩⟩), (2, [], .bool false), (6, [], .string ⟨⟨[239, 191, 189]⟩⟩), (7, [], .int .i64 1), (8, [], .bool true), (9, [], .int .i64 2), (10, [], .pointer (some ⟨n4_r, 0, none⟩)), (11, [], .int .i64 1), (81, [], .bool false), (82, [], undef)] H198 rfl rfl rfl rfl rfl rfl fun _ H199 => ?_
  clear H198
  refine m_skipG 81 [84, 0, 1, 2, 6, 7, 8, 9, 10, 11, 81, 82] [(84, [], undef), (0, [], .pointer (some ⟨t_r, 0, none⟩)), (1, [], .string ⟨⟨sub s 1 (ln s)⟩⟩), (2, [], .bool false), (6, [], .string ⟨⟨[239, 191, 189]⟩⟩), (7, [], .int .i64 1), (8, [], .bool true), (9, [], .int .i64 2), (10, [], .pointer (some ⟨n4_r, 0, none⟩)), (11, [], .int .i64 1), (81, [], .bool false), (82, [], undef)] H199 rfl rfl rfl rfl rfl rfl fun _ H200 => ?_
  clear H199
  refine m_skipG 81 [85, 0, 1, 2, 6, 7, 8, 9, 10, 11, 81, 82] [(85, [], undef), (0, [], .pointer (some ⟨t_r, 0, none⟩)), (1, [], .string ⟨⟨sub s 1 (ln s)⟩⟩), (2, [], .bool false), (6, [], .string ⟨⟨[239, 191, 189]⟩⟩), (7, [], .int .i64 1), (8, [], .bool true), (9, [], .int .i64 2), (10, [], .pointer (some ⟨n4_r, 0, none⟩)), (11, [], .int .i64 1), (81, [], .bool false), (82, [], undef)] H200 rfl rfl rfl rfl rfl rfl fun _ H201 => ?_
  clear H200
  refine m_skipG 81 [86, 0, 1, 2, 6, 7, 8, 9, 10, 11, 81, 82] [(86, [], undef), (0, [], .pointer (some ⟨t_r, 0, none⟩)), (1, [], .string ⟨⟨sub s 1 (ln s)⟩⟩), (2, [], .bool false), (6, [], .string ⟨⟨[239, 191, 189]⟩⟩), (7, [], .int .i64 1), (8, [], .bool true), (9, [], .int .i64 2), (10, [], .pointer (some ⟨n4_r, 0, none⟩)), (11, [], .int .i64 1), (81, [], .bool false), (82, [], undef)] H201 rfl rfl rfl rfl rfl rfl fun _ H202 => ?_
  clear H201
  refine m_skipG 81 [87, 0, 1, 2, 6, 7, 8, 9, 10, 11, 81] [(87, [], undef), (0, [], .pointer (some ⟨t_r, 0, none⟩)), (1, [], .string ⟨⟨sub s 1 (ln s)⟩⟩), (2, [], .bool false), (6, [], .string ⟨⟨[239, 191, 189]⟩⟩), (7, [], .int .i64 1), (8, [], .bool true), (9, [], .int .i64 2), (10, [], .pointer (some ⟨n4_r, 0, none⟩)), (11, [], .int .i64 1), (81, [], .bool false)] H202 rfl rfl rfl rfl rfl rfl fun _ H203 => ?_
  clear H202
  refine wl_batch 12 13 [] [0, 1, 2, 6, 7, 8, 9, 10, 11, 88] [(0, [], .pointer (some ⟨t_r, 0, none⟩)), (1, [], .string ⟨⟨sub s 1 (ln s)⟩⟩), (2, [], .bool false), (6, [], .string ⟨⟨[239, 191, 189]⟩⟩), (7, [], .int .i64 1), (8, [], .bool true), (9, [], .int .i64 2), (10, [], .pointer (some ⟨n4_r, 0, none⟩)), (11, [], .int .i64 1), (88, [], .bool false)] [] H203 (by decide) (by kernel_rfl) trivial fun _ wd204 H205 hb => ?_
  clear H203
  replace hS := hS.below hb
  clear hb
  refine wl_end rfl ?_
  refine w_if H205 rfl (fun hc => by cases hc) (fun _ => ?_)
  refine w_exit rfl ?_
  refine w_ret ?_
  obtain rfl := someE hm
  exact retR3 H205 rfl rfl rfl rfl ⟨_, rfl, rfl, (hS.sel [] rfl)⟩
 replace hm := bF (decide_eq_false hx0) hm
 rw [show gi gmap (bat s 0) = 4 from gmap_el (bat_byte _ _).1 (bat_byte _ _).2 hx13 hx12 hx10 hx0] at H30
 replace H30 := FrG.keep (l' := [(0, [], .pointer (some ⟨t_r, 0, none⟩)), (1, [], .string ⟨⟨s⟩⟩), (2, [], .bool false), (6, [], .string ⟨⟨[]⟩⟩), (7, [], .int .i64 0), (8, [], .bool false), (9, [], .int .i64 0), (10, [], .pointer (some ⟨t_r, 0, none⟩)), (11, [], .int .i64 0), (12, [], .int .u8 4)]) (ks := [0, 1, 2, 6, 7, 8, 9, 10, 11, 12]) H30 (by kernel_rfl)
 refine w_seq ?_
 refine s_reg [(.int .i64 4)] [0, 1, 2, 6, 7, 8, 9, 10, 11, 12, 64] [(0, [], .pointer (some ⟨t_r, 0, none⟩)), (1, [], .string ⟨⟨s⟩⟩), (2, [], .bool false), (6, [], .string ⟨⟨[]⟩⟩), (7, [], .int .i64 0), (8, [], .bool false), (9, [], .int .i64 0), (10, [], .pointer (some ⟨t_r, 0, none⟩)), (11, [], .int .i64 0), (12, [], .int .u8 4), (64, [], .bool true)] [fun wz => V.at1 ⟨t_r, 5, none⟩ (.int .i64 4) wz] H30 (by kernel_rfl) ⟨((hS.tr 0 rfl).bg.at1 rfl), trivial⟩ fun _ wd207 H208 hb => ?_
 clear H30
 replace hS := hS.below hb
 clear hb
 refine w_if H208 rfl (fun _ => ?_) (fun hc => by cases hc)
 refine w_exit rfl ?_
 refine w_ret ?_
 obtain rfl := someE hm
 exact retR3 H208 rfl rfl rfl rfl ⟨_, rfl, rfl, (hS.sel [] rfl)⟩
theorem strings_genericReplacer_lookup_ok {t_r : Nat} {tb_r : Nat} {n1_r : Nat} {n2_r : Nat} {n3_r : Nat} {n4_r : Nat} (s : Str) (r : Str × Int × Bool) (hm : strings_genericReplacer_lookup s = some r) (w : World) (hL : S0 F0 [Ent.trie t_r tb_r n1_r n2_r n3_r n4_r] w ∧ fpl [Ent.trie t_r tb_r n1_r n2_r n3_r n4_r] = []) : RetB Try.prog 117 ⟨[.pointer (some ⟨t_r, 0, none⟩), .string ⟨⟨s⟩⟩, .bool false]⟩ (.tuple ⟨[.string ⟨⟨r.1⟩⟩, .int .i64 r.2.1, .bool r.2.2]⟩) w := retB_of hL (Try.call117 _) (fun w' h => strings_genericReplacer_lookup_w F0   s r hm w' h)

def strings_appendSliceWriter_WriteString (w_ : List Int) (s : Str) : Option (Int × (List Int)) :=
  chk (ln w_ + ln s ≤ 1099511627776) <|
  lt (w_ ++ ofB s) fun q6 =>
  some (ln s, q6)
theorem strings_appendSliceWriter_WriteString_w {b_w : Nat} {g_w_ : Gh} (M : Av) (w_ : List Int) (s : Str) (r : Int × (List Int)) (hm : strings_appendSliceWriter_WriteString w_ s = some r) (w : World) (hS : S0 M [Ent.blk b_w [.slice g_w_.a w_.length g_w_.c], Ent.own 5 (tI .u8) w_ g_w_] w) : Calls Try.prog 126 ⟨[.pointer (some ⟨b_w, 0, none⟩), .string ⟨⟨s⟩⟩]⟩ w (fun e w' => ∃ v, e = .returned v ∧ ∃ (g901 : Gh), v = .tuple ⟨[.int .i64 r.1, .nilIface]⟩ ∧ SH M (fpl [Ent.blk b_w [.slice g_w_.a w_.length g_w_.c], Ent.own 5 (tI .u8) w_ g_w_]) w [Ent.blk b_w [.slice g901.a r.2.length g901.c], Ent.own 5 (tI .u8) r.2 g901] w') := by
 rw [strings_appendSliceWriter_WriteString] at hm
 have hS0 : SH M (fpl [Ent.blk b_w [.slice g_w_.a w_.length g_w_.c], Ent.own 5 (tI .u8) w_ g_w_]) w [Ent.blk b_w [.slice g_w_.a w_.length g_w_.c], Ent.own 5 (tI .u8) w_ g_w_] w := hS
 generalize hX : fpl [Ent.blk b_w [.slice g_w_.a w_.length g_w_.c], Ent.own 5 (tI .u8) w_ g_w_] = X at hS0 ⊢
 clear hS hX
 have hS := hS0
 clear hS0
 refine calls_entryP Try.func126 rfl Try.ntmps126 rfl fun _ H => ?_
 refine s_reg [] [0, 1] [(0, [], .pointer (some ⟨b_w, 0, none⟩)), (1, [], .string ⟨⟨s⟩⟩)] [] H (by kernel_rfl) trivial fun _ wd1 H2 hb => ?_
 clear H
 replace hS := hS.below hb
 clear hb
 refine w_seq ?_
 refine wl_start ?_
 refine wl_batch 0 5 [(.slice g_w_.a w_.length g_w_.c)] [1, 6, 9, 10] [(1, [], .string ⟨⟨s⟩⟩), (6, [], .pointer (some ⟨b_w, 0, none⟩)), (9, [], .slice g_w_.a w_.length g_w_.c), (10, [], .string ⟨⟨s⟩⟩)] [fun wz => V.at1 ⟨b_w, 0, none⟩ (.slice g_w_.a w_.length g_w_.c) wz] H2 (by decide) (by kernel_rfl) ⟨((hS.bk 0 rfl).at1 rfl), trivial⟩ fun _ wd3 H4 hb => ?_
 clear H2
 replace hS := hS.below hb
 clear hb
 obtain ⟨ho5, hm⟩ := chkE hm
 obtain ⟨q6, hq6, hm⟩ := letE hm
 have hd := hS.hand [1] [0] rfl rfl
 refine m_stp [11, 1, 6] [(1, [], .string ⟨⟨s⟩⟩), (6, [], .pointer (some ⟨b_w, 0, none⟩))] H4 rfl rfl rfl rfl (o_appS (g1 := g_w_) (l1 := w_) q6 hq6.symm H4 hd rfl rfl rfl rfl rfl (by kernel_rfl) (by kernel_rfl) (by kernel_rfl) ho5) (fun _ => rfl) fun _ wd7 v H8 hq => ?_
 clear H4 hd
 obtain ⟨g9, rfl, hq⟩ := hq
 replace hS : SH M X w [Ent.own 5 (tI .u8) q6 g9, Ent.blk b_w [.slice g_w_.a w_.length g_w_.c]] _ := hS.join [1] [0] rfl rfl hq
 clear hq
 refine wl_batch 6 7 [] [1, 11, 12] [(1, [], .string ⟨⟨s⟩⟩), (11, [], .slice g9.a q6.length g9.c), (12, [], .pointer (some ⟨b_w, 0, none⟩))] [] H8 (by decide) (by kernel_rfl) trivial fun _ wd10 H11 hb => ?_
 clear H8
 replace hS := hS.below hb
 clear hb
 have hd := hS.hand [1] [0] rfl rfl
 refine m_stp0 [1] [(1, [], .string ⟨⟨s⟩⟩)] H11 rfl rfl rfl (o_store [.slice g9.a q6.length g9.c] H11 hd rfl rfl (by kernel_rfl) rfl rfl rfl) rfl fun _ wd12 H13 hq => ?_
 clear H11 hd
 obtain ⟨_, hq⟩ := hq
 replace hS : SH M X w [Ent.blk b_w [.slice g9.a q6.length g9.c], Ent.own 5 (tI .u8) q6 g9] _ := hS.join [1] [0] rfl rfl hq
 clear hq
 refine wl_end rfl ?_
 refine s_reg [] [4, 5] [(4, [], .int .i64 (ln s)), (5, [], .nilIface)] [] H13 (by kernel_rfl) trivial fun _ wd14 H15 hb => ?_
 clear H13
 replace hS := hS.below hb
 clear hb
 refine w_ret ?_
 obtain rfl := someE hm
 exact retR2 H15 rfl rfl rfl ⟨_, rfl, g9, rfl, (hS.sel [0, 1] rfl)⟩
theorem strings_appendSliceWriter_WriteString_ok {b_w : Nat} {g_w_ : Gh} (w_ : List Int) (s : Str) (r : Int × (List Int)) (hm : strings_appendSliceWriter_WriteString w_ s = some r) (M : Av) (w : World) (hS : S0 M [Ent.blk b_w [.slice g_w_.a w_.length g_w_.c], Ent.own 5 (tI .u8) w_ g_w_] w) : DoesX Try.prog 126 ⟨[.pointer (some ⟨b_w, 0, none⟩), .string ⟨⟨s⟩⟩]⟩ w (fun v w' => ∃ (g901 : Gh), v = .tuple ⟨[.int .i64 r.1, .nilIface]⟩ ∧ SH M (fpl [Ent.blk b_w [.slice g_w_.a w_.length g_w_.c], Ent.own 5 (tI .u8) w_ g_w_]) w [Ent.blk b_w [.slice g901.a r.2.length g901.c], Ent.own 5 (tI .u8) r.2 g901] w') := ⟨Try.call126 _, strings_appendSliceWriter_WriteString_w M   w_ s r hm w hS⟩

def strings_genericReplacer_WriteString_L1 (m : Nat) (s : Str) : Nat → Int → Int → Bool → Int → (List Int) → Option (Sum (Int × (List Int)) (Int × Int × (List Int)))
  | 0, _, _, _, _, _ => none
  | kk + 1, v12, v13, v14, v15, v16 =>
    chk (v14 = false) <|
    cond (decide (v15 ≤ (ln s))) (
    Option.bind (
    cond (cond (v15 != (ln s)) true false) (
    chk (0 ≤ v15 ∧ v15 < ln s) <|
    cond (decide ((bat s v15) = 13)) (
    some (.inr v15)) (
    cond (decide ((bat s v15) = 12)) (
    some (.inr v15)) (
    cond (decide ((bat s v15) = 10)) (
    Option.bind (
    strings_genericReplacer_WriteString_L1 m s kk v12 v13 false (w64 (v15 + 1)) v16) fun r35 => some (.inl r35)) (
    cond (decide ((bat s v15) = 0)) (
    some (.inr v15)) (
    Option.bind (
    strings_genericReplacer_WriteString_L1 m s kk v12 v13 false (w64 (v15 + 1)) v16) fun r53 => some (.inl r53)))))) (
    some (.inr v15))) fun (z21 : Sum (Sum (Int × (List Int)) (Int × Int × (List Int))) (Int)) => sumK z21 fun s_z21 =>
    chk (0 ≤ s_z21 ∧ s_z21 ≤ ln s) <|
    Option.bind (strings_genericReplacer_lookup (sub s s_z21 (ln s))) fun y56 =>
    chk ((cond y56.2.2 (y56.2.1 == 0) false) = false) <|
    cond y56.2.2 (
    chk (0 ≤ v13 ∧ v13 ≤ s_z21 ∧ s_z21 ≤ ln s) <|
    Option.bind (strings_appendSliceWriter_WriteString v16 (sub s v13 s_z21)) fun y66 =>
    Option.bind (strings_appendSliceWriter_WriteString y66.2 y56.1) fun y79 =>
    strings_genericReplacer_WriteString_L1 m s kk (w64 ((w64 (v12 + y66.1)) + y79.1)) (w64 (s_z21 + y56.2.1)) false (w64 (s_z21 + y56.2.1)) y79.2) (
    strings_genericReplacer_WriteString_L1 m s kk v12 v13 false (w64 (s_z21 + 1)) v16)) (
    some (.inr (v12, v13, v16)))
def strings_genericReplacer_WriteString (m : Nat) (w_ : List Int) (s : Str) : Option (Int × (List Int)) :=
  Option.bind (
  strings_genericReplacer_WriteString_L1 m s m 0 0 false 0 w_) fun (z9 : Sum (Int × (List Int)) (Int × Int × (List Int))) => sumK z9 fun s_z9 =>
  Option.bind (
  cond (s_z9.2.1 != (ln s)) (
  chk (0 ≤ s_z9.2.1 ∧ s_z9.2.1 ≤ ln s) <|
  Option.bind (strings_appendSliceWriter_WriteString s_z9.2.2 (sub s s_z9.2.1 (ln s))) fun y106 =>
  some (w64 (s_z9.1 + y106.1), y106.2)) (
  some (s_z9.1, s_z9.2.2))) fun (z101 : Int × (List Int)) =>
  some (z101.1, z101.2)
theorem strings_genericReplacer_WriteString_w {t_r : Nat} {tb_r : Nat} {n1_r : Nat} {n2_r : Nat} {n3_r : Nat} {n4_r : Nat} {b_w : Nat} {g_w_ : Gh} (M : Av) (m : Nat) (w_ : List Int) (s : Str) (r : Int × (List Int)) (hm : strings_genericReplacer_WriteString m w_ s = some r) (w : World) (hS : S0 M [Ent.trie t_r tb_r n1_r n2_r n3_r n4_r, Ent.blk b_w [.slice g_w_.a w_.length g_w_.c], Ent.own 5 (tI .u8) w_ g_w_] w) : Calls Try.prog 115 ⟨[.pointer (some ⟨t_r, 0, none⟩), .iface 153 (.pointer (some ⟨b_w, 0, none⟩)), .string ⟨⟨s⟩⟩]⟩ w (fun e w' => ∃ v, e = .returned v ∧ ∃ (g901 : Gh), v = .tuple ⟨[.int .i64 r.1, .nilIface]⟩ ∧ SH M (fpl [Ent.trie t_r tb_r n1_r n2_r n3_r n4_r, Ent.blk b_w [.slice g_w_.a w_.length g_w_.c], Ent.own 5 (tI .u8) w_ g_w_]) w [Ent.blk b_w [.slice g901.a r.2.length g901.c], Ent.own 5 (tI .u8) r.2 g901] w') := by
 rw [strings_genericReplacer_WriteString] at hm
 have hS0 : SH M (fpl [Ent.trie t_r tb_r n1_r n2_r n3_r n4_r, Ent.blk b_w [.slice g_w_.a w_.length g_w_.c], Ent.own 5 (tI .u8) w_ g_w_]) w [Ent.trie t_r tb_r n1_r n2_r n3_r n4_r, Ent.blk b_w [.slice g_w_.a w_.length g_w_.c], Ent.own 5 (tI .u8) w_ g_w_] w := hS
 generalize hX : fpl [Ent.trie t_r tb_r n1_r n2_r n3_r n4_r, Ent.blk b_w [.slice g_w_.a w_.length g_w_.c], Ent.own 5 (tI .u8) w_ g_w_] = X at hS0 ⊢
 clear hS hX
 have hS := hS0
 clear hS0
 refine calls_entryP Try.func115 rfl Try.ntmps115 rfl fun _ H => ?_
 refine s_reg [] [0, 1, 2, 6, 7] [(0, [], .pointer (some ⟨t_r, 0, none⟩)), (1, [], .iface 153 (.pointer (some ⟨b_w, 0, none⟩))), (2, [], .string ⟨⟨s⟩⟩), (6, [], .int .i64 0), (7, [], .nilIface)] [] H (by kernel_rfl) trivial fun _ wd1 H2 hb => ?_
 clear H
 replace hS := hS.below hb
 clear hb
 refine s_reg [(.iface 153 (.pointer (some ⟨b_w, 0, none⟩)))] [0, 2, 6, 7, 8] [(0, [], .pointer (some ⟨t_r, 0, none⟩)), (2, [], .string ⟨⟨s⟩⟩), (6, [], .int .i64 0), (7, [], .nilIface), (8, [], .iface 153 (.pointer (some ⟨b_w, 0, none⟩)))] [fun wz => RetB Try.prog 116 ⟨[.iface 153 (.pointer (some ⟨b_w, 0, none⟩))]⟩ (.iface 153 (.pointer (some ⟨b_w, 0, none⟩))) wz] H2 (by kernel_rfl) ⟨(gsw_ok _).b, trivial⟩ fun _ wd3 H4 hb => ?_
 clear H2
 replace hS := hS.below hb
 clear hb
 refine s_reg [] [0, 2, 6, 7, 8, 9] [(0, [], .pointer (some ⟨t_r, 0, none⟩)), (2, [], .string ⟨⟨s⟩⟩), (6, [], .int .i64 0), (7, [], .nilIface), (8, [], .iface 153 (.pointer (some ⟨b_w, 0, none⟩))), (9, [], .int .i64 0)] [] H4 (by kernel_rfl) trivial fun _ wd5 H6 hb => ?_
 clear H4
 replace hS := hS.below hb
 clear hb
 refine s_reg [] [0, 2, 6, 7, 8, 9, 11] [(0, [], .pointer (some ⟨t_r, 0, none⟩)), (2, [], .string ⟨⟨s⟩⟩), (6, [], .int .i64 0), (7, [], .nilIface), (8, [], .iface 153 (.pointer (some ⟨b_w, 0, none⟩))), (9, [], .int .i64 0), (11, [], .bool false)] [] H6 (by kernel_rfl) trivial fun _ wd7 H8 hb => ?_
 clear H6
 replace hS := hS.below hb
 clear hb
 obtain ⟨z9, hz, hm_z9⟩ := bindE hm
 refine w_cut (fun a' w' => ∃ s_z9 : Int × Int × (List Int), z9 = Sum.inr s_z9 ∧ ∃ (g100 : Gh), Fr 131 [(2, [], .string ⟨⟨s⟩⟩), (8, [], .iface 153 (.pointer (some ⟨b_w, 0, none⟩))), (6, [], .int .i64 s_z9.1), (7, [], .nilIface), (9, [], .int .i64 s_z9.2.1)] a' ∧ SH M X w [Ent.trie t_r tb_r n1_r n2_r n3_r n4_r, Ent.blk b_w [.slice g100.a s_z9.2.2.length g100.c], Ent.own 5 (tI .u8) s_z9.2.2 g100] w') ?_ ?_
 ·replace hm := hz
  refine s_reg [] [0, 2, 6, 7, 8, 9, 11, 12] [(0, [], .pointer (some ⟨t_r, 0, none⟩)), (2, [], .string ⟨⟨s⟩⟩), (6, [], .int .i64 0), (7, [], .nilIface), (8, [], .iface 153 (.pointer (some ⟨b_w, 0, none⟩))), (9, [], .int .i64 0), (11, [], .bool false), (12, [], .int .i64 0)] [] H8 (by kernel_rfl) trivial fun _ wd10 H11 hb => ?_
  clear H8
  replace hS := hS.below hb
  clear hb
  refine w_block ?_
  refine w_loop (fun kk a' w' => ∃ (v12 : Int) (v13 : Int) (v14 : Bool) (v15 : Int) (v16 : List Int) (g17 : Gh), strings_genericReplacer_WriteString_L1 m s kk v12 v13 v14 v15 v16 = some _ ∧ Fr 131 [(0, [], .pointer (some ⟨t_r, 0, none⟩)), (2, [], .string ⟨⟨s⟩⟩), (8, [], .iface 153 (.pointer (some ⟨b_w, 0, none⟩))), (6, [], .int .i64 v12), (7, [], .nilIface), (9, [], .int .i64 v13), (11, [], .bool v14), (12, [], .int .i64 v15)] a' ∧ SH M X w [Ent.trie t_r tb_r n1_r n2_r n3_r n4_r, Ent.blk b_w [.slice g17.a v16.length g17.c], Ent.own 5 (tI .u8) v16 g17] w') ⟨_, 0, 0, false, 0, w_, g_w_, hm, FrG.keep (ks := [0, 2, 8, 6, 7, 9, 11, 12]) H11 (by kernel_rfl), hS⟩ ?_
  clear hm H11 hS
  rintro kk _ wd99 ⟨v12, v13, v14, v15, v16, g17, hm, H, hS⟩
  cases kk with
  | zero => exact noneE hm
  | succ kk =>
   rw [strings_genericReplacer_WriteString_L1] at hm
   refine w_seq ?_
   refine s_reg [] [0, 2, 6, 7, 8, 9, 11, 12, 22] [(0, [], .pointer (some ⟨t_r, 0, none⟩)), (2, [], .string ⟨⟨s⟩⟩), (6, [], .int .i64 v12), (7, [], .nilIface), (8, [], .iface 153 (.pointer (some ⟨b_w, 0, none⟩))), (9, [], .int .i64 v13), (11, [], .bool v14), (12, [], .int .i64 v15), (22, [], .bool (decide (v15 ≤ (ln s))))] [] H (by kernel_rfl) trivial fun _ wd18 H19 hb => ?_
   clear H
   replace hS := hS.below hb
   clear hb
   obtain ⟨hp20, hm⟩ := chkE hm
   rw [hp20] at H19
   refine w_if H19 rfl (fun hc => ?_) (fun hc => ?c98)
   case c98 =>
    replace hm := bF hc hm
    refine w_exit rfl ?_
    obtain rfl := someE hm
    exact ⟨_, rfl, g17, FrG.keep (ks := [2, 8, 6, 7, 9]) H19 (by kernel_rfl), hS⟩
   replace hm := bT hc hm
   refine w_skip ?_
   refine w_block ?_
   obtain ⟨z21, hz, hm_z21⟩ := bindE hm
   refine w_cut (fun a' w' => ∃ s_z21 : Int, z21 = Sum.inr s_z21 ∧ Fr 131 [(0, [], .pointer (some ⟨t_r, 0, none⟩)), (2, [], .string ⟨⟨s⟩⟩), (6, [], .int .i64 v12), (7, [], .nilIface), (8, [], .iface 153 (.pointer (some ⟨b_w, 0, none⟩))), (9, [], .int .i64 v13), (11, [], .bool false), (12, [], .int .i64 s_z21)] a' ∧ SH M X w [Ent.trie t_r tb_r n1_r n2_r n3_r n4_r, Ent.blk b_w [.slice g17.a v16.length g17.c], Ent.own 5 (tI .u8) v16 g17] w') ?_ ?_
   ·replace hm := hz
    refine s_reg [(.int .i64 0)] [0, 2, 6, 7, 8, 9, 11, 12, 34] [(0, [], .pointer (some ⟨t_r, 0, none⟩)), (2, [], .string ⟨⟨s⟩⟩), (6, [], .int .i64 v12), (7, [], .nilIface), (8, [], .iface 153 (.pointer (some ⟨b_w, 0, none⟩))), (9, [], .int .i64 v13), (11, [], .bool false), (12, [], .int .i64 v15), (34, [], .bool (cond (v15 != (ln s)) true false))] [fun wz => ((v15 != (ln s)) = true ∧ True → V.at1 ⟨t_r, 1, none⟩ (.int .i64 0) wz)] H19 (by kernel_rfl) ⟨fun hg => (hS.tr 0 rfl).bg.at1 rfl, trivial⟩ fun _ wd22 H23 hb => ?_
    clear H19
    replace hS := hS.below hb
    clear hb
    refine w_if H23 rfl (fun hc => ?_) (fun hc => ?c54)
    case c54 =>
     replace hm := bF hc hm
     refine w_skip ?_
     obtain rfl := someE hm
     exact ⟨_, rfl, FrG.keep (ks := [0, 2, 6, 7, 8, 9, 11, 12]) H23 (by kernel_rfl), hS⟩
    replace hm := bT hc hm
    obtain ⟨ho24, hm⟩ := chkE hm
    refine s_draw [(.int .u8 (gi gmap (bat s v15)))] [0, 2, 6, 7, 8, 9, 11, 12, 13] [(0, [], .pointer (some ⟨t_r, 0, none⟩)), (2, [], .string ⟨⟨s⟩⟩), (6, [], .int .i64 v12), (7, [], .nilIface), (8, [], .iface 153 (.pointer (some ⟨b_w, 0, none⟩))), (9, [], .int .i64 v13), (11, [], .bool false), (12, [], .int .i64 v15), (13, [], .int .i64 (w64 (gi gmap (bat s v15))))] [fun _ => 0 ≤ v15 ∧ v15 < ln s, fun _ => 0 ≤ (bat s v15) ∧ (bat s v15) < (256 : Int), fun wz => V.at1 ⟨t_r, 6 + ((bat s v15)).toNat * 1, none⟩ (.int .u8 (gi gmap (bat s v15))) wz] H23 (by kernel_rfl) (by kernel_rfl) (by kernel_rfl) ⟨ho24, (bat_byte _ _), (Mix.ixn ⟨(hS.tr 0 rfl).bg, gmap_len⟩ rfl (bat_byte _ _)), trivial⟩ fun _ wd25 H26 hb => ?_
    clear H23
    replace hS := hS.below hb
    clear hb
    by_cases hx13 : (bat s v15) = 13
    ·replace hm := bT (decide_eq_true hx13) hm
     rw [show gi gmap (bat s v15) = 3 from by rw [hx13]; exact gmap13] at H26
     replace H26 := FrG.keep (l' := [(0, [], .pointer (some ⟨t_r, 0, none⟩)), (2, [], .string ⟨⟨s⟩⟩), (6, [], .int .i64 v12), (7, [], .nilIface), (8, [], .iface 153 (.pointer (some ⟨b_w, 0, none⟩))), (9, [], .int .i64 v13), (11, [], .bool false), (12, [], .int .i64 v15), (13, [], .int .i64 3)]) (ks := [0, 2, 6, 7, 8, 9, 11, 12, 13]) H26 (by kernel_rfl)
     refine s_reg [(.int .i64 4), (.slice (some ⟨tb_r, 0, none⟩) 4 4), (.pointer (some ⟨n1_r, 0, none⟩))] [0, 2, 6, 7, 8, 9, 11, 12, 60] [(0, [], .pointer (some ⟨t_r, 0, none⟩)), (2, [], .string ⟨⟨s⟩⟩), (6, [], .int .i64 v12), (7, [], .nilIface), (8, [], .iface 153 (.pointer (some ⟨b_w, 0, none⟩))), (9, [], .int .i64 v13), (11, [], .bool false), (12, [], .int .i64 v15), (60, [], .bool false)] [fun wz => V.at1 ⟨t_r, 5, none⟩ (.int .i64 4) wz, fun wz => (false = false ∧ True → V.at1 ⟨t_r, 4, none⟩ (.slice (some ⟨tb_r, 0, none⟩) 4 4) wz), fun _ => (false = false ∧ True → oka (some ⟨tb_r, 0, none⟩) ∧ 0 ≤ (3 : Int) ∧ (3 : Int) < 4), fun wz => (false = false ∧ True → V.at1 ⟨tb_r, 3, none⟩ (.pointer (some ⟨n1_r, 0, none⟩)) wz)] H26 (by kernel_rfl) ⟨((hS.tr 0 rfl).bg.at1 rfl), fun hg => (hS.tr 0 rfl).bg.at1 rfl, fun hg => ⟨rfl, (show 0 ≤ (3 : Int) ∧ (3 : Int) < 4 from by decide)⟩, fun hg => (hS.tr 0 rfl).bt.at1 rfl, trivial⟩ fun _ wd27 H28 hb => ?_
     clear H26
     replace hS := hS.below hb
     clear hb
     refine w_if H28 rfl (fun hc => by cases hc) (fun _ => ?_)
     refine w_skip ?_
     obtain rfl := someE hm
     exact ⟨_, rfl, FrG.keep (ks := [0, 2, 6, 7, 8, 9, 11, 12]) H28 (by kernel_rfl), hS⟩
    replace hm := bF (decide_eq_false hx13) hm
    by_cases hx12 : (bat s v15) = 12
    ·replace hm := bT (decide_eq_true hx12) hm
     rw [show gi gmap (bat s v15) = 2 from by rw [hx12]; exact gmap12] at H26
     replace H26 := FrG.keep (l' := [(0, [], .pointer (some ⟨t_r, 0, none⟩)), (2, [], .string ⟨⟨s⟩⟩), (6, [], .int .i64 v12), (7, [], .nilIface), (8, [], .iface 153 (.pointer (some ⟨b_w, 0, none⟩))), (9, [], .int .i64 v13), (11, [], .bool false), (12, [], .int .i64 v15), (13, [], .int .i64 2)]) (ks := [0, 2, 6, 7, 8, 9, 11, 12, 13]) H26 (by kernel_rfl)
     refine s_reg [(.int .i64 4), (.slice (some ⟨tb_r, 0, none⟩) 4 4), (.pointer (some ⟨n3_r, 0, none⟩))] [0, 2, 6, 7, 8, 9, 11, 12, 60] [(0, [], .pointer (some ⟨t_r, 0, none⟩)), (2, [], .string ⟨⟨s⟩⟩), (6, [], .int .i64 v12), (7, [], .nilIface), (8, [], .iface 153 (.pointer (some ⟨b_w, 0, none⟩))), (9, [], .int .i64 v13), (11, [], .bool false), (12, [], .int .i64 v15), (60, [], .bool false)] [fun wz => V.at1 ⟨t_r, 5, none⟩ (.int .i64 4) wz, fun wz => (false = false ∧ True → V.at1 ⟨t_r, 4, none⟩ (.slice (some ⟨tb_r, 0, none⟩) 4 4) wz), fun _ => (false = false ∧ True → oka (some ⟨tb_r, 0, none⟩) ∧ 0 ≤ (2 : Int) ∧ (2 : Int) < 4), fun wz => (false = false ∧ True → V.at1 ⟨tb_r, 2, none⟩ (.pointer (some ⟨n3_r, 0, none⟩)) wz)] H26 (by kernel_rfl) ⟨((hS.tr 0 rfl).bg.at1 rfl), fun hg => (hS.tr 0 rfl).bg.at1 rfl, fun hg => ⟨rfl, (show 0 ≤ (2 : Int) ∧ (2 : Int) < 4 from by decide)⟩, fun hg => (hS.tr 0 rfl).bt.at1 rfl, trivial⟩ fun _ wd29 H30 hb => ?_
     clear H26
     replace hS := hS.below hb
     clear hb
     refine w_if H30 rfl (fun hc => by cases hc) (fun _ => ?_)
     refine w_skip ?_
     obtain rfl := someE hm
     exact ⟨_, rfl, FrG.keep (ks := [0, 2, 6, 7, 8, 9, 11, 12]) H30 (by kernel_rfl), hS⟩
    replace hm := bF (decide_eq_false hx12) hm
    by_cases hx10 : (bat s v15) = 10
    ·replace hm := bT (decide_eq_true hx10) hm
     rw [show gi gmap (bat s v15) = 1 from by rw [hx10]; exact gmap10] at H26
     replace H26 := FrG.keep (l' := [(0, [], .pointer (some ⟨t_r, 0, none⟩)), (2, [], .string ⟨⟨s⟩⟩), (6, [], .int .i64 v12), (7, [], .nilIface), (8, [], .iface 153 (.pointer (some ⟨b_w, 0, none⟩))), (9, [], .int .i64 v13), (11, [], .bool false), (12, [], .int .i64 v15), (13, [], .int .i64 1)]) (ks := [0, 2, 6, 7, 8, 9, 11, 12, 13]) H26 (by kernel_rfl)
     refine s_reg [(.int .i64 4), (.slice (some ⟨tb_r, 0, none⟩) 4 4), (.pointer none)] [0, 2, 6, 7, 8, 9, 11, 12, 60] [(0, [], .pointer (some ⟨t_r, 0, none⟩)), (2, [], .string ⟨⟨s⟩⟩), (6, [], .int .i64 v12), (7, [], .nilIface), (8, [], .iface 153 (.pointer (some ⟨b_w, 0, none⟩))), (9, [], .int .i64 v13), (11, [], .bool false), (12, [], .int .i64 v15), (60, [], .bool true)] [fun wz => V.at1 ⟨t_r, 5, none⟩ (.int .i64 4) wz, fun wz => (false = false ∧ True → V.at1 ⟨t_r, 4, none⟩ (.slice (some ⟨tb_r, 0, none⟩) 4 4) wz), fun _ => (false = false ∧ True → oka (some ⟨tb_r, 0, none⟩) ∧ 0 ≤ (1 : Int) ∧ (1 : Int) < 4), fun wz => (false = false ∧ True → V.at1 ⟨tb_r, 1, none⟩ (.pointer none) wz)] H26 (by kernel_rfl) ⟨((hS.tr 0 rfl).bg.at1 rfl), fun hg => (hS.tr 0 rfl).bg.at1 rfl, fun hg => ⟨rfl, (show 0 ≤ (1 : Int) ∧ (1 : Int) < 4 from by decide)⟩, fun hg => (hS.tr 0 rfl).bt.at1 rfl, trivial⟩ fun _ wd31 H32 hb => ?_
     clear H26
     replace hS := hS.below hb
     clear hb
     refine w_if H32 rfl (fun _ => ?_) (fun hc => by cases hc)
     refine s_reg [] [0, 2, 6, 7, 8, 9, 11, 12] [(0, [], .pointer (some ⟨t_r, 0, none⟩)), (2, [], .string ⟨⟨s⟩⟩), (6, [], .int .i64 v12), (7, [], .nilIface), (8, [], .iface 153 (.pointer (some ⟨b_w, 0, none⟩))), (9, [], .int .i64 v13), (11, [], .bool false), (12, [], .int .i64 (w64 (v15 + 1)))] [] H32 (by kernel_rfl) trivial fun _ wd33 H34 hb => ?_
     clear H32
     replace hS := hS.below hb
     clear hb
     refine w_exit rfl ?_
     obtain ⟨r35, hr_r35, hm⟩ := bindE hm
     obtain rfl := someE hm
     have hm := hm_z21
     obtain rfl := someE hm
     have hm := hr_r35
     clear hr_r35
     exact ⟨_, Nat.lt_succ_self _, v12, v13, false, w64 (v15 + 1), v16, g17, hm, FrG.keep (ks := [0, 2, 8, 6, 7, 9, 11, 12]) H34 (by kernel_rfl), hS⟩
    replace hm := bF (decide_eq_false hx10) hm
    by_cases hx0 : (bat s v15) = 0
    ·replace hm := bT (decide_eq_true hx0) hm
     rw [show gi gmap (bat s v15) = 0 from by rw [hx0]; exact gmap0] at H26
     replace H26 := FrG.keep (l' := [(0, [], .pointer (some ⟨t_r, 0, none⟩)), (2, [], .string ⟨⟨s⟩⟩), (6, [], .int .i64 v12), (7, [], .nilIface), (8, [], .iface 153 (.pointer (some ⟨b_w, 0, none⟩))), (9, [], .int .i64 v13), (11, [], .bool false), (12, [], .int .i64 v15), (13, [], .int .i64 0)]) (ks := [0, 2, 6, 7, 8, 9, 11, 12, 13]) H26 (by kernel_rfl)
     refine s_reg [(.int .i64 4), (.slice (some ⟨tb_r, 0, none⟩) 4 4), (.pointer (some ⟨n4_r, 0, none⟩))] [0, 2, 6, 7, 8, 9, 11, 12, 60] [(0, [], .pointer (some ⟨t_r, 0, none⟩)), (2, [], .string ⟨⟨s⟩⟩), (6, [], .int .i64 v12), (7, [], .nilIface), (8, [], .iface 153 (.pointer (some ⟨b_w, 0, none⟩))), (9, [], .int .i64 v13), (11, [], .bool false), (12, [], .int .i64 v15), (60, [], .bool false)] [fun wz => V.at1 ⟨t_r, 5, none⟩ (.int .i64 4) wz, fun wz => (false = false ∧ True → V.at1 ⟨t_r, 4, none⟩ (.slice (some ⟨tb_r, 0, none⟩) 4 4) wz), fun _ => (false = false ∧ True → oka (some ⟨tb_r, 0, none⟩) ∧ 0 ≤ (0 : Int) ∧ (0 : Int) < 4), fun wz => (false = false ∧ True → V.at1 ⟨tb_r, 0, none⟩ (.pointer (some ⟨n4_r, 0, none⟩)) wz)] H26 (by kernel_rfl) ⟨((hS.tr 0 rfl).bg.at1 rfl), fun hg => (hS.tr 0 rfl).bg.at1 rfl, fun hg => ⟨rfl, (show 0 ≤ (0 : Int) ∧ (0 : Int) < 4 from by decide)⟩, fun hg => (hS.tr 0 rfl).bt.at1 rfl, trivial⟩ fun _ wd36 H37 hb => ?_
     clear H26
     replace hS := hS.below hb
     clear hb
     refine w_if H37 rfl (fun hc => by cases hc) (fun _ => ?_)
     refine w_skip ?_
     obtain rfl := someE hm
     exact ⟨_, rfl, FrG.keep (ks := [0, 2, 6, 7, 8, 9, 11, 12]) H37 (by kernel_rfl), hS⟩
    replace hm := bF (decide_eq_false hx0) hm
    rw [show gi gmap (bat s v15) = 4 from gmap_el (bat_byte _ _).1 (bat_byte _ _).2 hx13 hx12 hx10 hx0] at H26
    replace H26 := FrG.keep (l' := [(0, [], .pointer (some ⟨t_r, 0, none⟩)), (2, [], .string ⟨⟨s⟩⟩), (6, [], .int .i64 v12), (7, [], .nilIface), (8, [], .iface 153 (.pointer (some ⟨b_w, 0, none⟩))), (9, [], .int .i64 v13), (11, [], .bool false), (12, [], .int .i64 v15), (13, [], .int .i64 4)]) (ks := [0, 2, 6, 7, 8, 9, 11, 12, 13]) H26 (by kernel_rfl)
    refine w_seq ?_
    refine wl_start ?_
    refine wl_batch 0 7 [(.int .i64 4)] [0, 2, 6, 7, 8, 9, 11, 12, 13, 50] [(0, [], .pointer (some ⟨t_r, 0, none⟩)), (2, [], .string ⟨⟨s⟩⟩), (6, [], .int .i64 v12), (7, [], .nilIface), (8, [], .iface 153 (.pointer (some ⟨b_w, 0, none⟩))), (9, [], .int .i64 v13), (11, [], .bool false), (12, [], .int .i64 v15), (13, [], .int .i64 4), (50, [], .bool true)] [fun wz => V.at1 ⟨t_r, 5, none⟩ (.int .i64 4) wz] H26 (by decide) (by kernel_rfl) ⟨((hS.tr 0 rfl).bg.at1 rfl), trivial⟩ fun _ wd38 H39 hb => ?_
    clear H26
    replace hS := hS.below hb
    clear hb
    refine m_skipG 50 [51, 0, 2, 6, 7, 8, 9, 11, 12, 13, 50] [(51, [], undef), (0, [], .pointer (some ⟨t_r, 0, none⟩)), (2, [], .string ⟨⟨s⟩⟩), (6, [], .int .i64 v12), (7, [], .nilIface), (8, [], .iface 153 (.pointer (some ⟨b_w, 0, none⟩))), (9, [], .int .i64 v13), (11, [], .bool false), (12, [], .int .i64 v15), (13, [], .int .i64 4), (50, [], .bool true)] H39 rfl rfl rfl rfl rfl rfl fun _ H40 => ?_
    clear H39
    refine m_skipG 50 [52, 0, 2, 6, 7, 8, 9, 11, 12, 13, 50] [(52, [], undef), (0, [], .pointer (some ⟨t_r, 0, none⟩)), (2, [], .string ⟨⟨s⟩⟩), (6, [], .int .i64 v12), (7, [], .nilIface), (8, [], .iface 153 (.pointer (some ⟨b_w, 0, none⟩))), (9, [], .int .i64 v13), (11, [], .bool false), (12, [], .int .i64 v15), (13, [], .int .i64 4), (50, [], .bool true)] H40 rfl rfl rfl rfl rfl rfl fun _ H41 => ?_
    clear H40
    refine m_skipG 50 [53, 0, 2, 6, 7, 8, 9, 11, 12, 13, 50] [(53, [], undef), (0, [], .pointer (some ⟨t_r, 0, none⟩)), (2, [], .string ⟨⟨s⟩⟩), (6, [], .int .i64 v12), (7, [], .nilIface), (8, [], .iface 153 (.pointer (some ⟨b_w, 0, none⟩))), (9, [], .int .i64 v13), (11, [], .bool false), (12, [], .int .i64 v15), (13, [], .int .i64 4), (50, [], .bool true)] H41 rfl rfl rfl rfl rfl rfl fun _ H42 => ?_
    clear H41
    refine m_skipG 50 [54, 0, 2, 6, 7, 8, 9, 11, 12, 13, 50] [(54, [], undef), (0, [], .pointer (some ⟨t_r, 0, none⟩)), (2, [], .string ⟨⟨s⟩⟩), (6, [], .int .i64 v12), (7, [], .nilIface), (8, [], .iface 153 (.pointer (some ⟨b_w, 0, none⟩))), (9, [], .int .i64 v13), (11, [], .bool false), (12, [], .int .i64 v15), (13, [], .int .i64 4), (50, [], .bool true)] H42 rfl rfl rfl rfl rfl rfl fun _ H43 => ?_
    clear H42
    refine m_skipG 50 [55, 0, 2, 6, 7, 8, 9, 11, 12, 13, 50] [(55, [], undef), (0, [], .pointer (some ⟨t_r, 0, none⟩)), (2, [], .string ⟨⟨s⟩⟩), (6, [], .int .i64 v12), (7, [], .nilIface), (8, [], .iface 153 (.pointer (some ⟨b_w, 0, none⟩))), (9, [], .int .i64 v13), (11, [], .bool false), (12, [], .int .i64 v15), (13, [], .int .i64 4), (50, [], .bool true)] H43 rfl rfl rfl rfl rfl rfl fun _ H44 => ?_
    clear H43
    refine m_skipG 50 [56, 0, 2, 6, 7, 8, 9, 11, 12, 50, 55] [(56, [], undef), (0, [], .pointer (some ⟨t_r, 0, none⟩)), (2, [], .string ⟨⟨s⟩⟩), (6, [], .int .i64 v12), (7, [], .nilIface), (8, [], .iface 153 (.pointer (some ⟨b_w, 0, none⟩))), (9, [], .int .i64 v13), (11, [], .bool false), (12, [], .int .i64 v15), (50, [], .bool true), (55, [], undef)] H44 rfl rfl rfl rfl rfl rfl fun _ H45 => ?_
    clear H44
    refine m_skipG 50 [57, 0, 2, 6, 7, 8, 9, 11, 12, 50] [(57, [], undef), (0, [], .pointer (some ⟨t_r, 0, none⟩)), (2, [], .string ⟨⟨s⟩⟩), (6, [], .int .i64 v12), (7, [], .nilIface), (8, [], .iface 153 (.pointer (some ⟨b_w, 0, none⟩))), (9, [], .int .i64 v13), (11, [], .bool false), (12, [], .int .i64 v15), (50, [], .bool true)] H45 rfl rfl rfl rfl rfl rfl fun _ H46 => ?_
    clear H45
    refine m_skipG 50 [58, 0, 2, 6, 7, 8, 9, 11, 12, 50] [(58, [], undef), (0, [], .pointer (some ⟨t_r, 0, none⟩)), (2, [], .string ⟨⟨s⟩⟩), (6, [], .int .i64 v12), (7, [], .nilIface), (8, [], .iface 153 (.pointer (some ⟨b_w, 0, none⟩))), (9, [], .int .i64 v13), (11, [], .bool false), (12, [], .int .i64 v15), (50, [], .bool true)] H46 rfl rfl rfl rfl rfl rfl fun _ H47 => ?_
    clear H46
    refine m_skipG 50 [59, 0, 2, 6, 7, 8, 9, 11, 12, 50] [(59, [], undef), (0, [], .pointer (some ⟨t_r, 0, none⟩)), (2, [], .string ⟨⟨s⟩⟩), (6, [], .int .i64 v12), (7, [], .nilIface), (8, [], .iface 153 (.pointer (some ⟨b_w, 0, none⟩))), (9, [], .int .i64 v13), (11, [], .bool false), (12, [], .int .i64 v15), (50, [], .bool true)] H47 rfl rfl rfl rfl rfl rfl fun _ H48 => ?_
    clear H47
    refine wl_batch 16 17 [] [0, 2, 6, 7, 8, 9, 11, 12, 60] [(0, [], .pointer (some ⟨t_r, 0, none⟩)), (2, [], .string ⟨⟨s⟩⟩), (6, [], .int .i64 v12), (7, [], .nilIface), (8, [], .iface 153 (.pointer (some ⟨b_w, 0, none⟩))), (9, [], .int .i64 v13), (11, [], .bool false), (12, [], .int .i64 v15), (60, [], .bool true)] [] H48 (by decide) (by kernel_rfl) trivial fun _ wd49 H50 hb => ?_
    clear H48
    replace hS := hS.below hb
    clear hb
    refine wl_end rfl ?_
    refine w_if H50 rfl (fun _ => ?_) (fun hc => by cases hc)
    refine s_reg [] [0, 2, 6, 7, 8, 9, 11, 12] [(0, [], .pointer (some ⟨t_r, 0, none⟩)), (2, [], .string ⟨⟨s⟩⟩), (6, [], .int .i64 v12), (7, [], .nilIface), (8, [], .iface 153 (.pointer (some ⟨b_w, 0, none⟩))), (9, [], .int .i64 v13), (11, [], .bool false), (12, [], .int .i64 (w64 (v15 + 1)))] [] H50 (by kernel_rfl) trivial fun _ wd51 H52 hb => ?_
    clear H50
    replace hS := hS.below hb
    clear hb
    refine w_exit rfl ?_
    obtain ⟨r53, hr_r53, hm⟩ := bindE hm
    obtain rfl := someE hm
    have hm := hm_z21
    obtain rfl := someE hm
    have hm := hr_r53
    clear hr_r53
    exact ⟨_, Nat.lt_succ_self _, v12, v13, false, w64 (v15 + 1), v16, g17, hm, FrG.keep (ks := [0, 2, 8, 6, 7, 9, 11, 12]) H52 (by kernel_rfl), hS⟩
   ·rintro _ wd97 ⟨s_z21, hz, H, hS⟩
    subst hz
    replace hm := sumR hm_z21
    obtain ⟨ho55, hm⟩ := chkE hm
    obtain ⟨y56, hy56, hm⟩ := bindE hm
    refine s_reg [(.tuple ⟨[.string ⟨⟨y56.1⟩⟩, .int .i64 y56.2.1, .bool y56.2.2]⟩)] [0, 2, 6, 7, 8, 9, 12, 14, 15, 16] [(0, [], .pointer (some ⟨t_r, 0, none⟩)), (2, [], .string ⟨⟨s⟩⟩), (6, [], .int .i64 v12), (7, [], .nilIface), (8, [], .iface 153 (.pointer (some ⟨b_w, 0, none⟩))), (9, [], .int .i64 v13), (12, [], .int .i64 s_z21), (14, [], .string ⟨⟨y56.1⟩⟩), (15, [], .int .i64 y56.2.1), (16, [], .bool y56.2.2)] [fun _ => 0 ≤ s_z21 ∧ s_z21 ≤ ln s, fun wz => RetB Try.prog 117 ⟨[.pointer (some ⟨t_r, 0, none⟩), .string ⟨⟨sub s s_z21 (ln s)⟩⟩, .bool false]⟩ (.tuple ⟨[.string ⟨⟨y56.1⟩⟩, .int .i64 y56.2.1, .bool y56.2.2]⟩) wz] H (by kernel_rfl) ⟨ho55, (strings_genericReplacer_lookup_ok (t_r := t_r) (tb_r := tb_r) (n1_r := n1_r) (n2_r := n2_r) (n3_r := n3_r) (n4_r := n4_r) _ _ hy56 _ (s0tr s0nil (hS.tr 0 rfl))), trivial⟩ fun _ wd57 H58 hb => ?_
    clear H
    replace hS := hS.below hb
    clear hb
    refine s_reg [] [0, 2, 6, 7, 8, 9, 11, 12, 14, 15, 16] [(0, [], .pointer (some ⟨t_r, 0, none⟩)), (2, [], .string ⟨⟨s⟩⟩), (6, [], .int .i64 v12), (7, [], .nilIface), (8, [], .iface 153 (.pointer (some ⟨b_w, 0, none⟩))), (9, [], .int .i64 v13), (11, [], .bool (cond y56.2.2 (y56.2.1 == 0) false)), (12, [], .int .i64 s_z21), (14, [], .string ⟨⟨y56.1⟩⟩), (15, [], .int .i64 y56.2.1), (16, [], .bool y56.2.2)] [] H58 (by kernel_rfl) trivial fun _ wd59 H60 hb => ?_
    clear H58
    replace hS := hS.below hb
    clear hb
    obtain ⟨hp61, hm⟩ := chkE hm
    rw [hp61] at H60
    refine w_seq ?_
    refine s_reg [] [0, 2, 6, 7, 8, 9, 11, 12, 14, 15, 78] [(0, [], .pointer (some ⟨t_r, 0, none⟩)), (2, [], .string ⟨⟨s⟩⟩), (6, [], .int .i64 v12), (7, [], .nilIface), (8, [], .iface 153 (.pointer (some ⟨b_w, 0, none⟩))), (9, [], .int .i64 v13), (11, [], .bool false), (12, [], .int .i64 s_z21), (14, [], .string ⟨⟨y56.1⟩⟩), (15, [], .int .i64 y56.2.1), (78, [], .bool y56.2.2)] [] H60 (by kernel_rfl) trivial fun _ wd62 H63 hb => ?_
    clear H60
    replace hS := hS.below hb
    clear hb
    refine w_if H63 rfl (fun hc => ?_) (fun hc => ?c96)
    case c96 =>
     replace hm := bF hc hm
     refine w_skip ?_
     refine w_reg [] [0, 2, 6, 7, 8, 9, 11, 12] [(0, [], .pointer (some ⟨t_r, 0, none⟩)), (2, [], .string ⟨⟨s⟩⟩), (6, [], .int .i64 v12), (7, [], .nilIface), (8, [], .iface 153 (.pointer (some ⟨b_w, 0, none⟩))), (9, [], .int .i64 v13), (11, [], .bool false), (12, [], .int .i64 (w64 (s_z21 + 1)))] [] H63 (by kernel_rfl) trivial fun _ wd94 H95 hb => ?_
     clear H63
     replace hS := hS.below hb
     clear hb
     exact ⟨_, Nat.lt_succ_self _, v12, v13, false, w64 (s_z21 + 1), v16, g17, hm, FrG.keep (ks := [0, 2, 8, 6, 7, 9, 11, 12]) H95 (by kernel_rfl), hS⟩
    replace hm := bT hc hm
    obtain ⟨ho65, hm⟩ := chkE hm
    obtain ⟨y66, hy66, hm⟩ := bindE hm
    refine s_drawS (base := [(0, [], .pointer (some ⟨t_r, 0, none⟩)), (2, [], .string ⟨⟨s⟩⟩), (6, [], .int .i64 v12), (8, [], .iface 153 (.pointer (some ⟨b_w, 0, none⟩))), (9, [], .int .i64 v13), (11, [], .bool false), (12, [], .int .i64 s_z21), (14, [], .string ⟨⟨y56.1⟩⟩), (15, [], .int .i64 y56.2.1)]) (L := [Ent.trie t_r tb_r n1_r n2_r n3_r n4_r, Ent.blk b_w [.slice g17.a v16.length g17.c], Ent.own 5 (tI .u8) v16 g17]) 14 3 (fun yg64 => [.iface 153 (.pointer (some ⟨b_w, 0, none⟩)), .string ⟨⟨s⟩⟩, .int .i64 v13, .int .i64 s_z21, .string ⟨⟨sub s v13 s_z21⟩⟩, .func (.method "WriteString") ⟨[.iface 153 (.pointer (some ⟨b_w, 0, none⟩))]⟩ ⟨[]⟩, .func (.method "WriteString") ⟨[.iface 153 (.pointer (some ⟨b_w, 0, none⟩))]⟩ ⟨[]⟩, .iface 153 (.pointer (some ⟨b_w, 0, none⟩)), .tuple ⟨[.int .i64 y66.1, .nilIface]⟩, .tuple ⟨[.int .i64 y66.1, .nilIface]⟩, .int .i64 y66.1, .nilIface, .int .i64 y66.1, .nilIface]) (fun yg64 => [[], [], [], [], [], [], [], [], [Ent.blk b_w [.slice (yg64 8 0).a y66.2.length (yg64 8 0).c], Ent.own 5 (tI .u8) y66.2 (yg64 8 0)], [], [], [], [], []]) [[15, 16], [], [], [], [], [15, 16], [15, 16], [15, 16], [15, 16], [], [], [], [], []] [[], [], [], [], [], [], [], [], [15, 16], [], [], [], [], []] [[0], [1], [2], [3], [1, 2, 3, 4], [0, 5], [0, 5, 6], [0, 7], [0, 1, 2, 3, 4, 7, 8], [0, 1, 2, 3, 4, 7, 8, 9], [0, 1, 2, 3, 4, 7, 8, 9, 10], [0, 1, 2, 3, 4, 7, 8, 9, 11], [0, 1, 2, 3, 4, 7, 8, 9, 10, 12], [0, 1, 2, 3, 4, 7, 8, 9, 11, 13]] [] (FrG.keep (ks := [0, 2, 6, 8, 9, 11, 12, 14, 15]) H63 (by kernel_rfl)) (fun _ _ h => by cases h) (by kernel_rfl) hS (by kernel_rfl) rfl rfl (by kernel_rfl) (by kernel_rfl) (by kernel_rfl) (gd_none (by kernel_rfl) _ _) ?hloc_yg64 ?hstep_yg64 fun _ wd69 yg64 H70 hv hS => ?hK_yg64
    case hloc_yg64 => exact ⟨(fun _ _ _ _ => ⟨rfl, rfl⟩), (fun _ _ _ _ => ⟨rfl, rfl⟩), (fun _ _ _ _ => ⟨rfl, rfl⟩), (fun _ _ _ _ => ⟨rfl, rfl⟩), (fun _ _ _ _ => ⟨rfl, rfl⟩), (fun _ _ _ _ => ⟨rfl, rfl⟩), (fun _ _ _ _ => ⟨rfl, rfl⟩), (fun _ _ _ _ => ⟨rfl, rfl⟩), (fun yg64 i g hi => by have h8 : updC yg64 i g 8 = yg64 8 := updC_out hi rfl; exact ⟨(show (.tuple ⟨[.int .i64 y66.1, .nilIface]⟩ : Value) = .tuple ⟨[.int .i64 y66.1, .nilIface]⟩ by simp only []), (show ([Ent.blk b_w [.slice ((updC yg64 i g) 8 0).a y66.2.length ((updC yg64 i g) 8 0).c], Ent.own 5 (tI .u8) y66.2 ((updC yg64 i g) 8 0)] : List Ent) = [Ent.blk b_w [.slice (yg64 8 0).a y66.2.length (yg64 8 0).c], Ent.own 5 (tI .u8) y66.2 (yg64 8 0)] by simp only [h8])⟩), (fun _ _ _ _ => ⟨rfl, rfl⟩), (fun _ _ _ _ => ⟨rfl, rfl⟩), (fun _ _ _ _ => ⟨rfl, rfl⟩), (fun _ _ _ _ => ⟨rfl, rfl⟩), (fun _ _ _ _ => ⟨rfl, rfl⟩), trivial⟩
    case hstep_yg64 =>
     refine ⟨?_, ?_, ?_, ?_, ?_, ?_, ?_, ?_, ?_, ?_, ?_, ?_, ?_, ?_, trivial⟩
     ·intro o ho a w yg64 M Hb hv hO hS0
      obtain rfl := Option.some.inj ho
      have H : Fr 131 ([] ++ [(0, [], .pointer (some ⟨t_r, 0, none⟩)), (2, [], .string ⟨⟨s⟩⟩), (6, [], .int .i64 v12), (8, [], .iface 153 (.pointer (some ⟨b_w, 0, none⟩))), (9, [], .int .i64 v13), (11, [], .bool false), (12, [], .int .i64 s_z21), (14, [], .string ⟨⟨y56.1⟩⟩), (15, [], .int .i64 y56.2.1)]) _ := Hb
      obtain ⟨X, hX⟩ : ∃ X, X = fpl [Ent.blk b_w [.slice g17.a v16.length g17.c], Ent.own 5 (tI .u8) v16 g17] := ⟨_, rfl⟩
      have hS : SH M X w [Ent.blk b_w [.slice g17.a v16.length g17.c], Ent.own 5 (tI .u8) v16 g17] w := by rw [hX]; exact hS0
      refine Stp.mono (o_evs [] (.iface 153 (.pointer (some ⟨b_w, 0, none⟩))) none [] H rfl (by kernel_rfl) (fun q e => by cases e)) ?_
      rintro v w2 ⟨rfl, hq⟩
      replace hS : SH M X w [Ent.blk b_w [.slice g17.a v16.length g17.c], Ent.own 5 (tI .u8) v16 g17] _ := hS.below hq.below
      rw [hX] at hS
      exact ⟨gL [], fun _ _ => rfl, hS.sel [0, 1] rfl⟩
     ·intro o ho a w yg64 M Hb hv hO hS0
      obtain rfl := Option.some.inj ho
      have H : Fr 131 ([] ++ [(0, [], .pointer (some ⟨t_r, 0, none⟩)), (2, [], .string ⟨⟨s⟩⟩), (6, [], .int .i64 v12), (8, [], .iface 153 (.pointer (some ⟨b_w, 0, none⟩))), (9, [], .int .i64 v13), (11, [], .bool false), (12, [], .int .i64 s_z21), (14, [], .string ⟨⟨y56.1⟩⟩), (15, [], .int .i64 y56.2.1)]) _ := Hb
      obtain ⟨X, hX⟩ : ∃ X, X = fpl [] := ⟨_, rfl⟩
      have hS : SH M X w [] w := by rw [hX]; exact hS0
      refine Stp.mono (o_evs [] (.string ⟨⟨s⟩⟩) none [] H rfl (by kernel_rfl) (fun q e => by cases e)) ?_
      rintro v w2 ⟨rfl, hq⟩
      replace hS : SH M X w [] _ := hS.below hq.below
      rw [hX] at hS
      exact ⟨gL [], fun _ _ => rfl, hS.sel [] rfl⟩
     ·intro o ho a w yg64 M Hb hv hO hS0
      obtain rfl := Option.some.inj ho
      have H : Fr 131 ([] ++ [(0, [], .pointer (some ⟨t_r, 0, none⟩)), (2, [], .string ⟨⟨s⟩⟩), (6, [], .int .i64 v12), (8, [], .iface 153 (.pointer (some ⟨b_w, 0, none⟩))), (9, [], .int .i64 v13), (11, [], .bool false), (12, [], .int .i64 s_z21), (14, [], .string ⟨⟨y56.1⟩⟩), (15, [], .int .i64 y56.2.1)]) _ := Hb
      obtain ⟨X, hX⟩ : ∃ X, X = fpl [] := ⟨_, rfl⟩
      have hS : SH M X w [] w := by rw [hX]; exact hS0
      refine Stp.mono (o_evs [] (.int .i64 v13) none [] H rfl (by kernel_rfl) (fun q e => by cases e)) ?_
      rintro v w2 ⟨rfl, hq⟩
      replace hS : SH M X w [] _ := hS.below hq.below
      rw [hX] at hS
      exact ⟨gL [], fun _ _ => rfl, hS.sel [] rfl⟩
     ·intro o ho a w yg64 M Hb hv hO hS0
      obtain rfl := Option.some.inj ho
      have H : Fr 131 ([] ++ [(0, [], .pointer (some ⟨t_r, 0, none⟩)), (2, [], .string ⟨⟨s⟩⟩), (6, [], .int .i64 v12), (8, [], .iface 153 (.pointer (some ⟨b_w, 0, none⟩))), (9, [], .int .i64 v13), (11, [], .bool false), (12, [], .int .i64 s_z21), (14, [], .string ⟨⟨y56.1⟩⟩), (15, [], .int .i64 y56.2.1)]) _ := Hb
      obtain ⟨X, hX⟩ : ∃ X, X = fpl [] := ⟨_, rfl⟩
      have hS : SH M X w [] w := by rw [hX]; exact hS0
      refine Stp.mono (o_evs [] (.int .i64 s_z21) none [] H rfl (by kernel_rfl) (fun q e => by cases e)) ?_
      rintro v w2 ⟨rfl, hq⟩
      replace hS : SH M X w [] _ := hS.below hq.below
      rw [hX] at hS
      exact ⟨gL [], fun _ _ => rfl, hS.sel [] rfl⟩
     ·intro o ho a w yg64 M Hb hv hO hS0
      obtain rfl := Option.some.inj ho
      have H : Fr 131 ([(83, [], .int .i64 s_z21), (82, [], .int .i64 v13), (81, [], .string ⟨⟨s⟩⟩)] ++ [(0, [], .pointer (some ⟨t_r, 0, none⟩)), (2, [], .string ⟨⟨s⟩⟩), (6, [], .int .i64 v12), (8, [], .iface 153 (.pointer (some ⟨b_w, 0, none⟩))), (9, [], .int .i64 v13), (11, [], .bool false), (12, [], .int .i64 s_z21), (14, [], .string ⟨⟨y56.1⟩⟩), (15, [], .int .i64 y56.2.1)]) _ := (((Hb).add (hv 1 (by decide) (by decide) 81 rfl)).add (hv 2 (by decide) (by decide) 82 rfl)).add (hv 3 (by decide) (by decide) 83 rfl)
      obtain ⟨X, hX⟩ : ∃ X, X = fpl [] := ⟨_, rfl⟩
      have hS : SH M X w [] w := by rw [hX]; exact hS0
      refine Stp.mono (o_evs [] (.string ⟨⟨sub s v13 s_z21⟩⟩) (some (fun _ => 0 ≤ v13 ∧ v13 ≤ s_z21 ∧ s_z21 ≤ ln s)) [] H rfl (by kernel_rfl) (fun q e => by cases e; exact ho65)) ?_
      rintro v w2 ⟨rfl, hq⟩
      replace hS : SH M X w [] _ := hS.below hq.below
      rw [hX] at hS
      exact ⟨gL [], fun _ _ => rfl, hS.sel [] rfl⟩
     ·intro o ho a w yg64 M Hb hv hO hS0
      obtain rfl := Option.some.inj ho
      have H : Fr 131 ([(80, [], .iface 153 (.pointer (some ⟨b_w, 0, none⟩)))] ++ [(0, [], .pointer (some ⟨t_r, 0, none⟩)), (2, [], .string ⟨⟨s⟩⟩), (6, [], .int .i64 v12), (8, [], .iface 153 (.pointer (some ⟨b_w, 0, none⟩))), (9, [], .int .i64 v13), (11, [], .bool false), (12, [], .int .i64 s_z21), (14, [], .string ⟨⟨y56.1⟩⟩), (15, [], .int .i64 y56.2.1)]) _ := (Hb).add (hv 0 (by decide) (by decide) 80 rfl)
      obtain ⟨X, hX⟩ : ∃ X, X = fpl [Ent.blk b_w [.slice g17.a v16.length g17.c], Ent.own 5 (tI .u8) v16 g17] := ⟨_, rfl⟩
      have hS : SH M X w [Ent.blk b_w [.slice g17.a v16.length g17.c], Ent.own 5 (tI .u8) v16 g17] w := by rw [hX]; exact hS0
      refine Stp.mono (o_evs [] (.func (.method "WriteString") ⟨[.iface 153 (.pointer (some ⟨b_w, 0, none⟩))]⟩ ⟨[]⟩) none [] H rfl (by kernel_rfl) (fun q e => by cases e)) ?_
      rintro v w2 ⟨rfl, hq⟩
      replace hS : SH M X w [Ent.blk b_w [.slice g17.a v16.length g17.c], Ent.own 5 (tI .u8) v16 g17] _ := hS.below hq.below
      rw [hX] at hS
      exact ⟨gL [], fun _ _ => rfl, hS.sel [0, 1] rfl⟩
     ·intro o ho a w yg64 M Hb hv hO hS0
      obtain rfl := Option.some.inj ho
      have H : Fr 131 ([(85, [], .func (.method "WriteString") ⟨[.iface 153 (.pointer (some ⟨b_w, 0, none⟩))]⟩ ⟨[]⟩)] ++ [(0, [], .pointer (some ⟨t_r, 0, none⟩)), (2, [], .string ⟨⟨s⟩⟩), (6, [], .int .i64 v12), (8, [], .iface 153 (.pointer (some ⟨b_w, 0, none⟩))), (9, [], .int .i64 v13), (11, [], .bool false), (12, [], .int .i64 s_z21), (14, [], .string ⟨⟨y56.1⟩⟩), (15, [], .int .i64 y56.2.1)]) _ := (Hb).add (hv 5 (by decide) (by decide) 85 rfl)
      obtain ⟨X, hX⟩ : ∃ X, X = fpl [Ent.blk b_w [.slice g17.a v16.length g17.c], Ent.own 5 (tI .u8) v16 g17] := ⟨_, rfl⟩
      have hS : SH M X w [Ent.blk b_w [.slice g17.a v16.length g17.c], Ent.own 5 (tI .u8) v16 g17] w := by rw [hX]; exact hS0
      refine Stp.mono (o_evs [] (.func (.method "WriteString") ⟨[.iface 153 (.pointer (some ⟨b_w, 0, none⟩))]⟩ ⟨[]⟩) (some (fun _ => ∀ w', (nilAhead (Try.prog.types.size + Made.depth) 153 (.pointer (some ⟨b_w, 0, none⟩)) "WriteString").run Try.prog w' = .ok (some false) w')) [] H rfl (by kernel_rfl) (fun q e => by cases e; exact (fun _ => by kernel_rfl))) ?_
      rintro v w2 ⟨rfl, hq⟩
      replace hS : SH M X w [Ent.blk b_w [.slice g17.a v16.length g17.c], Ent.own 5 (tI .u8) v16 g17] _ := hS.below hq.below
      rw [hX] at hS
      exact ⟨gL [], fun _ _ => rfl, hS.sel [0, 1] rfl⟩
     ·intro o ho a w yg64 M Hb hv hO hS0
      obtain rfl := Option.some.inj ho
      have H : Fr 131 ([(80, [], .iface 153 (.pointer (some ⟨b_w, 0, none⟩)))] ++ [(0, [], .pointer (some ⟨t_r, 0, none⟩)), (2, [], .string ⟨⟨s⟩⟩), (6, [], .int .i64 v12), (8, [], .iface 153 (.pointer (some ⟨b_w, 0, none⟩))), (9, [], .int .i64 v13), (11, [], .bool false), (12, [], .int .i64 s_z21), (14, [], .string ⟨⟨y56.1⟩⟩), (15, [], .int .i64 y56.2.1)]) _ := (Hb).add (hv 0 (by decide) (by decide) 80 rfl)
      obtain ⟨X, hX⟩ : ∃ X, X = fpl [Ent.blk b_w [.slice g17.a v16.length g17.c], Ent.own 5 (tI .u8) v16 g17] := ⟨_, rfl⟩
      have hS : SH M X w [Ent.blk b_w [.slice g17.a v16.length g17.c], Ent.own 5 (tI .u8) v16 g17] w := by rw [hX]; exact hS0
      refine Stp.mono (o_evs [] (.iface 153 (.pointer (some ⟨b_w, 0, none⟩))) none [] H rfl (by kernel_rfl) (fun q e => by cases e)) ?_
      rintro v w2 ⟨rfl, hq⟩
      replace hS : SH M X w [Ent.blk b_w [.slice g17.a v16.length g17.c], Ent.own 5 (tI .u8) v16 g17] _ := hS.below hq.below
      rw [hX] at hS
      exact ⟨gL [], fun _ _ => rfl, hS.sel [0, 1] rfl⟩
     ·intro o ho a w yg64 M Hb hv hO hS0
      obtain rfl := Option.some.inj ho
      have H : Fr 131 ([(87, [], .iface 153 (.pointer (some ⟨b_w, 0, none⟩))), (84, [], .string ⟨⟨sub s v13 s_z21⟩⟩)] ++ [(0, [], .pointer (some ⟨t_r, 0, none⟩)), (2, [], .string ⟨⟨s⟩⟩), (6, [], .int .i64 v12), (8, [], .iface 153 (.pointer (some ⟨b_w, 0, none⟩))), (9, [], .int .i64 v13), (11, [], .bool false), (12, [], .int .i64 s_z21), (14, [], .string ⟨⟨y56.1⟩⟩), (15, [], .int .i64 y56.2.1)]) _ := ((Hb).add (hv 4 (by decide) (by decide) 84 rfl)).add (hv 7 (by decide) (by decide) 87 rfl)
      obtain ⟨X, hX⟩ : ∃ X, X = fpl [Ent.blk b_w [.slice g17.a v16.length g17.c], Ent.own 5 (tI .u8) v16 g17] := ⟨_, rfl⟩
      have hS : SH M X w [Ent.blk b_w [.slice g17.a v16.length g17.c], Ent.own 5 (tI .u8) v16 g17] w := by rw [hX]; exact hS0
      have hd := hS.hand [0, 1] [] rfl rfl
      refine Stp.mono (o_invx H rfl rfl (fun w => by kernel_rfl) (strings_appendSliceWriter_WriteString_ok (b_w := b_w) (g_w_ := g17) _ _ _ hy66 _ _ hd)) ?_
      rintro v w2 hq
      obtain ⟨g67, rfl, hq⟩ := hq
      replace hS : SH M X w [Ent.blk b_w [.slice g67.a y66.2.length g67.c], Ent.own 5 (tI .u8) y66.2 g67] _ := hS.join [0, 1] [] rfl rfl hq
      clear hq
      rw [hX] at hS
      exact ⟨gL [g67], fun _ _ => rfl, hS.sel [0, 1] rfl⟩
     ·intro o ho a w yg64 M Hb hv hO hS0
      obtain rfl := Option.some.inj ho
      have H : Fr 131 ([(88, [], .tuple ⟨[.int .i64 y66.1, .nilIface]⟩)] ++ [(0, [], .pointer (some ⟨t_r, 0, none⟩)), (2, [], .string ⟨⟨s⟩⟩), (6, [], .int .i64 v12), (8, [], .iface 153 (.pointer (some ⟨b_w, 0, none⟩))), (9, [], .int .i64 v13), (11, [], .bool false), (12, [], .int .i64 s_z21), (14, [], .string ⟨⟨y56.1⟩⟩), (15, [], .int .i64 y56.2.1)]) _ := (Hb).add (hv 8 (by decide) (by decide) 88 rfl)
      obtain ⟨X, hX⟩ : ∃ X, X = fpl [] := ⟨_, rfl⟩
      have hS : SH M X w [] w := by rw [hX]; exact hS0
      refine Stp.mono (o_evs [] (.tuple ⟨[.int .i64 y66.1, .nilIface]⟩) none [] H rfl (by kernel_rfl) (fun q e => by cases e)) ?_
      rintro v w2 ⟨rfl, hq⟩
      replace hS : SH M X w [] _ := hS.below hq.below
      rw [hX] at hS
      exact ⟨gL [], fun _ _ => rfl, hS.sel [] rfl⟩
     ·intro o ho a w yg64 M Hb hv hO hS0
      obtain rfl := Option.some.inj ho
      have H : Fr 131 ([(79, [], .tuple ⟨[.int .i64 y66.1, .nilIface]⟩)] ++ [(0, [], .pointer (some ⟨t_r, 0, none⟩)), (2, [], .string ⟨⟨s⟩⟩), (6, [], .int .i64 v12), (8, [], .iface 153 (.pointer (some ⟨b_w, 0, none⟩))), (9, [], .int .i64 v13), (11, [], .bool false), (12, [], .int .i64 s_z21), (14, [], .string ⟨⟨y56.1⟩⟩), (15, [], .int .i64 y56.2.1)]) _ := (Hb).add (hv 9 (by decide) (by decide) 79 rfl)
      obtain ⟨X, hX⟩ : ∃ X, X = fpl [] := ⟨_, rfl⟩
      have hS : SH M X w [] w := by rw [hX]; exact hS0
      refine Stp.mono (o_evs [] (.int .i64 y66.1) none [] H rfl (by kernel_rfl) (fun q e => by cases e)) ?_
      rintro v w2 ⟨rfl, hq⟩
      replace hS : SH M X w [] _ := hS.below hq.below
      rw [hX] at hS
      exact ⟨gL [], fun _ _ => rfl, hS.sel [] rfl⟩
     ·intro o ho a w yg64 M Hb hv hO hS0
      obtain rfl := Option.some.inj ho
      have H : Fr 131 ([(79, [], .tuple ⟨[.int .i64 y66.1, .nilIface]⟩)] ++ [(0, [], .pointer (some ⟨t_r, 0, none⟩)), (2, [], .string ⟨⟨s⟩⟩), (6, [], .int .i64 v12), (8, [], .iface 153 (.pointer (some ⟨b_w, 0, none⟩))), (9, [], .int .i64 v13), (11, [], .bool false), (12, [], .int .i64 s_z21), (14, [], .string ⟨⟨y56.1⟩⟩), (15, [], .int .i64 y56.2.1)]) _ := (Hb).add (hv 9 (by decide) (by decide) 79 rfl)
      obtain ⟨X, hX⟩ : ∃ X, X = fpl [] := ⟨_, rfl⟩
      have hS : SH M X w [] w := by rw [hX]; exact hS0
      refine Stp.mono (o_evs [] (.nilIface) none [] H rfl (by kernel_rfl) (fun q e => by cases e)) ?_
      rintro v w2 ⟨rfl, hq⟩
      replace hS : SH M X w [] _ := hS.below hq.below
      rw [hX] at hS
      exact ⟨gL [], fun _ _ => rfl, hS.sel [] rfl⟩
     ·intro o ho a w yg64 M Hb hv hO hS0
      obtain rfl := Option.some.inj ho
      have H : Fr 131 ([(89, [], .int .i64 y66.1)] ++ [(0, [], .pointer (some ⟨t_r, 0, none⟩)), (2, [], .string ⟨⟨s⟩⟩), (6, [], .int .i64 v12), (8, [], .iface 153 (.pointer (some ⟨b_w, 0, none⟩))), (9, [], .int .i64 v13), (11, [], .bool false), (12, [], .int .i64 s_z21), (14, [], .string ⟨⟨y56.1⟩⟩), (15, [], .int .i64 y56.2.1)]) _ := (Hb).add (hv 10 (by decide) (by decide) 89 rfl)
      obtain ⟨X, hX⟩ : ∃ X, X = fpl [] := ⟨_, rfl⟩
      have hS : SH M X w [] w := by rw [hX]; exact hS0
      refine Stp.mono (o_evs [] (.int .i64 y66.1) none [] H rfl (by kernel_rfl) (fun q e => by cases e)) ?_
      rintro v w2 ⟨rfl, hq⟩
      replace hS : SH M X w [] _ := hS.below hq.below
      rw [hX] at hS
      exact ⟨gL [], fun _ _ => rfl, hS.sel [] rfl⟩
     ·intro o ho a w yg64 M Hb hv hO hS0
      obtain rfl := Option.some.inj ho
      have H : Fr 131 ([(90, [], .nilIface)] ++ [(0, [], .pointer (some ⟨t_r, 0, none⟩)), (2, [], .string ⟨⟨s⟩⟩), (6, [], .int .i64 v12), (8, [], .iface 153 (.pointer (some ⟨b_w, 0, none⟩))), (9, [], .int .i64 v13), (11, [], .bool false), (12, [], .int .i64 s_z21), (14, [], .string ⟨⟨y56.1⟩⟩), (15, [], .int .i64 y56.2.1)]) _ := (Hb).add (hv 11 (by decide) (by decide) 90 rfl)
      obtain ⟨X, hX⟩ : ∃ X, X = fpl [] := ⟨_, rfl⟩
      have hS : SH M X w [] w := by rw [hX]; exact hS0
      refine Stp.mono (o_evs [] (.nilIface) none [] H rfl (by kernel_rfl) (fun q e => by cases e)) ?_
      rintro v w2 ⟨rfl, hq⟩
      replace hS : SH M X w [] _ := hS.below hq.below
      rw [hX] at hS
      exact ⟨gL [], fun _ _ => rfl, hS.sel [] rfl⟩
    have H71 : Fr 131 [(10, [], .int .i64 y66.1), (7, [], .nilIface), (0, [], .pointer (some ⟨t_r, 0, none⟩)), (2, [], .string ⟨⟨s⟩⟩), (6, [], .int .i64 v12), (8, [], .iface 153 (.pointer (some ⟨b_w, 0, none⟩))), (11, [], .bool false), (12, [], .int .i64 s_z21), (14, [], .string ⟨⟨y56.1⟩⟩), (15, [], .int .i64 y56.2.1)] _ := (FrG.add (FrG.add (FrG.keep (ks := [0, 2, 6, 8, 11, 12, 14, 15]) H70 (by kernel_rfl)) (hv 13 7 rfl)) (hv 12 10 rfl))
    replace hS : SH M X w [Ent.blk b_w [.slice (yg64 8 0).a y66.2.length (yg64 8 0).c], Ent.own 5 (tI .u8) y66.2 (yg64 8 0), Ent.trie t_r tb_r n1_r n2_r n3_r n4_r] _ := hS
    clear hv H70
    generalize yg64 8 0 = g72 at H71 hS
    refine s_reg [] [0, 2, 6, 7, 8, 11, 12, 14, 15] [(0, [], .pointer (some ⟨t_r, 0, none⟩)), (2, [], .string ⟨⟨s⟩⟩), (6, [], .int .i64 (w64 (v12 + y66.1))), (7, [], .nilIface), (8, [], .iface 153 (.pointer (some ⟨b_w, 0, none⟩))), (11, [], .bool false), (12, [], .int .i64 s_z21), (14, [], .string ⟨⟨y56.1⟩⟩), (15, [], .int .i64 y56.2.1)] [] H71 (by kernel_rfl) trivial fun _ wd73 H74 hb => ?_
    clear H71
    replace hS := hS.below hb
    clear hb
    refine w_seq ?_
    refine s_reg [] [0, 2, 6, 7, 8, 11, 12, 14, 15, 95] [(0, [], .pointer (some ⟨t_r, 0, none⟩)), (2, [], .string ⟨⟨s⟩⟩), (6, [], .int .i64 (w64 (v12 + y66.1))), (7, [], .nilIface), (8, [], .iface 153 (.pointer (some ⟨b_w, 0, none⟩))), (11, [], .bool false), (12, [], .int .i64 s_z21), (14, [], .string ⟨⟨y56.1⟩⟩), (15, [], .int .i64 y56.2.1), (95, [], .bool false)] [] H74 (by kernel_rfl) trivial fun _ wd75 H76 hb => ?_
    clear H74
    replace hS := hS.below hb
    clear hb
    refine w_if H76 rfl (fun hc => by cases hc) (fun _ => ?_)
    refine w_skip ?_
    refine w_seq ?_
    refine wl_start ?_
    refine wl_batch 0 2 [] [0, 2, 6, 8, 11, 12, 15, 97, 98] [(0, [], .pointer (some ⟨t_r, 0, none⟩)), (2, [], .string ⟨⟨s⟩⟩), (6, [], .int .i64 (w64 (v12 + y66.1))), (8, [], .iface 153 (.pointer (some ⟨b_w, 0, none⟩))), (11, [], .bool false), (12, [], .int .i64 s_z21), (15, [], .int .i64 y56.2.1), (97, [], .iface 153 (.pointer (some ⟨b_w, 0, none⟩))), (98, [], .string ⟨⟨y56.1⟩⟩)] [] H76 (by decide) (by kernel_rfl) trivial fun _ wd77 H78 hb => ?_
    clear H76
    replace hS := hS.below hb
    clear hb
    obtain ⟨y79, hy79, hm⟩ := bindE hm
    have hd := hS.hand [0, 1] [2] rfl rfl
    refine m_stp [99, 0, 2, 6, 8, 11, 12, 15] [(0, [], .pointer (some ⟨t_r, 0, none⟩)), (2, [], .string ⟨⟨s⟩⟩), (6, [], .int .i64 (w64 (v12 + y66.1))), (8, [], .iface 153 (.pointer (some ⟨b_w, 0, none⟩))), (11, [], .bool false), (12, [], .int .i64 s_z21), (15, [], .int .i64 y56.2.1)] H78 rfl rfl rfl rfl (o_invx H78 rfl rfl (fun w => by kernel_rfl) (strings_appendSliceWriter_WriteString_ok (b_w := b_w) (g_w_ := g72) _ _ _ hy79 _ _ hd)) (fun _ => rfl) fun _ wd82 v H83 hq => ?_
    clear H78 hd
    obtain ⟨g80, rfl, hq⟩ := hq
    replace hS : SH M X w [Ent.blk b_w [.slice g80.a y79.2.length g80.c], Ent.own 5 (tI .u8) y79.2 g80, Ent.trie t_r tb_r n1_r n2_r n3_r n4_r] _ := hS.join [0, 1] [2] rfl rfl hq
    clear hq
    refine wl_batch 3 8 [] [0, 2, 6, 7, 8, 10, 11, 12, 15] [(0, [], .pointer (some ⟨t_r, 0, none⟩)), (2, [], .string ⟨⟨s⟩⟩), (6, [], .int .i64 (w64 (v12 + y66.1))), (7, [], .nilIface), (8, [], .iface 153 (.pointer (some ⟨b_w, 0, none⟩))), (10, [], .int .i64 y79.1), (11, [], .bool false), (12, [], .int .i64 s_z21), (15, [], .int .i64 y56.2.1)] [] H83 (by decide) (by kernel_rfl) trivial fun _ wd84 H85 hb => ?_
    clear H83
    replace hS := hS.below hb
    clear hb
    refine wl_end rfl ?_
    refine s_reg [] [0, 2, 6, 7, 8, 11, 12, 15] [(0, [], .pointer (some ⟨t_r, 0, none⟩)), (2, [], .string ⟨⟨s⟩⟩), (6, [], .int .i64 (w64 ((w64 (v12 + y66.1)) + y79.1))), (7, [], .nilIface), (8, [], .iface 153 (.pointer (some ⟨b_w, 0, none⟩))), (11, [], .bool false), (12, [], .int .i64 s_z21), (15, [], .int .i64 y56.2.1)] [] H85 (by kernel_rfl) trivial fun _ wd86 H87 hb => ?_
    clear H85
    replace hS := hS.below hb
    clear hb
    refine w_seq ?_
    refine s_reg [] [0, 2, 6, 7, 8, 11, 12, 15, 106] [(0, [], .pointer (some ⟨t_r, 0, none⟩)), (2, [], .string ⟨⟨s⟩⟩), (6, [], .int .i64 (w64 ((w64 (v12 + y66.1)) + y79.1))), (7, [], .nilIface), (8, [], .iface 153 (.pointer (some ⟨b_w, 0, none⟩))), (11, [], .bool false), (12, [], .int .i64 s_z21), (15, [], .int .i64 y56.2.1), (106, [], .bool false)] [] H87 (by kernel_rfl) trivial fun _ wd88 H89 hb => ?_
    clear H87
    replace hS := hS.below hb
    clear hb
    refine w_if H89 rfl (fun hc => by cases hc) (fun _ => ?_)
    refine w_skip ?_
    refine s_reg [] [0, 2, 6, 7, 8, 11, 12] [(0, [], .pointer (some ⟨t_r, 0, none⟩)), (2, [], .string ⟨⟨s⟩⟩), (6, [], .int .i64 (w64 ((w64 (v12 + y66.1)) + y79.1))), (7, [], .nilIface), (8, [], .iface 153 (.pointer (some ⟨b_w, 0, none⟩))), (11, [], .bool false), (12, [], .int .i64 (w64 (s_z21 + y56.2.1)))] [] H89 (by kernel_rfl) trivial fun _ wd90 H91 hb => ?_
    clear H89
    replace hS := hS.below hb
    clear hb
    refine s_reg [] [0, 2, 6, 7, 8, 9, 11, 12] [(0, [], .pointer (some ⟨t_r, 0, none⟩)), (2, [], .string ⟨⟨s⟩⟩), (6, [], .int .i64 (w64 ((w64 (v12 + y66.1)) + y79.1))), (7, [], .nilIface), (8, [], .iface 153 (.pointer (some ⟨b_w, 0, none⟩))), (9, [], .int .i64 (w64 (s_z21 + y56.2.1))), (11, [], .bool false), (12, [], .int .i64 (w64 (s_z21 + y56.2.1)))] [] H91 (by kernel_rfl) trivial fun _ wd92 H93 hb => ?_
    clear H91
    replace hS := hS.below hb
    clear hb
    refine w_exit rfl ?_
    replace hS : SH M X w [Ent.trie t_r tb_r n1_r n2_r n3_r n4_r, Ent.blk b_w [.slice g80.a y79.2.length g80.c], Ent.own 5 (tI .u8) y79.2 g80] _ := hS.sel [2, 0, 1] rfl
    exact ⟨_, Nat.lt_succ_self _, w64 ((w64 (v12 + y66.1)) + y79.1), w64 (s_z21 + y56.2.1), false, w64 (s_z21 + y56.2.1), y79.2, g80, hm, FrG.keep (ks := [0, 2, 8, 6, 7, 9, 11, 12]) H93 (by kernel_rfl), hS⟩
 ·rintro _ wd119 ⟨s_z9, hz, g100, H, hS⟩
  subst hz
  replace hm := sumR hm_z9
  replace hS : SH M X w [Ent.blk b_w [.slice g100.a s_z9.2.2.length g100.c], Ent.own 5 (tI .u8) s_z9.2.2 g100] _ := hS.sel [1, 2] rfl
  obtain ⟨z101, hz, hm⟩ := bindE hm
  refine w_cut (fun a' w' => ∃ (g116 : Gh), Fr 131 [(6, [], .int .i64 z101.1), (7, [], .nilIface)] a' ∧ SH M X w [Ent.own 5 (tI .u8) z101.2 g116, Ent.blk b_w [.slice g116.a z101.2.length g116.c]] w') ?_ ?_
  ·replace hm := hz
   refine s_reg [] [2, 6, 7, 8, 9, 116] [(2, [], .string ⟨⟨s⟩⟩), (6, [], .int .i64 s_z9.1), (7, [], .nilIface), (8, [], .iface 153 (.pointer (some ⟨b_w, 0, none⟩))), (9, [], .int .i64 s_z9.2.1), (116, [], .bool (s_z9.2.1 != (ln s)))] [] H (by kernel_rfl) trivial fun _ wd102 H103 hb => ?_
   clear H
   replace hS := hS.below hb
   clear hb
   refine w_if H103 rfl (fun hc => ?_) (fun hc => ?c115)
   case c115 =>
    replace hm := bF hc hm
    refine w_skip ?_
    obtain rfl := someE hm
    replace hS : SH M X w [Ent.own 5 (tI .u8) s_z9.2.2 g100, Ent.blk b_w [.slice g100.a s_z9.2.2.length g100.c]] _ := hS.sel [1, 0] rfl
    exact ⟨g100, FrG.keep (ks := [6, 7]) H103 (by kernel_rfl), hS⟩
   replace hm := bT hc hm
   obtain ⟨ho105, hm⟩ := chkE hm
   obtain ⟨y106, hy106, hm⟩ := bindE hm
   refine s_drawS (base := [(2, [], .string ⟨⟨s⟩⟩), (6, [], .int .i64 s_z9.1), (8, [], .iface 153 (.pointer (some ⟨b_w, 0, none⟩))), (9, [], .int .i64 s_z9.2.1)]) (L := [Ent.blk b_w [.slice g100.a s_z9.2.2.length g100.c], Ent.own 5 (tI .u8) s_z9.2.2 g100]) 13 2 (fun yg104 => [.iface 153 (.pointer (some ⟨b_w, 0, none⟩)), .string ⟨⟨s⟩⟩, .int .i64 s_z9.2.1, .string ⟨⟨sub s s_z9.2.1 (ln s)⟩⟩, .func (.method "WriteString") ⟨[.iface 153 (.pointer (some ⟨b_w, 0, none⟩))]⟩ ⟨[]⟩, .func (.method "WriteString") ⟨[.iface 153 (.pointer (some ⟨b_w, 0, none⟩))]⟩ ⟨[]⟩, .iface 153 (.pointer (some ⟨b_w, 0, none⟩)), .tuple ⟨[.int .i64 y106.1, .nilIface]⟩, .tuple ⟨[.int .i64 y106.1, .nilIface]⟩, .int .i64 y106.1, .nilIface, .int .i64 y106.1, .nilIface]) (fun yg104 => [[], [], [], [], [], [], [], [Ent.blk b_w [.slice (yg104 7 0).a y106.2.length (yg104 7 0).c], Ent.own 5 (tI .u8) y106.2 (yg104 7 0)], [], [], [], [], []]) [[13, 14], [], [], [], [13, 14], [13, 14], [13, 14], [13, 14], [], [], [], [], []] [[], [], [], [], [], [], [], [13, 14], [], [], [], [], []] [[0], [1], [2], [1, 2, 3], [0, 4], [0, 4, 5], [0, 6], [0, 1, 2, 3, 6, 7], [0, 1, 2, 3, 6, 7, 8], [0, 1, 2, 3, 6, 7, 8, 9], [0, 1, 2, 3, 6, 7, 8, 10], [0, 1, 2, 3, 6, 7, 8, 9, 11], [0, 1, 2, 3, 6, 7, 8, 10, 12]] [] (FrG.keep (ks := [2, 6, 8, 9]) H103 (by kernel_rfl)) (fun _ _ h => by cases h) (by kernel_rfl) hS (by kernel_rfl) rfl rfl (by kernel_rfl) (by kernel_rfl) (by kernel_rfl) (gd_none (by kernel_rfl) _ _) ?hloc_yg104 ?hstep_yg104 fun _ wd109 yg104 H110 hv hS => ?hK_yg104
   case hloc_yg104 => exact ⟨(fun _ _ _ _ => ⟨rfl, rfl⟩), (fun _ _ _ _ => ⟨rfl, rfl⟩), (fun _ _ _ _ => ⟨rfl, rfl⟩), (fun _ _ _ _ => ⟨rfl, rfl⟩), (fun _ _ _ _ => ⟨rfl, rfl⟩), (fun _ _ _ _ => ⟨rfl, rfl⟩), (fun _ _ _ _ => ⟨rfl, rfl⟩), (fun yg104 i g hi => by have h7 : updC yg104 i g 7 = yg104 7 := updC_out hi rfl; exact ⟨(show (.tuple ⟨[.int .i64 y106.1, .nilIface]⟩ : Value) = .tuple ⟨[.int .i64 y106.1, .nilIface]⟩ by simp only []), (show ([Ent.blk b_w [.slice ((updC yg104 i g) 7 0).a y106.2.length ((updC yg104 i g) 7 0).c], Ent.own 5 (tI .u8) y106.2 ((updC yg104 i g) 7 0)] : List Ent) = [Ent.blk b_w [.slice (yg104 7 0).a y106.2.length (yg104 7 0).c], Ent.own 5 (tI .u8) y106.2 (yg104 7 0)] by simp only [h7])⟩), (fun _ _ _ _ => ⟨rfl, rfl⟩), (fun _ _ _ _ => ⟨rfl, rfl⟩), (fun _ _ _ _ => ⟨rfl, rfl⟩), (fun _ _ _ _ => ⟨rfl, rfl⟩), (fun _ _ _ _ => ⟨rfl, rfl⟩), trivial⟩
   case hstep_yg104 =>
    refine ⟨?_, ?_, ?_, ?_, ?_, ?_, ?_, ?_, ?_, ?_, ?_, ?_, ?_, trivial⟩
    ·intro o ho a w yg104 M Hb hv hO hS0
     obtain rfl := Option.some.inj ho
     have H : Fr 131 ([] ++ [(2, [], .string ⟨⟨s⟩⟩), (6, [], .int .i64 s_z9.1), (8, [], .iface 153 (.pointer (some ⟨b_w, 0, none⟩))), (9, [], .int .i64 s_z9.2.1)]) _ := Hb
     obtain ⟨X, hX⟩ : ∃ X, X = fpl [Ent.blk b_w [.slice g100.a s_z9.2.2.length g100.c], Ent.own 5 (tI .u8) s_z9.2.2 g100] := ⟨_, rfl⟩
     have hS : SH M X w [Ent.blk b_w [.slice g100.a s_z9.2.2.length g100.c], Ent.own 5 (tI .u8) s_z9.2.2 g100] w := by rw [hX]; exact hS0
     refine Stp.mono (o_evs [] (.iface 153 (.pointer (some ⟨b_w, 0, none⟩))) none [] H rfl (by kernel_rfl) (fun q e => by cases e)) ?_
     rintro v w2 ⟨rfl, hq⟩
     replace hS : SH M X w [Ent.blk b_w [.slice g100.a s_z9.2.2.length g100.c], Ent.own 5 (tI .u8) s_z9.2.2 g100] _ := hS.below hq.below
     rw [hX] at hS
     exact ⟨gL [], fun _ _ => rfl, hS.sel [0, 1] rfl⟩
    ·intro o ho a w yg104 M Hb hv hO hS0
     obtain rfl := Option.some.inj ho
     have H : Fr 131 ([] ++ [(2, [], .string ⟨⟨s⟩⟩), (6, [], .int .i64 s_z9.1), (8, [], .iface 153 (.pointer (some ⟨b_w, 0, none⟩))), (9, [], .int .i64 s_z9.2.1)]) _ := Hb
     obtain ⟨X, hX⟩ : ∃ X, X = fpl [] := ⟨_, rfl⟩
     have hS : SH M X w [] w := by rw [hX]; exact hS0
     refine Stp.mono (o_evs [] (.string ⟨⟨s⟩⟩) none [] H rfl (by kernel_rfl) (fun q e => by cases e)) ?_
     rintro v w2 ⟨rfl, hq⟩
     replace hS : SH M X w [] _ := hS.below hq.below
     rw [hX] at hS
     exact ⟨gL [], fun _ _ => rfl, hS.sel [] rfl⟩
    ·intro o ho a w yg104 M Hb hv hO hS0
     obtain rfl := Option.some.inj ho
     have H : Fr 131 ([] ++ [(2, [], .string ⟨⟨s⟩⟩), (6, [], .int .i64 s_z9.1), (8, [], .iface 153 (.pointer (some ⟨b_w, 0, none⟩))), (9, [], .int .i64 s_z9.2.1)]) _ := Hb
     obtain ⟨X, hX⟩ : ∃ X, X = fpl [] := ⟨_, rfl⟩
     have hS : SH M X w [] w := by rw [hX]; exact hS0
     refine Stp.mono (o_evs [] (.int .i64 s_z9.2.1) none [] H rfl (by kernel_rfl) (fun q e => by cases e)) ?_
     rintro v w2 ⟨rfl, hq⟩
     replace hS : SH M X w [] _ := hS.below hq.below
     rw [hX] at hS
     exact ⟨gL [], fun _ _ => rfl, hS.sel [] rfl⟩
    ·intro o ho a w yg104 M Hb hv hO hS0
     obtain rfl := Option.some.inj ho
     have H : Fr 131 ([(120, [], .int .i64 s_z9.2.1), (119, [], .string ⟨⟨s⟩⟩)] ++ [(2, [], .string ⟨⟨s⟩⟩), (6, [], .int .i64 s_z9.1), (8, [], .iface 153 (.pointer (some ⟨b_w, 0, none⟩))), (9, [], .int .i64 s_z9.2.1)]) _ := ((Hb).add (hv 1 (by decide) (by decide) 119 rfl)).add (hv 2 (by decide) (by decide) 120 rfl)
     obtain ⟨X, hX⟩ : ∃ X, X = fpl [] := ⟨_, rfl⟩
     have hS : SH M X w [] w := by rw [hX]; exact hS0
     refine Stp.mono (o_evs [] (.string ⟨⟨sub s s_z9.2.1 (ln s)⟩⟩) (some (fun _ => 0 ≤ s_z9.2.1 ∧ s_z9.2.1 ≤ ln s)) [] H rfl (by kernel_rfl) (fun q e => by cases e; exact ho105)) ?_
     rintro v w2 ⟨rfl, hq⟩
     replace hS : SH M X w [] _ := hS.below hq.below
     rw [hX] at hS
     exact ⟨gL [], fun _ _ => rfl, hS.sel [] rfl⟩
    ·intro o ho a w yg104 M Hb hv hO hS0
     obtain rfl := Option.some.inj ho
     have H : Fr 131 ([(118, [], .iface 153 (.pointer (some ⟨b_w, 0, none⟩)))] ++ [(2, [], .string ⟨⟨s⟩⟩), (6, [], .int .i64 s_z9.1), (8, [], .iface 153 (.pointer (some ⟨b_w, 0, none⟩))), (9, [], .int .i64 s_z9.2.1)]) _ := (Hb).add (hv 0 (by decide) (by decide) 118 rfl)
     obtain ⟨X, hX⟩ : ∃ X, X = fpl [Ent.blk b_w [.slice g100.a s_z9.2.2.length g100.c], Ent.own 5 (tI .u8) s_z9.2.2 g100] := ⟨_, rfl⟩
     have hS : SH M X w [Ent.blk b_w [.slice g100.a s_z9.2.2.length g100.c], Ent.own 5 (tI .u8) s_z9.2.2 g100] w := by rw [hX]; exact hS0
     refine Stp.mono (o_evs [] (.func (.method "WriteString") ⟨[.iface 153 (.pointer (some ⟨b_w, 0, none⟩))]⟩ ⟨[]⟩) none [] H rfl (by kernel_rfl) (fun q e => by cases e)) ?_
     rintro v w2 ⟨rfl, hq⟩
     replace hS : SH M X w [Ent.blk b_w [.slice g100.a s_z9.2.2.length g100.c], Ent.own 5 (tI .u8) s_z9.2.2 g100] _ := hS.below hq.below
     rw [hX] at hS
     exact ⟨gL [], fun _ _ => rfl, hS.sel [0, 1] rfl⟩
    ·intro o ho a w yg104 M Hb hv hO hS0
     obtain rfl := Option.some.inj ho
     have H : Fr 131 ([(122, [], .func (.method "WriteString") ⟨[.iface 153 (.pointer (some ⟨b_w, 0, none⟩))]⟩ ⟨[]⟩)] ++ [(2, [], .string ⟨⟨s⟩⟩), (6, [], .int .i64 s_z9.1), (8, [], .iface 153 (.pointer (some ⟨b_w, 0, none⟩))), (9, [], .int .i64 s_z9.2.1)]) _ := (Hb).add (hv 4 (by decide) (by decide) 122 rfl)
     obtain ⟨X, hX⟩ : ∃ X, X = fpl [Ent.blk b_w [.slice g100.a s_z9.2.2.length g100.c], Ent.own 5 (tI .u8) s_z9.2.2 g100] := ⟨_, rfl⟩
     have hS : SH M X w [Ent.blk b_w [.slice g100.a s_z9.2.2.length g100.c], Ent.own 5 (tI .u8) s_z9.2.2 g100] w := by rw [hX]; exact hS0
     refine Stp.mono (o_evs [] (.func (.method "WriteString") ⟨[.iface 153 (.pointer (some ⟨b_w, 0, none⟩))]⟩ ⟨[]⟩) (some (fun _ => ∀ w', (nilAhead (Try.prog.types.size + Made.depth) 153 (.pointer (some ⟨b_w, 0, none⟩)) "WriteString").run Try.prog w' = .ok (some false) w')) [] H rfl (by kernel_rfl) (fun q e => by cases e; exact (fun _ => by kernel_rfl))) ?_
     rintro v w2 ⟨rfl, hq⟩
     replace hS : SH M X w [Ent.blk b_w [.slice g100.a s_z9.2.2.length g100.c], Ent.own 5 (tI .u8) s_z9.2.2 g100] _ := hS.below hq.below
     rw [hX] at hS
     exact ⟨gL [], fun _ _ => rfl, hS.sel [0, 1] rfl⟩
    ·intro o ho a w yg104 M Hb hv hO hS0
     obtain rfl := Option.some.inj ho
     have H : Fr 131 ([(118, [], .iface 153 (.pointer (some ⟨b_w, 0, none⟩)))] ++ [(2, [], .string ⟨⟨s⟩⟩), (6, [], .int .i64 s_z9.1), (8, [], .iface 153 (.pointer (some ⟨b_w, 0, none⟩))), (9, [], .int .i64 s_z9.2.1)]) _ := (Hb).add (hv 0 (by decide) (by decide) 118 rfl)
     obtain ⟨X, hX⟩ : ∃ X, X = fpl [Ent.blk b_w [.slice g100.a s_z9.2.2.length g100.c], Ent.own 5 (tI .u8) s_z9.2.2 g100] := ⟨_, rfl⟩
     have hS : SH M X w [Ent.blk b_w [.slice g100.a s_z9.2.2.length g100.c], Ent.own 5 (tI .u8) s_z9.2.2 g100] w := by rw [hX]; exact hS0
     refine Stp.mono (o_evs [] (.iface 153 (.pointer (some ⟨b_w, 0, none⟩))) none [] H rfl (by kernel_rfl) (fun q e => by cases e)) ?_
     rintro v w2 ⟨rfl, hq⟩
     replace hS : SH M X w [Ent.blk b_w [.slice g100.a s_z9.2.2.length g100.c], Ent.own 5 (tI .u8) s_z9.2.2 g100] _ := hS.below hq.below
     rw [hX] at hS
     exact ⟨gL [], fun _ _ => rfl, hS.sel [0, 1] rfl⟩
    ·intro o ho a w yg104 M Hb hv hO hS0
     obtain rfl := Option.some.inj ho
     have H : Fr 131 ([(124, [], .iface 153 (.pointer (some ⟨b_w, 0, none⟩))), (121, [], .string ⟨⟨sub s s_z9.2.1 (ln s)⟩⟩)] ++ [(2, [], .string ⟨⟨s⟩⟩), (6, [], .int .i64 s_z9.1), (8, [], .iface 153 (.pointer (some ⟨b_w, 0, none⟩))), (9, [], .int .i64 s_z9.2.1)]) _ := ((Hb).add (hv 3 (by decide) (by decide) 121 rfl)).add (hv 6 (by decide) (by decide) 124 rfl)
     obtain ⟨X, hX⟩ : ∃ X, X = fpl [Ent.blk b_w [.slice g100.a s_z9.2.2.length g100.c], Ent.own 5 (tI .u8) s_z9.2.2 g100] := ⟨_, rfl⟩
     have hS : SH M X w [Ent.blk b_w [.slice g100.a s_z9.2.2.length g100.c], Ent.own 5 (tI .u8) s_z9.2.2 g100] w := by rw [hX]; exact hS0
     have hd := hS.hand [0, 1] [] rfl rfl
     refine Stp.mono (o_invx H rfl rfl (fun w => by kernel_rfl) (strings_appendSliceWriter_WriteString_ok (b_w := b_w) (g_w_ := g100) _ _ _ hy106 _ _ hd)) ?_
     rintro v w2 hq
     obtain ⟨g107, rfl, hq⟩ := hq
     replace hS : SH M X w [Ent.blk b_w [.slice g107.a y106.2.length g107.c], Ent.own 5 (tI .u8) y106.2 g107] _ := hS.join [0, 1] [] rfl rfl hq
     clear hq
     rw [hX] at hS
     exact ⟨gL [g107], fun _ _ => rfl, hS.sel [0, 1] rfl⟩
    ·intro o ho a w yg104 M Hb hv hO hS0
     obtain rfl := Option.some.inj ho
     have H : Fr 131 ([(125, [], .tuple ⟨[.int .i64 y106.1, .nilIface]⟩)] ++ [(2, [], .string ⟨⟨s⟩⟩), (6, [], .int .i64 s_z9.1), (8, [], .iface 153 (.pointer (some ⟨b_w, 0, none⟩))), (9, [], .int .i64 s_z9.2.1)]) _ := (Hb).add (hv 7 (by decide) (by decide) 125 rfl)
     obtain ⟨X, hX⟩ : ∃ X, X = fpl [] := ⟨_, rfl⟩
     have hS : SH M X w [] w := by rw [hX]; exact hS0
     refine Stp.mono (o_evs [] (.tuple ⟨[.int .i64 y106.1, .nilIface]⟩) none [] H rfl (by kernel_rfl) (fun q e => by cases e)) ?_
     rintro v w2 ⟨rfl, hq⟩
     replace hS : SH M X w [] _ := hS.below hq.below
     rw [hX] at hS
     exact ⟨gL [], fun _ _ => rfl, hS.sel [] rfl⟩
    ·intro o ho a w yg104 M Hb hv hO hS0
     obtain rfl := Option.some.inj ho
     have H : Fr 131 ([(117, [], .tuple ⟨[.int .i64 y106.1, .nilIface]⟩)] ++ [(2, [], .string ⟨⟨s⟩⟩), (6, [], .int .i64 s_z9.1), (8, [], .iface 153 (.pointer (some ⟨b_w, 0, none⟩))), (9, [], .int .i64 s_z9.2.1)]) _ := (Hb).add (hv 8 (by decide) (by decide) 117 rfl)
     obtain ⟨X, hX⟩ : ∃ X, X = fpl [] := ⟨_, rfl⟩
     have hS : SH M X w [] w := by rw [hX]; exact hS0
     refine Stp.mono (o_evs [] (.int .i64 y106.1) none [] H rfl (by kernel_rfl) (fun q e => by cases e)) ?_
     rintro v w2 ⟨rfl, hq⟩
     replace hS : SH M X w [] _ := hS.below hq.below
     rw [hX] at hS
     exact ⟨gL [], fun _ _ => rfl, hS.sel [] rfl⟩
    ·intro o ho a w yg104 M Hb hv hO hS0
     obtain rfl := Option.some.inj ho
     have H : Fr 131 ([(117, [], .tuple ⟨[.int .i64 y106.1, .nilIface]⟩)] ++ [(2, [], .string ⟨⟨s⟩⟩), (6, [], .int .i64 s_z9.1), (8, [], .iface 153 (.pointer (some ⟨b_w, 0, none⟩))), (9, [], .int .i64 s_z9.2.1)]) _ := (Hb).add (hv 8 (by decide) (by decide) 117 rfl)
     obtain ⟨X, hX⟩ : ∃ X, X = fpl [] := ⟨_, rfl⟩
     have hS : SH M X w [] w := by rw [hX]; exact hS0
     refine Stp.mono (o_evs [] (.nilIface) none [] H rfl (by kernel_rfl) (fun q e => by cases e)) ?_
     rintro v w2 ⟨rfl, hq⟩
     replace hS : SH M X w [] _ := hS.below hq.below
     rw [hX] at hS
     exact ⟨gL [], fun _ _ => rfl, hS.sel [] rfl⟩
    ·intro o ho a w yg104 M Hb hv hO hS0
     obtain rfl := Option.some.inj ho
     have H : Fr 131 ([(126, [], .int .i64 y106.1)] ++ [(2, [], .string ⟨⟨s⟩⟩), (6, [], .int .i64 s_z9.1), (8, [], .iface 153 (.pointer (some ⟨b_w, 0, none⟩))), (9, [], .int .i64 s_z9.2.1)]) _ := (Hb).add (hv 9 (by decide) (by decide) 126 rfl)
     obtain ⟨X, hX⟩ : ∃ X, X = fpl [] := ⟨_, rfl⟩
     have hS : SH M X w [] w := by rw [hX]; exact hS0
     refine Stp.mono (o_evs [] (.int .i64 y106.1) none [] H rfl (by kernel_rfl) (fun q e => by cases e)) ?_
     rintro v w2 ⟨rfl, hq⟩
     replace hS : SH M X w [] _ := hS.below hq.below
     rw [hX] at hS
     exact ⟨gL [], fun _ _ => rfl, hS.sel [] rfl⟩
    ·intro o ho a w yg104 M Hb hv hO hS0
     obtain rfl := Option.some.inj ho
     have H : Fr 131 ([(127, [], .nilIface)] ++ [(2, [], .string ⟨⟨s⟩⟩), (6, [], .int .i64 s_z9.1), (8, [], .iface 153 (.pointer (some ⟨b_w, 0, none⟩))), (9, [], .int .i64 s_z9.2.1)]) _ := (Hb).add (hv 10 (by decide) (by decide) 127 rfl)
     obtain ⟨X, hX⟩ : ∃ X, X = fpl [] := ⟨_, rfl⟩
     have hS : SH M X w [] w := by rw [hX]; exact hS0
     refine Stp.mono (o_evs [] (.nilIface) none [] H rfl (by kernel_rfl) (fun q e => by cases e)) ?_
     rintro v w2 ⟨rfl, hq⟩
     replace hS : SH M X w [] _ := hS.below hq.below
     rw [hX] at hS
     exact ⟨gL [], fun _ _ => rfl, hS.sel [] rfl⟩
   have H111 : Fr 131 [(10, [], .int .i64 y106.1), (7, [], .nilIface), (6, [], .int .i64 s_z9.1)] _ := (FrG.add (FrG.add (FrG.keep (ks := [6]) H110 (by kernel_rfl)) (hv 12 7 rfl)) (hv 11 10 rfl))
   replace hS : SH M X w [Ent.blk b_w [.slice (yg104 7 0).a y106.2.length (yg104 7 0).c], Ent.own 5 (tI .u8) y106.2 (yg104 7 0)] _ := hS
   clear hv H110
   generalize yg104 7 0 = g112 at H111 hS
   refine w_reg [] [6, 7] [(6, [], .int .i64 (w64 (s_z9.1 + y106.1))), (7, [], .nilIface)] [] H111 (by kernel_rfl) trivial fun _ wd113 H114 hb => ?_
   clear H111
   replace hS := hS.below hb
   clear hb
   obtain rfl := someE hm
   replace hS : SH M X w [Ent.own 5 (tI .u8) y106.2 g112, Ent.blk b_w [.slice g112.a y106.2.length g112.c]] _ := hS.sel [1, 0] rfl
   exact ⟨g112, FrG.keep (ks := [6, 7]) H114 (by kernel_rfl), hS⟩
  ·rintro _ wd118 ⟨g116, H, hS⟩
   refine w_ret ?_
   obtain rfl := someE hm
   exact retR2 H rfl rfl rfl ⟨_, rfl, g116, rfl, (hS.sel [1, 0] rfl)⟩
theorem strings_genericReplacer_WriteString_ok {t_r : Nat} {tb_r : Nat} {n1_r : Nat} {n2_r : Nat} {n3_r : Nat} {n4_r : Nat} {b_w : Nat} {g_w_ : Gh} (m : Nat) (w_ : List Int) (s : Str) (r : Int × (List Int)) (hm : strings_genericReplacer_WriteString m w_ s = some r) (M : Av) (w : World) (hS : S0 M [Ent.trie t_r tb_r n1_r n2_r n3_r n4_r, Ent.blk b_w [.slice g_w_.a w_.length g_w_.c], Ent.own 5 (tI .u8) w_ g_w_] w) : DoesX Try.prog 115 ⟨[.pointer (some ⟨t_r, 0, none⟩), .iface 153 (.pointer (some ⟨b_w, 0, none⟩)), .string ⟨⟨s⟩⟩]⟩ w (fun v w' => ∃ (g901 : Gh), v = .tuple ⟨[.int .i64 r.1, .nilIface]⟩ ∧ SH M (fpl [Ent.trie t_r tb_r n1_r n2_r n3_r n4_r, Ent.blk b_w [.slice g_w_.a w_.length g_w_.c], Ent.own 5 (tI .u8) w_ g_w_]) w [Ent.blk b_w [.slice g901.a r.2.length g901.c], Ent.own 5 (tI .u8) r.2 g901] w') := ⟨Try.call115 _, strings_genericReplacer_WriteString_w M m   w_ s r hm w hS⟩

def strings_genericReplacer_Replace (m : Nat) (s : Str) : Option (Str) :=
  chk (0 ≤ (0 : Int) ∧ (0 : Int) ≤ (ln s) ∧ (ln s) ≤ 1099511627776) <|
  lt (List.replicate ((0 : Int)).toNat (0 : Int)) fun q6 =>
  Option.bind (strings_genericReplacer_WriteString m q6 s) fun y18 =>
  some (toB y18.2)
theorem strings_genericReplacer_Replace_w {t_r : Nat} {tb_r : Nat} {n1_r : Nat} {n2_r : Nat} {n3_r : Nat} {n4_r : Nat} (M : Av) (m : Nat) (s : Str) (r : Str) (hm : strings_genericReplacer_Replace m s = some r) (w : World) (hS : S0 M [Ent.trie t_r tb_r n1_r n2_r n3_r n4_r] w) : Calls Try.prog 114 ⟨[.pointer (some ⟨t_r, 0, none⟩), .string ⟨⟨s⟩⟩]⟩ w (fun e w' => ∃ v, e = .returned v ∧ v = .string ⟨⟨r⟩⟩ ∧ SH M (fpl [Ent.trie t_r tb_r n1_r n2_r n3_r n4_r]) w [] w') := by
 rw [strings_genericReplacer_Replace] at hm
 have hS0 : SH M (fpl [Ent.trie t_r tb_r n1_r n2_r n3_r n4_r]) w [Ent.trie t_r tb_r n1_r n2_r n3_r n4_r] w := hS
 generalize hX : fpl [Ent.trie t_r tb_r n1_r n2_r n3_r n4_r] = X at hS0 ⊢
 clear hS hX
 have hS := hS0
 clear hS0
 refine calls_entryP Try.func114 rfl Try.ntmps114 rfl fun _ H => ?_
 refine s_reg [] [0, 1] [(0, [], .pointer (some ⟨t_r, 0, none⟩)), (1, [], .string ⟨⟨s⟩⟩)] [] H (by kernel_rfl) trivial fun _ wd1 H2 hb => ?_
 clear H
 replace hS := hS.below hb
 clear hb
 refine w_seq ?_
 refine wl_start ?_
 refine wl_batch 0 2 [] [0, 1, 7] [(0, [], .pointer (some ⟨t_r, 0, none⟩)), (1, [], .string ⟨⟨s⟩⟩), (7, [], .int .i64 (ln s))] [] H2 (by decide) (by kernel_rfl) trivial fun _ wd3 H4 hb => ?_
 clear H2
 replace hS := hS.below hb
 clear hb
 obtain ⟨ho5, hm⟩ := chkE hm
 obtain ⟨q6, hq6, hm⟩ := letE hm
 have hd := hS.hand [] [0] rfl rfl
 refine m_stp [8, 0, 1] [(0, [], .pointer (some ⟨t_r, 0, none⟩)), (1, [], .string ⟨⟨s⟩⟩)] H4 rfl rfl rfl rfl (o_make (T := (tI .u8)) (E := 5) (zv := .int .u8 0) (0 : Int) H4 hd rfl rfl (by kernel_rfl) (by kernel_rfl) rfl rfl (fun _ _ => trivial) ho5) (fun _ => rfl) fun _ wd7 v H8 hq => ?_
 clear H4 hd
 obtain ⟨g9, rfl, hq⟩ := hq
 rw [← hq6] at hq
 rw [← hq6] at H8
 replace hS : SH M X w [Ent.own 5 (tI .u8) q6 g9, Ent.trie t_r tb_r n1_r n2_r n3_r n4_r] _ := hS.join [] [0] rfl rfl hq
 clear hq
 have hd := hS.hand [] [0, 1] rfl rfl
 refine m_stp [5, 0, 1, 8] [(0, [], .pointer (some ⟨t_r, 0, none⟩)), (1, [], .string ⟨⟨s⟩⟩), (8, [], .slice g9.a q6.length g9.c)] H8 rfl rfl rfl rfl (o_alloc [.slice none 0 0] (z := .slice none 0 0) hd (by kernel_rfl) rfl) (fun _ => rfl) fun _ wd12 v H13 hq => ?_
 clear H8 hd
 obtain ⟨b11, rfl, hq⟩ := hq
 replace hS : SH M X w [Ent.blk b11 [.slice none 0 0], Ent.own 5 (tI .u8) q6 g9, Ent.trie t_r tb_r n1_r n2_r n3_r n4_r] _ := hS.join [] [0, 1] rfl rfl hq
 clear hq
 have hd := hS.hand [0] [1, 2] rfl rfl
 refine m_stp0 [0, 1, 5] [(0, [], .pointer (some ⟨t_r, 0, none⟩)), (1, [], .string ⟨⟨s⟩⟩), (5, [], .pointer (some ⟨b11, 0, none⟩))] H13 rfl rfl rfl (o_store [.slice g9.a q6.length g9.c] H13 hd rfl rfl (by kernel_rfl) rfl rfl rfl) rfl fun _ wd14 H15 hq => ?_
 clear H13 hd
 obtain ⟨_, hq⟩ := hq
 replace hS : SH M X w [Ent.blk b11 [.slice g9.a q6.length g9.c], Ent.own 5 (tI .u8) q6 g9, Ent.trie t_r tb_r n1_r n2_r n3_r n4_r] _ := hS.join [0] [1, 2] rfl rfl hq
 clear hq
 refine wl_end rfl ?_
 refine w_seq ?_
 refine wl_start ?_
 refine wl_batch 0 3 [] [5, 9, 10, 11] [(5, [], .pointer (some ⟨b11, 0, none⟩)), (9, [], .pointer (some ⟨t_r, 0, none⟩)), (10, [], .iface 153 (.pointer (some ⟨b11, 0, none⟩))), (11, [], .string ⟨⟨s⟩⟩)] [] H15 (by decide) (by kernel_rfl) trivial fun _ wd16 H17 hb => ?_
 clear H15
 replace hS := hS.below hb
 clear hb
 obtain ⟨y18, hy18, hm⟩ := bindE hm
 have hd := hS.hand [2, 0, 1] [2] rfl rfl
 refine m_stp [12, 5] [(5, [], .pointer (some ⟨b11, 0, none⟩))] H17 rfl rfl rfl rfl (o_callx H17 rfl rfl (strings_genericReplacer_WriteString_ok (t_r := t_r) (tb_r := tb_r) (n1_r := n1_r) (n2_r := n2_r) (n3_r := n3_r) (n4_r := n4_r) (b_w := b11) (g_w_ := g9) m _ _ _ hy18 _ _ hd)) (fun _ => rfl) fun _ wd21 v H22 hq => ?_
 clear H17 hd
 obtain ⟨g19, rfl, hq⟩ := hq
 replace hS : SH M X w [Ent.blk b11 [.slice g19.a y18.2.length g19.c], Ent.own 5 (tI .u8) y18.2 g19, Ent.trie t_r tb_r n1_r n2_r n3_r n4_r] _ := hS.join [2, 0, 1] [2] rfl rfl hq
 clear hq
 refine wl_end rfl ?_
 replace hS : SH M X w [Ent.blk b11 [.slice g19.a y18.2.length g19.c], Ent.own 5 (tI .u8) y18.2 g19] _ := hS.sel [0, 1] rfl
 refine s_reg [(.slice g19.a y18.2.length g19.c), (.string ⟨⟨toB y18.2⟩⟩)] [4] [(4, [], .string ⟨⟨toB y18.2⟩⟩)] [fun wz => V.at1 ⟨b11, 0, none⟩ (.slice g19.a y18.2.length g19.c) wz, fun wz => ∀ w', Below wz.heap.size wz w' → (convert 152 9 (.slice g19.a y18.2.length g19.c)).run Try.prog w' = .ok (.string ⟨⟨toB y18.2⟩⟩) w'] H22 (by kernel_rfl) ⟨((hS.bk 0 rfl).at1 rfl), (conv_slG (E := 5) (by kernel_rfl) (by kernel_rfl) (by kernel_rfl) (hS.osl 1 rfl)), trivial⟩ fun _ wd23 H24 hb => ?_
 clear H22
 replace hS := hS.below hb
 clear hb
 replace hS : SH M X w [] _ := hS.sel [] rfl
 refine w_ret ?_
 obtain rfl := someE hm
 exact retR1 H24 rfl rfl ⟨_, rfl, rfl, (hS.sel [] rfl)⟩
theorem strings_genericReplacer_Replace_ok {t_r : Nat} {tb_r : Nat} {n1_r : Nat} {n2_r : Nat} {n3_r : Nat} {n4_r : Nat} (m : Nat) (s : Str) (r : Str) (hm : strings_genericReplacer_Replace m s = some r) (w : World) (hL : S0 F0 [Ent.trie t_r tb_r n1_r n2_r n3_r n4_r] w ∧ fpl [Ent.trie t_r tb_r n1_r n2_r n3_r n4_r] = []) : RetB Try.prog 114 ⟨[.pointer (some ⟨t_r, 0, none⟩), .string ⟨⟨s⟩⟩]⟩ (.string ⟨⟨r⟩⟩) w := retB_of hL (Try.call114 _) (fun w' h => strings_genericReplacer_Replace_w F0 m   s r hm w' h)

def strings_NewReplacer (oldnew : List Str) : Option (Int × Int × Int × (List Str)) :=
  cond ((Int.tmod (ln oldnew) 2) == 1) (
  none) (
  chk (ln ([] : List Str) + ln oldnew ≤ 1099511627776) <|
  lt (([] : List Str) ++ oldnew) fun q9 =>
  some (0, 0, 0, q9))
theorem strings_NewReplacer_w {g_oldnew : Gh} (M : Av) (oldnew : List Str) (r : Int × Int × Int × (List Str)) (hm : strings_NewReplacer oldnew = some r) (w : World) (hS : S0 M [Ent.im tS oldnew g_oldnew] w) : Calls Try.prog 34 ⟨[.slice g_oldnew.a oldnew.length g_oldnew.c]⟩ w (fun e w' => ∃ v, e = .returned v ∧ ∃ (b901 : Nat) (g902 : Gh), v = .pointer (some ⟨b901, 0, none⟩) ∧ SH M (fpl [Ent.im tS oldnew g_oldnew]) w [Ent.blk b901 [.int .u32 r.1, .int .i32 r.2.1, .int .u32 r.2.2.1, .nilIface, .slice g902.a r.2.2.2.length g902.c], Ent.own 9 tS r.2.2.2 g902] w') := by
 rw [strings_NewReplacer] at hm
 have hS0 : SH M (fpl [Ent.im tS oldnew g_oldnew]) w [Ent.im tS oldnew g_oldnew] w := hS
 generalize hX : fpl [Ent.im tS oldnew g_oldnew] = X at hS0 ⊢
 clear hS hX
 have hS := hS0
 clear hS0
 refine calls_entryP Try.func34 rfl Try.ntmps34 rfl fun _ H => ?_
 refine s_reg [] [0] [(0, [], .slice g_oldnew.a oldnew.length g_oldnew.c)] [] H (by kernel_rfl) trivial fun _ wd1 H2 hb => ?_
 clear H
 replace hS := hS.below hb
 clear hb
 refine w_seq ?_
 refine s_reg [] [0, 6] [(0, [], .slice g_oldnew.a oldnew.length g_oldnew.c), (6, [], .bool ((Int.tmod (ln oldnew) 2) == 1))] [fun _ => (2 : Int) ≠ 0] H2 (by kernel_rfl) ⟨(by show (2 : Int) ≠ 0; decide), trivial⟩ fun _ wd3 H4 hb => ?_
 clear H2
 replace hS := hS.below hb
 clear hb
 refine w_if H4 rfl (fun hc => ?c20) (fun hc => ?_)
 case c20 =>
  replace hm := bT hc hm
  exact noneE hm
 replace hm := bF hc hm
 refine w_skip ?_
 refine w_seq ?_
 refine wl_start ?_
 refine wl_batch 0 1 [] [8] [(8, [], .slice g_oldnew.a oldnew.length g_oldnew.c)] [] H4 (by decide) (by kernel_rfl) trivial fun _ wd5 H6 hb => ?_
 clear H4
 replace hS := hS.below hb
 clear hb
 replace hS : SH M X w [Ent.own 9 tS ([] : List Str) (.nil), Ent.im tS oldnew g_oldnew] _ := hS.addNil 9 tS
 obtain ⟨ho8, hm⟩ := chkE hm
 obtain ⟨q9, hq9, hm⟩ := letE hm
 have hd := hS.hand [0, 1] [1] rfl rfl
 refine m_stp [9] [] H6 rfl rfl rfl rfl (o_app (T := tS) (zv := .string ⟨⟨[]⟩⟩) (g1 := Gh.nil) (g2 := g_oldnew) (l1 := ([] : List Str)) (l2 := oldnew) q9 hq9.symm H6 hd rfl rfl rfl rfl rfl rfl rfl (by kernel_rfl) (by kernel_rfl) rfl rfl ho8) (fun _ => rfl) fun _ wd10 v H11 hq => ?_
 clear H6 hd
 obtain ⟨g12, rfl, hq⟩ := hq
 replace hS : SH M X w [Ent.own 9 tS q9 g12, Ent.im tS oldnew g_oldnew] _ := hS.join [0, 1] [1] rfl rfl hq
 clear hq
 refine wl_batch 2 3 [] [10] [(10, [], .agg ⟨[.int .u32 0, .int .i32 0, .int .u32 0, .nilIface, .slice g12.a q9.length g12.c]⟩)] [] H11 (by decide) (by kernel_rfl) trivial fun _ wd13 H14 hb => ?_
 clear H11
 replace hS := hS.below hb
 clear hb
 have hd := hS.hand [] [0, 1] rfl rfl
 refine m_stp [11] [] H14 rfl rfl rfl rfl (o_box [.int .u32 0, .int .i32 0, .int .u32 0, .nilIface, .slice g12.a q9.length g12.c] H14 hd rfl rfl) (fun _ => rfl) fun _ wd16 v H17 hq => ?_
 clear H14 hd
 obtain ⟨b15, rfl, hq⟩ := hq
 replace hS : SH M X w [Ent.blk b15 [.int .u32 0, .int .i32 0, .int .u32 0, .nilIface, .slice g12.a q9.length g12.c], Ent.own 9 tS q9 g12, Ent.im tS oldnew g_oldnew] _ := hS.join [] [0, 1] rfl rfl hq
 clear hq
 refine wl_batch 4 5 [] [2] [(2, [], .pointer (some ⟨b15, 0, none⟩))] [] H17 (by decide) (by kernel_rfl) trivial fun _ wd18 H19 hb => ?_
 clear H17
 replace hS := hS.below hb
 clear hb
 refine wl_end rfl ?_
 replace hS : SH M X w [Ent.blk b15 [.int .u32 0, .int .i32 0, .int .u32 0, .nilIface, .slice g12.a q9.length g12.c], Ent.own 9 tS q9 g12] _ := hS.sel [0, 1] rfl
 refine w_ret ?_
 obtain rfl := someE hm
 exact retR1 H19 rfl rfl ⟨_, rfl, b15, g12, rfl, (hS.sel [0, 1] rfl)⟩
theorem strings_NewReplacer_ok {g_oldnew : Gh} (oldnew : List Str) (r : Int × Int × Int × (List Str)) (hm : strings_NewReplacer oldnew = some r) (M : Av) (w : World) (hS : S0 M [Ent.im tS oldnew g_oldnew] w) : DoesX Try.prog 34 ⟨[.slice g_oldnew.a oldnew.length g_oldnew.c]⟩ w (fun v w' => ∃ (b901 : Nat) (g902 : Gh), v = .pointer (some ⟨b901, 0, none⟩) ∧ SH M (fpl [Ent.im tS oldnew g_oldnew]) w [Ent.blk b901 [.int .u32 r.1, .int .i32 r.2.1, .int .u32 r.2.2.1, .nilIface, .slice g902.a r.2.2.2.length g902.c], Ent.own 9 tS r.2.2.2 g902] w') := ⟨Try.call34 _, strings_NewReplacer_w M   oldnew r hm w hS⟩

def input_cleaner  : Option (Int × Int × Int × (List Str)) :=
  Option.bind (strings_NewReplacer ([[13, 10], [10], [13], [10], [12], [10], [0], [239, 191, 189]] : List Str)) fun y7 =>
  some (y7.1, y7.2.1, y7.2.2.1, y7.2.2.2)
theorem input_cleaner_w  (M : Av)  (r : Int × Int × Int × (List Str)) (hm : input_cleaner = some r) (w : World) (hS : S0 M [] w) : Calls Try.prog 26 ⟨[]⟩ w (fun e w' => ∃ v, e = .returned v ∧ ∃ (b901 : Nat) (g902 : Gh), v = .pointer (some ⟨b901, 0, none⟩) ∧ SH M (fpl []) w [Ent.blk b901 [.int .u32 r.1, .int .i32 r.2.1, .int .u32 r.2.2.1, .nilIface, .slice g902.a r.2.2.2.length g902.c], Ent.own 9 tS r.2.2.2 g902] w') := by
 rw [input_cleaner] at hm
 have hS0 : SH M (fpl []) w [] w := hS
 generalize hX : fpl [] = X at hS0 ⊢
 clear hS hX
 have hS := hS0
 clear hS0
 refine calls_entryP Try.func26 rfl Try.ntmps26 rfl fun _ H => ?_
 refine s_reg [] [] [] [] H (by kernel_rfl) trivial fun _ wd1 H2 hb => ?_
 clear H
 replace hS := hS.below hb
 clear hb
 refine w_seq ?_
 refine wl_start ?_
 have hd := hS.hand [] [] rfl rfl
 refine m_stp [1] [] H2 rfl rfl rfl rfl (o_lit (T := tS) (E := 9) (zv := .string ⟨⟨[]⟩⟩) [.string ⟨⟨[13, 10]⟩⟩, .string ⟨⟨[10]⟩⟩, .string ⟨⟨[13]⟩⟩, .string ⟨⟨[10]⟩⟩, .string ⟨⟨[12]⟩⟩, .string ⟨⟨[10]⟩⟩, .string ⟨⟨[0]⟩⟩, .string ⟨⟨[239, 191, 189]⟩⟩] ([[13, 10], [10], [13], [10], [12], [10], [0], [239, 191, 189]] : List Str) [gL [], gL [], gL [], gL [], gL [], gL [], gL [], gL []] _ H2 hd rfl (by kernel_rfl) (by kernel_rfl) (by kernel_rfl) (by kernel_rfl) (by kernel_rfl) (by kernel_rfl) (by kernel_rfl) rfl (InnL.cons trivial (InnL.cons trivial (InnL.cons trivial (InnL.cons trivial (InnL.cons trivial (InnL.cons trivial (InnL.cons trivial (InnL.cons trivial InnL.nil))))))))) (fun _ => rfl) fun _ wd5 v H6 hq => ?_
 clear H2 hd
 obtain ⟨g3, rfl, hq⟩ := hq
 replace hS : SH M X w [Ent.own 9 tS ([[13, 10], [10], [13], [10], [12], [10], [0], [239, 191, 189]] : List Str) g3] _ := hS.join [] [] rfl rfl hq
 clear hq
 replace hS : SH M X w [Ent.im tS ([[13, 10], [10], [13], [10], [12], [10], [0], [239, 191, 189]] : List Str) g3] _ := SH.frz1 (hS.sel [0] rfl)
 obtain ⟨y7, hy7, hm⟩ := bindE hm
 have hd := hS.hand [0] [0] rfl rfl
 refine m_stp [2] [] H6 rfl rfl rfl rfl (o_callx H6 rfl rfl (strings_NewReplacer_ok (g_oldnew := g3) _ _ hy7 _ _ hd)) (fun _ => rfl) fun _ wd11 v H12 hq => ?_
 clear H6 hd
 obtain ⟨b8, g9, rfl, hq⟩ := hq
 replace hS : SH M X w [Ent.blk b8 [.int .u32 y7.1, .int .i32 y7.2.1, .int .u32 y7.2.2.1, .nilIface, .slice g9.a y7.2.2.2.length g9.c], Ent.own 9 tS y7.2.2.2 g9, Ent.im tS ([[13, 10], [10], [13], [10], [12], [10], [0], [239, 191, 189]] : List Str) g3] _ := hS.join [0] [0] rfl rfl hq
 clear hq
 refine wl_batch 2 3 [] [0] [(0, [], .pointer (some ⟨b8, 0, none⟩))] [] H12 (by decide) (by kernel_rfl) trivial fun _ wd13 H14 hb => ?_
 clear H12
 replace hS := hS.below hb
 clear hb
 refine wl_end rfl ?_
 replace hS : SH M X w [Ent.blk b8 [.int .u32 y7.1, .int .i32 y7.2.1, .int .u32 y7.2.2.1, .nilIface, .slice g9.a y7.2.2.2.length g9.c], Ent.own 9 tS y7.2.2.2 g9] _ := hS.sel [0, 1] rfl
 refine w_ret ?_
 obtain rfl := someE hm
 exact retR1 H14 rfl rfl ⟨_, rfl, b8, g9, rfl, (hS.sel [0, 1] rfl)⟩
theorem input_cleaner_ok   (r : Int × Int × Int × (List Str)) (hm : input_cleaner = some r) (M : Av) (w : World) (hS : S0 M [] w) : DoesX Try.prog 26 ⟨[]⟩ w (fun v w' => ∃ (b901 : Nat) (g902 : Gh), v = .pointer (some ⟨b901, 0, none⟩) ∧ SH M (fpl []) w [Ent.blk b901 [.int .u32 r.1, .int .i32 r.2.1, .int .u32 r.2.2.1, .nilIface, .slice g902.a r.2.2.2.length g902.c], Ent.own 9 tS r.2.2.2 g902] w') := ⟨Try.call26 _, input_cleaner_w M    r hm w hS⟩

end Go.Proofs.Ytihckkbhieblkaa
