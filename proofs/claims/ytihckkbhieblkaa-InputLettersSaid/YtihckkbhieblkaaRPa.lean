/-
  The walks of a strings.Replacer that cleans texts: what it builds, what it finds, what it writes. Printed by a program.
-/
import Derived.Test.YtihckkbhieblkaaRows
import Derived.Test.YtihckkbhieblkaaK
set_option linter.unusedVariables false
set_option maxRecDepth 20000
set_option maxHeartbeats 4000000
namespace Go.Proofs.Ytihckkbhieblkaa
open Go.V Go.RowKit

theorem gsw {x : Value} (M : Av) (w : World) (hS : S0 M [] w) : DoesX Try.prog 116 ⟨[.iface 153 (x)]⟩ w (fun v w' => v = .iface 153 (x) ∧ SH M (fpl []) w [] w') := by
 refine ⟨Try.call116 _, ?_⟩
 have hS0 : SH M (fpl []) w [] w := hS
 generalize hX : fpl [] = X at hS0 ⊢
 clear hS hX
 have hS := hS0
 clear hS0
 refine calls_entryP Try.func116 rfl Try.ntmps116 rfl fun _ H => ?_
 refine s_reg [] [0] [(0, [], .iface 153 (x))] [] H (by kernel_rfl) trivial fun _ wd1k H2k hb => ?_
 clear H
 replace hS := hS.below hb
 clear hb
 refine s_reg [] [0, 3, 4] [(0, [], .iface 153 (x)), (3, [], .iface 153 (x)), (4, [], .bool true)] [] H2k (by kernel_rfl) trivial fun _ wd3k H4k hb => ?_
 clear H2k
 replace hS := hS.below hb
 clear hb
 refine w_seq ?_
 refine s_reg [] [0, 3, 11] [(0, [], .iface 153 (x)), (3, [], .iface 153 (x)), (11, [], .bool false)] [] H4k (by kernel_rfl) trivial fun _ wd5k H6k hb => ?_
 clear H4k
 replace hS := hS.below hb
 clear hb
 refine w_if H6k rfl (fun hc => by cases hc) (fun _ => ?_)
 refine w_skip ?_
 refine s_reg [] [2] [(2, [], .iface 153 (x))] [] H6k (by kernel_rfl) trivial fun _ wd7k H8k hb => ?_
 clear H6k
 replace hS := hS.below hb
 clear hb
 refine w_ret ?_
 exact retR1 H8k rfl rfl ⟨_, rfl, rfl, (hS.sel [] rfl)⟩

theorem gsw_ok (x : Value) : Ret Try.prog 116 ⟨[.iface 153 (x)]⟩ (.iface 153 (x)) := retP_of (Try.call116 _) (fun w h => (gsw (x := x) F0 w h).run)

def lit8 : List Str := [[13, 10], [10], [13], [10], [12], [10], [0], [239, 191, 189]]
theorem strings_trieNode_add_cs3 {b3m : Nat} {b146m : Nat} {b13n : Nat} {b13o : Nat} (M : Av) (w : World) (hS : S0 M [Ent.blk b13n [.string ⟨⟨[]⟩⟩, .int .i64 0, .string ⟨⟨[10]⟩⟩, .pointer (some ⟨b13o, 0, none⟩), .slice none 0 0], Ent.blk b13o [.string ⟨⟨[]⟩⟩, .int .i64 0, .string ⟨⟨[]⟩⟩, .pointer none, .slice none 0 0], Ent.blk b146m [.pointer none, .pointer none, .pointer none, .pointer (some ⟨b13n, 0, none⟩)], Ent.mix .u8 b3m [.string ⟨⟨[]⟩⟩, .int .i64 0, .string ⟨⟨[]⟩⟩, .pointer none, .slice (some ⟨b146m, 0, none⟩) 4 4, .int .i64 4] gmap (256 : Int)] w) : DoesX Try.prog 67 ⟨[.pointer (some ⟨b13o, 0, none⟩), .string ⟨⟨[]⟩⟩, .string ⟨⟨[10]⟩⟩, .int .i64 8, .pointer (some ⟨b3m, 0, none⟩)]⟩ w (fun v w' => v = .tuple ⟨[]⟩ ∧ SH M (fpl [Ent.blk b13n [.string ⟨⟨[]⟩⟩, .int .i64 0, .string ⟨⟨[10]⟩⟩, .pointer (some ⟨b13o, 0, none⟩), .slice none 0 0], Ent.blk b13o [.string ⟨⟨[]⟩⟩, .int .i64 0, .string ⟨⟨[]⟩⟩, .pointer none, .slice none 0 0], Ent.blk b146m [.pointer none, .pointer none, .pointer none, .pointer (some ⟨b13n, 0, none⟩)], Ent.mix .u8 b3m [.string ⟨⟨[]⟩⟩, .int .i64 0, .string ⟨⟨[]⟩⟩, .pointer none, .slice (some ⟨b146m, 0, none⟩) 4 4, .int .i64 4] gmap (256 : Int)]) w [Ent.blk b13o [.string ⟨⟨[10]⟩⟩, .int .i64 8, .string ⟨⟨[]⟩⟩, .pointer none, .slice none 0 0], Ent.blk b13n [.string ⟨⟨[]⟩⟩, .int .i64 0, .string ⟨⟨[10]⟩⟩, .pointer (some ⟨b13o, 0, none⟩), .slice none 0 0], Ent.blk b146m [.pointer none, .pointer none, .pointer none, .pointer (some ⟨b13n, 0, none⟩)], Ent.mix .u8 b3m [.string ⟨⟨[]⟩⟩, .int .i64 0, .string ⟨⟨[]⟩⟩, .pointer none, .slice (some ⟨b146m, 0, none⟩) 4 4, .int .i64 4] gmap (256 : Int)] w') := by
 refine ⟨Try.call67 _, ?_⟩
 have hS0 : SH M (fpl [Ent.blk b13n [.string ⟨⟨[]⟩⟩, .int .i64 0, .string ⟨⟨[10]⟩⟩, .pointer (some ⟨b13o, 0, none⟩), .slice none 0 0], Ent.blk b13o [.string ⟨⟨[]⟩⟩, .int .i64 0, .string ⟨⟨[]⟩⟩, .pointer none, .slice none 0 0], Ent.blk b146m [.pointer none, .pointer none, .pointer none, .pointer (some ⟨b13n, 0, none⟩)], Ent.mix .u8 b3m [.string ⟨⟨[]⟩⟩, .int .i64 0, .string ⟨⟨[]⟩⟩, .pointer none, .slice (some ⟨b146m, 0, none⟩) 4 4, .int .i64 4] gmap (256 : Int)]) w [Ent.blk b13n [.string ⟨⟨[]⟩⟩, .int .i64 0, .string ⟨⟨[10]⟩⟩, .pointer (some ⟨b13o, 0, none⟩), .slice none 0 0], Ent.blk b13o [.string ⟨⟨[]⟩⟩, .int .i64 0, .string ⟨⟨[]⟩⟩, .pointer none, .slice none 0 0], Ent.blk b146m [.pointer none, .pointer none, .pointer none, .pointer (some ⟨b13n, 0, none⟩)], Ent.mix .u8 b3m [.string ⟨⟨[]⟩⟩, .int .i64 0, .string ⟨⟨[]⟩⟩, .pointer none, .slice (some ⟨b146m, 0, none⟩) 4 4, .int .i64 4] gmap (256 : Int)] w := hS
 generalize hX : fpl [Ent.blk b13n [.string ⟨⟨[]⟩⟩, .int .i64 0, .string ⟨⟨[10]⟩⟩, .pointer (some ⟨b13o, 0, none⟩), .slice none 0 0], Ent.blk b13o [.string ⟨⟨[]⟩⟩, .int .i64 0, .string ⟨⟨[]⟩⟩, .pointer none, .slice none 0 0], Ent.blk b146m [.pointer none, .pointer none, .pointer none, .pointer (some ⟨b13n, 0, none⟩)], Ent.mix .u8 b3m [.string ⟨⟨[]⟩⟩, .int .i64 0, .string ⟨⟨[]⟩⟩, .pointer none, .slice (some ⟨b146m, 0, none⟩) 4 4, .int .i64 4] gmap (256 : Int)] = X at hS0 ⊢
 clear hS hX
 have hS := hS0
 clear hS0
 refine calls_entryP Try.func67 rfl Try.ntmps67 rfl fun _ H => ?_
 refine w_seq ?_
 refine s_reg [] [0, 1, 2, 3, 4, 16] [(0, [], .pointer (some ⟨b13o, 0, none⟩)), (1, [], .string ⟨⟨[]⟩⟩), (2, [], .string ⟨⟨[10]⟩⟩), (3, [], .int .i64 8), (4, [], .pointer (some ⟨b3m, 0, none⟩)), (16, [], .bool true)] [] H (by kernel_rfl) trivial fun _ wd1p H2p hb => ?_
 clear H
 replace hS := hS.below hb
 clear hb
 refine w_if H2p rfl (fun _ => ?_) (fun hc => by cases hc)
 refine w_seq ?_
 refine s_reg [(.int .i64 0)] [0, 2, 3, 21] [(0, [], .pointer (some ⟨b13o, 0, none⟩)), (2, [], .string ⟨⟨[10]⟩⟩), (3, [], .int .i64 8), (21, [], .bool true)] [fun wz => V.at1 ⟨b13o, 1, none⟩ (.int .i64 0) wz] H2p (by kernel_rfl) ⟨((hS.bk 1 rfl).at1 rfl), trivial⟩ fun _ wd3p H4p hb => ?_
 clear H2p
 replace hS := hS.below hb
 clear hb
 refine w_if H4p rfl (fun _ => ?_) (fun hc => by cases hc)
 refine w_seq ?_
 refine wl_start ?_
 refine wl_batch 0 4 [] [0, 3, 23, 25] [(0, [], .pointer (some ⟨b13o, 0, none⟩)), (3, [], .int .i64 8), (23, [], .string ⟨⟨[10]⟩⟩), (25, [], .pointer (some ⟨b13o, 0, none⟩))] [] H4p (by decide) (by kernel_rfl) trivial fun _ wd5p H6p hb => ?_
 clear H4p
 replace hS := hS.below hb
 clear hb
 have hd := hS.hand [1] [0, 2, 3] rfl rfl
 refine m_stp0 [0, 3] [(0, [], .pointer (some ⟨b13o, 0, none⟩)), (3, [], .int .i64 8)] H6p rfl rfl rfl (o_store [.string ⟨⟨[10]⟩⟩, .int .i64 0, .string ⟨⟨[]⟩⟩, .pointer none, .slice none 0 0] H6p hd rfl rfl (by kernel_rfl) rfl rfl rfl) rfl fun _ wd7p H8p hq => ?_
 clear H6p hd
 obtain ⟨_, hq⟩ := hq
 replace hS : SH M X w [Ent.blk b13o [.string ⟨⟨[10]⟩⟩, .int .i64 0, .string ⟨⟨[]⟩⟩, .pointer none, .slice none 0 0], Ent.blk b13n [.string ⟨⟨[]⟩⟩, .int .i64 0, .string ⟨⟨[10]⟩⟩, .pointer (some ⟨b13o, 0, none⟩), .slice none 0 0], Ent.blk b146m [.pointer none, .pointer none, .pointer none, .pointer (some ⟨b13n, 0, none⟩)], Ent.mix .u8 b3m [.string ⟨⟨[]⟩⟩, .int .i64 0, .string ⟨⟨[]⟩⟩, .pointer none, .slice (some ⟨b146m, 0, none⟩) 4 4, .int .i64 4] gmap (256 : Int)] _ := hS.join [1] [0, 2, 3] rfl rfl hq
 clear hq
 refine wl_end rfl ?_
 refine wl_start ?_
 refine wl_batch 0 4 [] [27, 29] [(27, [], .int .i64 8), (29, [], .pointer (some ⟨b13o, 1, none⟩))] [] H8p (by decide) (by kernel_rfl) trivial fun _ wd9p H10p hb => ?_
 clear H8p
 replace hS := hS.below hb
 clear hb
 have hd := hS.hand [0] [1, 2, 3] rfl rfl
 refine m_stp0 [] [] H10p rfl rfl rfl (o_store [.string ⟨⟨[10]⟩⟩, .int .i64 8, .string ⟨⟨[]⟩⟩, .pointer none, .slice none 0 0] H10p hd rfl rfl (by kernel_rfl) rfl rfl rfl) rfl fun _ wd11p H12p hq => ?_
 clear H10p hd
 obtain ⟨_, hq⟩ := hq
 replace hS : SH M X w [Ent.blk b13o [.string ⟨⟨[10]⟩⟩, .int .i64 8, .string ⟨⟨[]⟩⟩, .pointer none, .slice none 0 0], Ent.blk b13n [.string ⟨⟨[]⟩⟩, .int .i64 0, .string ⟨⟨[10]⟩⟩, .pointer (some ⟨b13o, 0, none⟩), .slice none 0 0], Ent.blk b146m [.pointer none, .pointer none, .pointer none, .pointer (some ⟨b13n, 0, none⟩)], Ent.mix .u8 b3m [.string ⟨⟨[]⟩⟩, .int .i64 0, .string ⟨⟨[]⟩⟩, .pointer none, .slice (some ⟨b146m, 0, none⟩) 4 4, .int .i64 4] gmap (256 : Int)] _ := hS.join [0] [1, 2, 3] rfl rfl hq
 clear hq
 refine wl_end rfl ?_
 refine w_ret ?_
 try dsimp only
 exact retR0 H12p rfl ⟨_, rfl, rfl, (hS.sel [0, 1, 2, 3] rfl)⟩

theorem strings_trieNode_add_cs2 {b3m : Nat} {b146m : Nat} {b13n : Nat} (M : Av) (w : World) (hS : S0 M [Ent.blk b146m [.pointer none, .pointer none, .pointer none, .pointer (some ⟨b13n, 0, none⟩)], Ent.blk b13n [.string ⟨⟨[]⟩⟩, .int .i64 0, .string ⟨⟨[]⟩⟩, .pointer none, .slice none 0 0], Ent.mix .u8 b3m [.string ⟨⟨[]⟩⟩, .int .i64 0, .string ⟨⟨[]⟩⟩, .pointer none, .slice (some ⟨b146m, 0, none⟩) 4 4, .int .i64 4] gmap (256 : Int)] w) : DoesX Try.prog 67 ⟨[.pointer (some ⟨b13n, 0, none⟩), .string ⟨⟨[10]⟩⟩, .string ⟨⟨[10]⟩⟩, .int .i64 8, .pointer (some ⟨b3m, 0, none⟩)]⟩ w (fun v w' => ∃ (b13o : Nat), v = .tuple ⟨[]⟩ ∧ SH M (fpl [Ent.blk b146m [.pointer none, .pointer none, .pointer none, .pointer (some ⟨b13n, 0, none⟩)], Ent.blk b13n [.string ⟨⟨[]⟩⟩, .int .i64 0, .string ⟨⟨[]⟩⟩, .pointer none, .slice none 0 0], Ent.mix .u8 b3m [.string ⟨⟨[]⟩⟩, .int .i64 0, .string ⟨⟨[]⟩⟩, .pointer none, .slice (some ⟨b146m, 0, none⟩) 4 4, .int .i64 4] gmap (256 : Int)]) w [Ent.blk b13o [.string ⟨⟨[10]⟩⟩, .int .i64 8, .string ⟨⟨[]⟩⟩, .pointer none, .slice none 0 0], Ent.blk b13n [.string ⟨⟨[]⟩⟩, .int .i64 0, .string ⟨⟨[10]⟩⟩, .pointer (some ⟨b13o, 0, none⟩), .slice none 0 0], Ent.blk b146m [.pointer none, .pointer none, .pointer none, .pointer (some ⟨b13n, 0, none⟩)], Ent.mix .u8 b3m [.string ⟨⟨[]⟩⟩, .int .i64 0, .string ⟨⟨[]⟩⟩, .pointer none, .slice (some ⟨b146m, 0, none⟩) 4 4, .int .i64 4] gmap (256 : Int)] w') := by
 refine ⟨Try.call67 _, ?_⟩
 have hS0 : SH M (fpl [Ent.blk b146m [.pointer none, .pointer none, .pointer none, .pointer (some ⟨b13n, 0, none⟩)], Ent.blk b13n [.string ⟨⟨[]⟩⟩, .int .i64 0, .string ⟨⟨[]⟩⟩, .pointer none, .slice none 0 0], Ent.mix .u8 b3m [.string ⟨⟨[]⟩⟩, .int .i64 0, .string ⟨⟨[]⟩⟩, .pointer none, .slice (some ⟨b146m, 0, none⟩) 4 4, .int .i64 4] gmap (256 : Int)]) w [Ent.blk b146m [.pointer none, .pointer none, .pointer none, .pointer (some ⟨b13n, 0, none⟩)], Ent.blk b13n [.string ⟨⟨[]⟩⟩, .int .i64 0, .string ⟨⟨[]⟩⟩, .pointer none, .slice none 0 0], Ent.mix .u8 b3m [.string ⟨⟨[]⟩⟩, .int .i64 0, .string ⟨⟨[]⟩⟩, .pointer none, .slice (some ⟨b146m, 0, none⟩) 4 4, .int .i64 4] gmap (256 : Int)] w := hS
 generalize hX : fpl [Ent.blk b146m [.pointer none, .pointer none, .pointer none, .pointer (some ⟨b13n, 0, none⟩)], Ent.blk b13n [.string ⟨⟨[]⟩⟩, .int .i64 0, .string ⟨⟨[]⟩⟩, .pointer none, .slice none 0 0], Ent.mix .u8 b3m [.string ⟨⟨[]⟩⟩, .int .i64 0, .string ⟨⟨[]⟩⟩, .pointer none, .slice (some ⟨b146m, 0, none⟩) 4 4, .int .i64 4] gmap (256 : Int)] = X at hS0 ⊢
 clear hS hX
 have hS := hS0
 clear hS0
 refine calls_entryP Try.func67 rfl Try.ntmps67 rfl fun _ H => ?_
 refine w_seq ?_
 refine s_reg [] [0, 1, 2, 3, 4, 16] [(0, [], .pointer (some ⟨b13n, 0, none⟩)), (1, [], .string ⟨⟨[10]⟩⟩), (2, [], .string ⟨⟨[10]⟩⟩), (3, [], .int .i64 8), (4, [], .pointer (some ⟨b3m, 0, none⟩)), (16, [], .bool false)] [] H (by kernel_rfl) trivial fun _ wd1o H2o hb => ?_
 clear H
 replace hS := hS.below hb
 clear hb
 refine w_if H2o rfl (fun hc => by cases hc) (fun _ => ?_)
 refine w_skip ?_
 refine s_reg [(.string ⟨⟨[]⟩⟩)] [0, 1, 2, 3, 4, 34] [(0, [], .pointer (some ⟨b13n, 0, none⟩)), (1, [], .string ⟨⟨[10]⟩⟩), (2, [], .string ⟨⟨[10]⟩⟩), (3, [], .int .i64 8), (4, [], .pointer (some ⟨b3m, 0, none⟩)), (34, [], .bool false)] [fun wz => V.at1 ⟨b13n, 2, none⟩ (.string ⟨⟨[]⟩⟩) wz] H2o (by kernel_rfl) ⟨((hS.bk 1 rfl).at1 rfl), trivial⟩ fun _ wd3o H4o hb => ?_
 clear H2o
 replace hS := hS.below hb
 clear hb
 refine w_if H4o rfl (fun hc => by cases hc) (fun _ => ?_)
 refine s_reg [(.slice none 0 0)] [0, 1, 2, 3, 4, 189] [(0, [], .pointer (some ⟨b13n, 0, none⟩)), (1, [], .string ⟨⟨[10]⟩⟩), (2, [], .string ⟨⟨[10]⟩⟩), (3, [], .int .i64 8), (4, [], .pointer (some ⟨b3m, 0, none⟩)), (189, [], .bool false)] [fun wz => V.at1 ⟨b13n, 4, none⟩ (.slice none 0 0) wz] H4o (by kernel_rfl) ⟨((hS.bk 1 rfl).at1 rfl), trivial⟩ fun _ wd5o H6o hb => ?_
 clear H4o
 replace hS := hS.below hb
 clear hb
 refine w_if H6o rfl (fun hc => by cases hc) (fun _ => ?_)
 refine w_seq ?_
 refine wl_start ?_
 refine wl_batch 0 4 [] [0, 2, 3, 4, 226, 228] [(0, [], .pointer (some ⟨b13n, 0, none⟩)), (2, [], .string ⟨⟨[10]⟩⟩), (3, [], .int .i64 8), (4, [], .pointer (some ⟨b3m, 0, none⟩)), (226, [], .string ⟨⟨[10]⟩⟩), (228, [], .pointer (some ⟨b13n, 2, none⟩))] [] H6o (by decide) (by kernel_rfl) trivial fun _ wd7o H8o hb => ?_
 clear H6o
 replace hS := hS.below hb
 clear hb
 have hd := hS.hand [1] [0, 2] rfl rfl
 refine m_stp0 [0, 2, 3, 4] [(0, [], .pointer (some ⟨b13n, 0, none⟩)), (2, [], .string ⟨⟨[10]⟩⟩), (3, [], .int .i64 8), (4, [], .pointer (some ⟨b3m, 0, none⟩))] H8o rfl rfl rfl (o_store [.string ⟨⟨[]⟩⟩, .int .i64 0, .string ⟨⟨[10]⟩⟩, .pointer none, .slice none 0 0] H8o hd rfl rfl (by kernel_rfl) rfl rfl rfl) rfl fun _ wd9o H10o hq => ?_
 clear H8o hd
 obtain ⟨_, hq⟩ := hq
 replace hS : SH M X w [Ent.blk b13n [.string ⟨⟨[]⟩⟩, .int .i64 0, .string ⟨⟨[10]⟩⟩, .pointer none, .slice none 0 0], Ent.blk b146m [.pointer none, .pointer none, .pointer none, .pointer (some ⟨b13n, 0, none⟩)], Ent.mix .u8 b3m [.string ⟨⟨[]⟩⟩, .int .i64 0, .string ⟨⟨[]⟩⟩, .pointer none, .slice (some ⟨b146m, 0, none⟩) 4 4, .int .i64 4] gmap (256 : Int)] _ := hS.join [1] [0, 2] rfl rfl hq
 clear hq
 refine wl_end rfl ?_
 refine w_seq ?_
 refine wl_start ?_
 refine wl_batch 0 1 [] [0, 2, 3, 4, 229] [(0, [], .pointer (some ⟨b13n, 0, none⟩)), (2, [], .string ⟨⟨[10]⟩⟩), (3, [], .int .i64 8), (4, [], .pointer (some ⟨b3m, 0, none⟩)), (229, [], .pointer (some ⟨b13n, 0, none⟩))] [] H10o (by decide) (by kernel_rfl) trivial fun _ wd11o H12o hb => ?_
 clear H10o
 replace hS := hS.below hb
 clear hb
 have hd := hS.hand [] [0, 1, 2] rfl rfl
 refine m_stp [230, 0, 2, 3, 4, 229] [(0, [], .pointer (some ⟨b13n, 0, none⟩)), (2, [], .string ⟨⟨[10]⟩⟩), (3, [], .int .i64 8), (4, [], .pointer (some ⟨b3m, 0, none⟩)), (229, [], .pointer (some ⟨b13n, 0, none⟩))] H12o rfl rfl rfl rfl (o_alloc [.string ⟨⟨[]⟩⟩, .int .i64 0, .string ⟨⟨[]⟩⟩, .pointer none, .slice none 0 0] (z := .agg ⟨[.string ⟨⟨[]⟩⟩, .int .i64 0, .string ⟨⟨[]⟩⟩, .pointer none, .slice none 0 0]⟩) hd (by kernel_rfl) rfl) (fun _ => rfl) fun _ wd14o v H15o hq => ?_
 clear H12o hd
 obtain ⟨b13o, rfl, hq⟩ := hq
 replace hS : SH M X w [Ent.blk b13o [.string ⟨⟨[]⟩⟩, .int .i64 0, .string ⟨⟨[]⟩⟩, .pointer none, .slice none 0 0], Ent.blk b13n [.string ⟨⟨[]⟩⟩, .int .i64 0, .string ⟨⟨[10]⟩⟩, .pointer none, .slice none 0 0], Ent.blk b146m [.pointer none, .pointer none, .pointer none, .pointer (some ⟨b13n, 0, none⟩)], Ent.mix .u8 b3m [.string ⟨⟨[]⟩⟩, .int .i64 0, .string ⟨⟨[]⟩⟩, .pointer none, .slice (some ⟨b146m, 0, none⟩) 4 4, .int .i64 4] gmap (256 : Int)] _ := hS.join [] [0, 1, 2] rfl rfl hq
 clear hq
 refine wl_batch 2 4 [] [0, 2, 3, 4, 230, 232] [(0, [], .pointer (some ⟨b13n, 0, none⟩)), (2, [], .string ⟨⟨[10]⟩⟩), (3, [], .int .i64 8), (4, [], .pointer (some ⟨b3m, 0, none⟩)), (230, [], .pointer (some ⟨b13o, 0, none⟩)), (232, [], .pointer (some ⟨b13n, 3, none⟩))] [] H15o (by decide) (by kernel_rfl) trivial fun _ wd16o H17o hb => ?_
 clear H15o
 replace hS := hS.below hb
 clear hb
 have hd := hS.hand [1] [0, 2, 3] rfl rfl
 refine m_stp0 [0, 2, 3, 4] [(0, [], .pointer (some ⟨b13n, 0, none⟩)), (2, [], .string ⟨⟨[10]⟩⟩), (3, [], .int .i64 8), (4, [], .pointer (some ⟨b3m, 0, none⟩))] H17o rfl rfl rfl (o_store [.string ⟨⟨[]⟩⟩, .int .i64 0, .string ⟨⟨[10]⟩⟩, .pointer (some ⟨b13o, 0, none⟩), .slice none 0 0] H17o hd rfl rfl (by kernel_rfl) rfl rfl rfl) rfl fun _ wd18o H19o hq => ?_
 clear H17o hd
 obtain ⟨_, hq⟩ := hq
 replace hS : SH M X w [Ent.blk b13n [.string ⟨⟨[]⟩⟩, .int .i64 0, .string ⟨⟨[10]⟩⟩, .pointer (some ⟨b13o, 0, none⟩), .slice none 0 0], Ent.blk b13o [.string ⟨⟨[]⟩⟩, .int .i64 0, .string ⟨⟨[]⟩⟩, .pointer none, .slice none 0 0], Ent.blk b146m [.pointer none, .pointer none, .pointer none, .pointer (some ⟨b13n, 0, none⟩)], Ent.mix .u8 b3m [.string ⟨⟨[]⟩⟩, .int .i64 0, .string ⟨⟨[]⟩⟩, .pointer none, .slice (some ⟨b146m, 0, none⟩) 4 4, .int .i64 4] gmap (256 : Int)] _ := hS.join [1] [0, 2, 3] rfl rfl hq
 clear hq
 refine wl_end rfl ?_
 refine wl_start ?_
 refine wl_batch 0 7 [(.pointer (some ⟨b13o, 0, none⟩))] [236, 237, 238, 239] [(236, [], .pointer (some ⟨b13o, 0, none⟩)), (237, [], .string ⟨⟨[10]⟩⟩), (238, [], .int .i64 8), (239, [], .pointer (some ⟨b3m, 0, none⟩))] [fun wz => V.at1 ⟨b13n, 3, none⟩ (.pointer (some ⟨b13o, 0, none⟩)) wz] H19o (by decide) (by kernel_rfl) ⟨((hS.bk 0 rfl).at1 rfl), trivial⟩ fun _ wd20o H21o hb => ?_
 clear H19o
 replace hS := hS.below hb
 clear hb
 have hd := hS.hand [0, 1, 2, 3] [] rfl rfl
 refine m_stp [240] [] H21o rfl rfl rfl rfl (o_callx H21o rfl rfl (strings_trieNode_add_cs3 _ _ hd)) (fun _ => rfl) fun _ wd22o v H23o hq => ?_
 clear H21o hd
 obtain ⟨rfl, hq⟩ := hq
 replace hS : SH M X w [Ent.blk b13o [.string ⟨⟨[10]⟩⟩, .int .i64 8, .string ⟨⟨[]⟩⟩, .pointer none, .slice none 0 0], Ent.blk b13n [.string ⟨⟨[]⟩⟩, .int .i64 0, .string ⟨⟨[10]⟩⟩, .pointer (some ⟨b13o, 0, none⟩), .slice none 0 0], Ent.blk b146m [.pointer none, .pointer none, .pointer none, .pointer (some ⟨b13n, 0, none⟩)], Ent.mix .u8 b3m [.string ⟨⟨[]⟩⟩, .int .i64 0, .string ⟨⟨[]⟩⟩, .pointer none, .slice (some ⟨b146m, 0, none⟩) 4 4, .int .i64 4] gmap (256 : Int)] _ := hS.join [0, 1, 2, 3] [] rfl rfl hq
 clear hq
 refine wl_end rfl ?_
 try dsimp only
 exact retR0 H23o rfl ⟨_, rfl, b13o, rfl, (hS.sel [0, 1, 2, 3] rfl)⟩

theorem strings_trieNode_add_cs {b3m : Nat} {b146m : Nat} (M : Av) (w : World) (hS : S0 M [Ent.mix .u8 b3m [.string ⟨⟨[]⟩⟩, .int .i64 0, .string ⟨⟨[]⟩⟩, .pointer none, .slice (some ⟨b146m, 0, none⟩) 4 4, .int .i64 4] gmap (256 : Int), Ent.blk b146m [.pointer none, .pointer none, .pointer none, .pointer none]] w) : DoesX Try.prog 67 ⟨[.pointer (some ⟨b3m, 0, none⟩), .string ⟨⟨[13, 10]⟩⟩, .string ⟨⟨[10]⟩⟩, .int .i64 8, .pointer (some ⟨b3m, 0, none⟩)]⟩ w (fun v w' => ∃ (b13n : Nat) (b25n : Nat), v = .tuple ⟨[]⟩ ∧ SH M (fpl [Ent.mix .u8 b3m [.string ⟨⟨[]⟩⟩, .int .i64 0, .string ⟨⟨[]⟩⟩, .pointer none, .slice (some ⟨b146m, 0, none⟩) 4 4, .int .i64 4] gmap (256 : Int), Ent.blk b146m [.pointer none, .pointer none, .pointer none, .pointer none]]) w [Ent.blk b25n [.string ⟨⟨[10]⟩⟩, .int .i64 8, .string ⟨⟨[]⟩⟩, .pointer none, .slice none 0 0], Ent.blk b13n [.string ⟨⟨[]⟩⟩, .int .i64 0, .string ⟨⟨[10]⟩⟩, .pointer (some ⟨b25n, 0, none⟩), .slice none 0 0], Ent.blk b146m [.pointer none, .pointer none, .pointer none, .pointer (some ⟨b13n, 0, none⟩)], Ent.mix .u8 b3m [.string ⟨⟨[]⟩⟩, .int .i64 0, .string ⟨⟨[]⟩⟩, .pointer none, .slice (some ⟨b146m, 0, none⟩) 4 4, .int .i64 4] gmap (256 : Int)] w') := by
 refine ⟨Try.call67 _, ?_⟩
 have hS0 : SH M (fpl [Ent.mix .u8 b3m [.string ⟨⟨[]⟩⟩, .int .i64 0, .string ⟨⟨[]⟩⟩, .pointer none, .slice (some ⟨b146m, 0, none⟩) 4 4, .int .i64 4] gmap (256 : Int), Ent.blk b146m [.pointer none, .pointer none, .pointer none, .pointer none]]) w [Ent.mix .u8 b3m [.string ⟨⟨[]⟩⟩, .int .i64 0, .string ⟨⟨[]⟩⟩, .pointer none, .slice (some ⟨b146m, 0, none⟩) 4 4, .int .i64 4] gmap (256 : Int), Ent.blk b146m [.pointer none, .pointer none, .pointer none, .pointer none]] w := hS
 generalize hX : fpl [Ent.mix .u8 b3m [.string ⟨⟨[]⟩⟩, .int .i64 0, .string ⟨⟨[]⟩⟩, .pointer none, .slice (some ⟨b146m, 0, none⟩) 4 4, .int .i64 4] gmap (256 : Int), Ent.blk b146m [.pointer none, .pointer none, .pointer none, .pointer none]] = X at hS0 ⊢
 clear hS hX
 have hS := hS0
 clear hS0
 refine calls_entryP Try.func67 rfl Try.ntmps67 rfl fun _ H => ?_
 refine w_seq ?_
 refine s_reg [] [0, 1, 2, 3, 4, 16] [(0, [], .pointer (some ⟨b3m, 0, none⟩)), (1, [], .string ⟨⟨[13, 10]⟩⟩), (2, [], .string ⟨⟨[10]⟩⟩), (3, [], .int .i64 8), (4, [], .pointer (some ⟨b3m, 0, none⟩)), (16, [], .bool false)] [] H (by kernel_rfl) trivial fun _ wd1n H2n hb => ?_
 clear H
 replace hS := hS.below hb
 clear hb
 refine w_if H2n rfl (fun hc => by cases hc) (fun _ => ?_)
 refine w_skip ?_
 refine s_reg [(.string ⟨⟨[]⟩⟩)] [0, 1, 2, 3, 4, 34] [(0, [], .pointer (some ⟨b3m, 0, none⟩)), (1, [], .string ⟨⟨[13, 10]⟩⟩), (2, [], .string ⟨⟨[10]⟩⟩), (3, [], .int .i64 8), (4, [], .pointer (some ⟨b3m, 0, none⟩)), (34, [], .bool false)] [fun wz => V.at1 ⟨b3m, 2, none⟩ (.string ⟨⟨[]⟩⟩) wz] H2n (by kernel_rfl) ⟨((hS.mix 0 rfl).1.at1 rfl), trivial⟩ fun _ wd3n H4n hb => ?_
 clear H2n
 replace hS := hS.below hb
 clear hb
 refine w_if H4n rfl (fun hc => by cases hc) (fun _ => ?_)
 refine s_reg [(.slice (some ⟨b146m, 0, none⟩) 4 4)] [0, 1, 2, 3, 4, 189] [(0, [], .pointer (some ⟨b3m, 0, none⟩)), (1, [], .string ⟨⟨[13, 10]⟩⟩), (2, [], .string ⟨⟨[10]⟩⟩), (3, [], .int .i64 8), (4, [], .pointer (some ⟨b3m, 0, none⟩)), (189, [], .bool true)] [fun wz => V.at1 ⟨b3m, 4, none⟩ (.slice (some ⟨b146m, 0, none⟩) 4 4) wz] H4n (by kernel_rfl) ⟨((hS.mix 0 rfl).1.at1 rfl), trivial⟩ fun _ wd5n H6n hb => ?_
 clear H4n
 replace hS := hS.below hb
 clear hb
 refine w_if H6n rfl (fun _ => ?_) (fun hc => by cases hc)
 refine s_draw [(.int .u8 3)] [0, 1, 2, 3, 4, 14] [(0, [], .pointer (some ⟨b3m, 0, none⟩)), (1, [], .string ⟨⟨[13, 10]⟩⟩), (2, [], .string ⟨⟨[10]⟩⟩), (3, [], .int .i64 8), (4, [], .pointer (some ⟨b3m, 0, none⟩)), (14, [], .int .u8 3)] [fun _ => 0 ≤ (0 : Int) ∧ (0 : Int) < ln ([13, 10] : Str), fun _ => 0 ≤ (13 : Int) ∧ (13 : Int) < (256 : Int), fun wz => V.at1 ⟨b3m, 6 + ((13 : Int)).toNat * 1, none⟩ (.int .u8 3) wz] H6n (by kernel_rfl) (by kernel_rfl) (by kernel_rfl) ⟨(show 0 ≤ (0 : Int) ∧ (0 : Int) < ln ([13, 10] : Str) from by decide), (show 0 ≤ (13 : Int) ∧ (13 : Int) < (256 : Int) from by decide), (Mix.ixn (hS.mix 0 rfl) rfl (show 0 ≤ (13 : Int) ∧ (13 : Int) < (256 : Int) from by decide)), trivial⟩ fun _ wd7n H8n hb => ?_
 clear H6n
 replace hS := hS.below hb
 clear hb
 refine w_seq ?_
 refine s_reg [(.slice (some ⟨b146m, 0, none⟩) 4 4), (.pointer none)] [0, 1, 2, 3, 4, 14, 204] [(0, [], .pointer (some ⟨b3m, 0, none⟩)), (1, [], .string ⟨⟨[13, 10]⟩⟩), (2, [], .string ⟨⟨[10]⟩⟩), (3, [], .int .i64 8), (4, [], .pointer (some ⟨b3m, 0, none⟩)), (14, [], .int .u8 3), (204, [], .bool true)] [fun wz => V.at1 ⟨b3m, 4, none⟩ (.slice (some ⟨b146m, 0, none⟩) 4 4) wz, fun _ => oka (some ⟨b146m, 0, none⟩) ∧ 0 ≤ (3 : Int) ∧ (3 : Int) < 4, fun wz => V.at1 ⟨b146m, 3, none⟩ (.pointer none) wz] H8n (by kernel_rfl) ⟨((hS.mix 0 rfl).1.at1 rfl), (⟨rfl, (show 0 ≤ (3 : Int) ∧ (3 : Int) < 4 from by decide)⟩), ((hS.bk 1 rfl).at1 rfl), trivial⟩ fun _ wd9n H10n hb => ?_
 clear H8n
 replace hS := hS.below hb
 clear hb
 refine w_if H10n rfl (fun _ => ?_) (fun hc => by cases hc)
 refine wl_start ?_
 refine wl_batch 0 5 [(.slice (some ⟨b146m, 0, none⟩) 4 4)] [0, 1, 2, 3, 4, 14, 208, 209] [(0, [], .pointer (some ⟨b3m, 0, none⟩)), (1, [], .string ⟨⟨[13, 10]⟩⟩), (2, [], .string ⟨⟨[10]⟩⟩), (3, [], .int .i64 8), (4, [], .pointer (some ⟨b3m, 0, none⟩)), (14, [], .int .u8 3), (208, [], .slice (some ⟨b146m, 0, none⟩) 4 4), (209, [], .int .u8 3)] [fun wz => V.at1 ⟨b3m, 4, none⟩ (.slice (some ⟨b146m, 0, none⟩) 4 4) wz] H10n (by decide) (by kernel_rfl) ⟨((hS.mix 0 rfl).1.at1 rfl), trivial⟩ fun _ wd11n H12n hb => ?_
 clear H10n
 replace hS := hS.below hb
 clear hb
 have hd := hS.hand [] [0, 1] rfl rfl
 refine m_stp [210, 0, 1, 2, 3, 4, 14, 208, 209] [(0, [], .pointer (some ⟨b3m, 0, none⟩)), (1, [], .string ⟨⟨[13, 10]⟩⟩), (2, [], .string ⟨⟨[10]⟩⟩), (3, [], .int .i64 8), (4, [], .pointer (some ⟨b3m, 0, none⟩)), (14, [], .int .u8 3), (208, [], .slice (some ⟨b146m, 0, none⟩) 4 4), (209, [], .int .u8 3)] H12n rfl rfl rfl rfl (o_alloc [.string ⟨⟨[]⟩⟩, .int .i64 0, .string ⟨⟨[]⟩⟩, .pointer none, .slice none 0 0] (z := .agg ⟨[.string ⟨⟨[]⟩⟩, .int .i64 0, .string ⟨⟨[]⟩⟩, .pointer none, .slice none 0 0]⟩) hd (by kernel_rfl) rfl) (fun _ => rfl) fun _ wd14n v H15n hq => ?_
 clear H12n hd
 obtain ⟨b13n, rfl, hq⟩ := hq
 replace hS : SH M X w [Ent.blk b13n [.string ⟨⟨[]⟩⟩, .int .i64 0, .string ⟨⟨[]⟩⟩, .pointer none, .slice none 0 0], Ent.mix .u8 b3m [.string ⟨⟨[]⟩⟩, .int .i64 0, .string ⟨⟨[]⟩⟩, .pointer none, .slice (some ⟨b146m, 0, none⟩) 4 4, .int .i64 4] gmap (256 : Int), Ent.blk b146m [.pointer none, .pointer none, .pointer none, .pointer none]] _ := hS.join [] [0, 1] rfl rfl hq
 clear hq
 refine wl_batch 6 7 [] [0, 1, 2, 3, 4, 14, 210, 211] [(0, [], .pointer (some ⟨b3m, 0, none⟩)), (1, [], .string ⟨⟨[13, 10]⟩⟩), (2, [], .string ⟨⟨[10]⟩⟩), (3, [], .int .i64 8), (4, [], .pointer (some ⟨b3m, 0, none⟩)), (14, [], .int .u8 3), (210, [], .pointer (some ⟨b13n, 0, none⟩)), (211, [], .pointer (some ⟨b146m, 3, none⟩))] [fun _ => oka (some ⟨b146m, 0, none⟩) ∧ 0 ≤ (3 : Int) ∧ (3 : Int) < 4] H15n (by decide) (by kernel_rfl) ⟨(⟨rfl, (show 0 ≤ (3 : Int) ∧ (3 : Int) < 4 from by decide)⟩), trivial⟩ fun _ wd16n H17n hb => ?_
 clear H15n
 replace hS := hS.below hb
 clear hb
 have hd := hS.hand [2] [0, 1] rfl rfl
 refine m_stp0 [0, 1, 2, 3, 4, 14] [(0, [], .pointer (some ⟨b3m, 0, none⟩)), (1, [], .string ⟨⟨[13, 10]⟩⟩), (2, [], .string ⟨⟨[10]⟩⟩), (3, [], .int .i64 8), (4, [], .pointer (some ⟨b3m, 0, none⟩)), (14, [], .int .u8 3)] H17n rfl rfl rfl (o_store [.pointer none, .pointer none, .pointer none, .pointer (some ⟨b13n, 0, none⟩)] H17n hd rfl rfl (by kernel_rfl) rfl rfl rfl) rfl fun _ wd18n H19n hq => ?_
 clear H17n hd
 obtain ⟨_, hq⟩ := hq
 replace hS : SH M X w [Ent.blk b146m [.pointer none, .pointer none, .pointer none, .pointer (some ⟨b13n, 0, none⟩)], Ent.blk b13n [.string ⟨⟨[]⟩⟩, .int .i64 0, .string ⟨⟨[]⟩⟩, .pointer none, .slice none 0 0], Ent.mix .u8 b3m [.string ⟨⟨[]⟩⟩, .int .i64 0, .string ⟨⟨[]⟩⟩, .pointer none, .slice (some ⟨b146m, 0, none⟩) 4 4, .int .i64 4] gmap (256 : Int)] _ := hS.join [2] [0, 1] rfl rfl hq
 clear hq
 refine wl_end rfl ?_
 refine w_drawS (base := [(0, [], .pointer (some ⟨b3m, 0, none⟩)), (1, [], .string ⟨⟨[13, 10]⟩⟩), (2, [], .string ⟨⟨[10]⟩⟩), (3, [], .int .i64 8), (4, [], .pointer (some ⟨b3m, 0, none⟩)), (14, [], .int .u8 3)]) (L := [Ent.blk b146m [.pointer none, .pointer none, .pointer none, .pointer (some ⟨b13n, 0, none⟩)], Ent.blk b13n [.string ⟨⟨[]⟩⟩, .int .i64 0, .string ⟨⟨[]⟩⟩, .pointer none, .slice none 0 0], Ent.mix .u8 b3m [.string ⟨⟨[]⟩⟩, .int .i64 0, .string ⟨⟨[]⟩⟩, .pointer none, .slice (some ⟨b146m, 0, none⟩) 4 4, .int .i64 4] gmap (256 : Int)]) 13 3 (fun yg20n => [.pointer (some ⟨b3m, 0, none⟩), .pointer (some ⟨b3m, 0, none⟩), .pointer (some ⟨b3m, 4, none⟩), .slice (some ⟨b146m, 0, none⟩) 4 4, .int .u8 3, .pointer (some ⟨b146m, 3, none⟩), .pointer (some ⟨b13n, 0, none⟩), .string ⟨⟨[13, 10]⟩⟩, .string ⟨⟨[10]⟩⟩, .string ⟨⟨[10]⟩⟩, .int .i64 8, .pointer (some ⟨b3m, 0, none⟩), .tuple ⟨[]⟩]) (fun yg20n => [[], [], [], [], [], [], [], [], [], [], [], [], [Ent.blk (ab (yg20n 12 0).a) [.string ⟨⟨[10]⟩⟩, .int .i64 8, .string ⟨⟨[]⟩⟩, .pointer none, .slice none 0 0], Ent.blk b13n [.string ⟨⟨[]⟩⟩, .int .i64 0, .string ⟨⟨[10]⟩⟩, .pointer (some ⟨(ab (yg20n 12 0).a), 0, none⟩), .slice none 0 0]]]) [[13, 14, 15], [13, 14, 15], [13, 14, 15], [13, 14, 15], [], [13, 14], [13, 14], [], [], [], [], [13, 14, 15], [13, 14, 15]] [[], [], [], [], [], [], [], [], [], [], [], [], [14]] [[0], [0, 1], [0, 1, 2], [0, 1, 2, 3], [4], [0, 1, 2, 3, 4, 5], [0, 1, 2, 3, 4, 5, 6], [7], [7, 8], [9], [10], [11], [0, 1, 2, 3, 4, 5, 6, 7, 8, 9, 10, 11, 12]] [] (FrG.keep (ks := [0, 1, 2, 3, 4, 14]) H19n (by kernel_rfl)) (fun _ _ h => by cases h) (by kernel_rfl) hS (by kernel_rfl) rfl rfl (by kernel_rfl) (by kernel_rfl) (by kernel_rfl) (gd_none (by kernel_rfl) _ _) ?hloc_yg20n ?hstep_yg20n fun _ wd22n yg20n H23n hv hS => ?hK_yg20n
 case hloc_yg20n => exact ⟨(fun _ _ _ _ => ⟨rfl, rfl⟩), (fun _ _ _ _ => ⟨rfl, rfl⟩), (fun _ _ _ _ => ⟨rfl, rfl⟩), (fun _ _ _ _ => ⟨rfl, rfl⟩), (fun _ _ _ _ => ⟨rfl, rfl⟩), (fun _ _ _ _ => ⟨rfl, rfl⟩), (fun _ _ _ _ => ⟨rfl, rfl⟩), (fun _ _ _ _ => ⟨rfl, rfl⟩), (fun _ _ _ _ => ⟨rfl, rfl⟩), (fun _ _ _ _ => ⟨rfl, rfl⟩), (fun _ _ _ _ => ⟨rfl, rfl⟩), (fun _ _ _ _ => ⟨rfl, rfl⟩), (fun yg20n i g hi => by have h12 : updC yg20n i g 12 = yg20n 12 := updC_out hi rfl; exact ⟨(show (.tuple ⟨[]⟩ : Value) = .tuple ⟨[]⟩ by simp only []), (show ([Ent.blk (ab ((updC yg20n i g) 12 0).a) [.string ⟨⟨[10]⟩⟩, .int .i64 8, .string ⟨⟨[]⟩⟩, .pointer none, .slice none 0 0], Ent.blk b13n [.string ⟨⟨[]⟩⟩, .int .i64 0, .string ⟨⟨[10]⟩⟩, .pointer (some ⟨(ab ((updC yg20n i g) 12 0).a), 0, none⟩), .slice none 0 0]] : List Ent) = [Ent.blk (ab (yg20n 12 0).a) [.string ⟨⟨[10]⟩⟩, .int .i64 8, .string ⟨⟨[]⟩⟩, .pointer none, .slice none 0 0], Ent.blk b13n [.string ⟨⟨[]⟩⟩, .int .i64 0, .string ⟨⟨[10]⟩⟩, .pointer (some ⟨(ab (yg20n 12 0).a), 0, none⟩), .slice none 0 0]] by simp only [h12])⟩), trivial⟩
 case hstep_yg20n =>
  refine ⟨?_, ?_, ?_, ?_, ?_, ?_, ?_, ?_, ?_, ?_, ?_, ?_, ?_, trivial⟩
  ·intro o ho a w yg20n M Hb hv hO hS0
   obtain rfl := Option.some.inj ho
   have H : Fr 241 ([] ++ [(0, [], .pointer (some ⟨b3m, 0, none⟩)), (1, [], .string ⟨⟨[13, 10]⟩⟩), (2, [], .string ⟨⟨[10]⟩⟩), (3, [], .int .i64 8), (4, [], .pointer (some ⟨b3m, 0, none⟩)), (14, [], .int .u8 3)]) _ := Hb
   obtain ⟨X, hX⟩ : ∃ X, X = fpl [Ent.blk b146m [.pointer none, .pointer none, .pointer none, .pointer (some ⟨b13n, 0, none⟩)], Ent.blk b13n [.string ⟨⟨[]⟩⟩, .int .i64 0, .string ⟨⟨[]⟩⟩, .pointer none, .slice none 0 0], Ent.mix .u8 b3m [.string ⟨⟨[]⟩⟩, .int .i64 0, .string ⟨⟨[]⟩⟩, .pointer none, .slice (some ⟨b146m, 0, none⟩) 4 4, .int .i64 4] gmap (256 : Int)] := ⟨_, rfl⟩
   have hS : SH M X w [Ent.blk b146m [.pointer none, .pointer none, .pointer none, .pointer (some ⟨b13n, 0, none⟩)], Ent.blk b13n [.string ⟨⟨[]⟩⟩, .int .i64 0, .string ⟨⟨[]⟩⟩, .pointer none, .slice none 0 0], Ent.mix .u8 b3m [.string ⟨⟨[]⟩⟩, .int .i64 0, .string ⟨⟨[]⟩⟩, .pointer none, .slice (some ⟨b146m, 0, none⟩) 4 4, .int .i64 4] gmap (256 : Int)] w := by rw [hX]; exact hS0
   refine Stp.mono (o_evs [] (.pointer (some ⟨b3m, 0, none⟩)) none [] H rfl (by kernel_rfl) (fun q e => by cases e)) ?_
   rintro v w2 ⟨rfl, hq⟩
   replace hS : SH M X w [Ent.blk b146m [.pointer none, .pointer none, .pointer none, .pointer (some ⟨b13n, 0, none⟩)], Ent.blk b13n [.string ⟨⟨[]⟩⟩, .int .i64 0, .string ⟨⟨[]⟩⟩, .pointer none, .slice none 0 0], Ent.mix .u8 b3m [.string ⟨⟨[]⟩⟩, .int .i64 0, .string ⟨⟨[]⟩⟩, .pointer none, .slice (some ⟨b146m, 0, none⟩) 4 4, .int .i64 4] gmap (256 : Int)] _ := hS.below hq.below
   rw [hX] at hS
   exact ⟨gL [], fun _ _ => rfl, hS.sel [0, 1, 2] rfl⟩
  ·intro o ho a w yg20n M Hb hv hO hS0
   obtain rfl := Option.some.inj ho
   have H : Fr 241 ([(212, [], .pointer (some ⟨b3m, 0, none⟩))] ++ [(0, [], .pointer (some ⟨b3m, 0, none⟩)), (1, [], .string ⟨⟨[13, 10]⟩⟩), (2, [], .string ⟨⟨[10]⟩⟩), (3, [], .int .i64 8), (4, [], .pointer (some ⟨b3m, 0, none⟩)), (14, [], .int .u8 3)]) _ := (Hb).add (hv 0 (by decide) (by decide) 212 rfl)
   obtain ⟨X, hX⟩ : ∃ X, X = fpl [Ent.blk b146m [.pointer none, .pointer none, .pointer none, .pointer (some ⟨b13n, 0, none⟩)], Ent.blk b13n [.string ⟨⟨[]⟩⟩, .int .i64 0, .string ⟨⟨[]⟩⟩, .pointer none, .slice none 0 0], Ent.mix .u8 b3m [.string ⟨⟨[]⟩⟩, .int .i64 0, .string ⟨⟨[]⟩⟩, .pointer none, .slice (some ⟨b146m, 0, none⟩) 4 4, .int .i64 4] gmap (256 : Int)] := ⟨_, rfl⟩
   have hS : SH M X w [Ent.blk b146m [.pointer none, .pointer none, .pointer none, .pointer (some ⟨b13n, 0, none⟩)], Ent.blk b13n [.string ⟨⟨[]⟩⟩, .int .i64 0, .string ⟨⟨[]⟩⟩, .pointer none, .slice none 0 0], Ent.mix .u8 b3m [.string ⟨⟨[]⟩⟩, .int .i64 0, .string ⟨⟨[]⟩⟩, .pointer none, .slice (some ⟨b146m, 0, none⟩) 4 4, .int .i64 4] gmap (256 : Int)] w := by rw [hX]; exact hS0
   refine Stp.mono (o_evs [] (.pointer (some ⟨b3m, 0, none⟩)) none [] H rfl (by kernel_rfl) (fun q e => by cases e)) ?_
   rintro v w2 ⟨rfl, hq⟩
   replace hS : SH M X w [Ent.blk b146m [.pointer none, .pointer none, .pointer none, .pointer (some ⟨b13n, 0, none⟩)], Ent.blk b13n [.string ⟨⟨[]⟩⟩, .int .i64 0, .string ⟨⟨[]⟩⟩, .pointer none, .slice none 0 0], Ent.mix .u8 b3m [.string ⟨⟨[]⟩⟩, .int .i64 0, .string ⟨⟨[]⟩⟩, .pointer none, .slice (some ⟨b146m, 0, none⟩) 4 4, .int .i64 4] gmap (256 : Int)] _ := hS.below hq.below
   rw [hX] at hS
   exact ⟨gL [], fun _ _ => rfl, hS.sel [0, 1, 2] rfl⟩
  ·intro o ho a w yg20n M Hb hv hO hS0
   obtain rfl := Option.some.inj ho
   have H : Fr 241 ([(213, [], .pointer (some ⟨b3m, 0, none⟩))] ++ [(0, [], .pointer (some ⟨b3m, 0, none⟩)), (1, [], .string ⟨⟨[13, 10]⟩⟩), (2, [], .string ⟨⟨[10]⟩⟩), (3, [], .int .i64 8), (4, [], .pointer (some ⟨b3m, 0, none⟩)), (14, [], .int .u8 3)]) _ := (Hb).add (hv 1 (by decide) (by decide) 213 rfl)
   obtain ⟨X, hX⟩ : ∃ X, X = fpl [Ent.blk b146m [.pointer none, .pointer none, .pointer none, .pointer (some ⟨b13n, 0, none⟩)], Ent.blk b13n [.string ⟨⟨[]⟩⟩, .int .i64 0, .string ⟨⟨[]⟩⟩, .pointer none, .slice none 0 0], Ent.mix .u8 b3m [.string ⟨⟨[]⟩⟩, .int .i64 0, .string ⟨⟨[]⟩⟩, .pointer none, .slice (some ⟨b146m, 0, none⟩) 4 4, .int .i64 4] gmap (256 : Int)] := ⟨_, rfl⟩
   have hS : SH M X w [Ent.blk b146m [.pointer none, .pointer none, .pointer none, .pointer (some ⟨b13n, 0, none⟩)], Ent.blk b13n [.string ⟨⟨[]⟩⟩, .int .i64 0, .string ⟨⟨[]⟩⟩, .pointer none, .slice none 0 0], Ent.mix .u8 b3m [.string ⟨⟨[]⟩⟩, .int .i64 0, .string ⟨⟨[]⟩⟩, .pointer none, .slice (some ⟨b146m, 0, none⟩) 4 4, .int .i64 4] gmap (256 : Int)] w := by rw [hX]; exact hS0
   refine Stp.mono (o_evs [] (.pointer (some ⟨b3m, 4, none⟩)) none [] H rfl (by kernel_rfl) (fun q e => by cases e)) ?_
   rintro v w2 ⟨rfl, hq⟩
   replace hS : SH M X w [Ent.blk b146m [.pointer none, .pointer none, .pointer none, .pointer (some ⟨b13n, 0, none⟩)], Ent.blk b13n [.string ⟨⟨[]⟩⟩, .int .i64 0, .string ⟨⟨[]⟩⟩, .pointer none, .slice none 0 0], Ent.mix .u8 b3m [.string ⟨⟨[]⟩⟩, .int .i64 0, .string ⟨⟨[]⟩⟩, .pointer none, .slice (some ⟨b146m, 0, none⟩) 4 4, .int .i64 4] gmap (256 : Int)] _ := hS.below hq.below
   rw [hX] at hS
   exact ⟨gL [], fun _ _ => rfl, hS.sel [0, 1, 2] rfl⟩
  ·intro o ho a w yg20n M Hb hv hO hS0
   obtain rfl := Option.some.inj ho
   have H : Fr 241 ([(214, [], .pointer (some ⟨b3m, 4, none⟩))] ++ [(0, [], .pointer (some ⟨b3m, 0, none⟩)), (1, [], .string ⟨⟨[13, 10]⟩⟩), (2, [], .string ⟨⟨[10]⟩⟩), (3, [], .int .i64 8), (4, [], .pointer (some ⟨b3m, 0, none⟩)), (14, [], .int .u8 3)]) _ := (Hb).add (hv 2 (by decide) (by decide) 214 rfl)
   obtain ⟨X, hX⟩ : ∃ X, X = fpl [Ent.blk b146m [.pointer none, .pointer none, .pointer none, .pointer (some ⟨b13n, 0, none⟩)], Ent.blk b13n [.string ⟨⟨[]⟩⟩, .int .i64 0, .string ⟨⟨[]⟩⟩, .pointer none, .slice none 0 0], Ent.mix .u8 b3m [.string ⟨⟨[]⟩⟩, .int .i64 0, .string ⟨⟨[]⟩⟩, .pointer none, .slice (some ⟨b146m, 0, none⟩) 4 4, .int .i64 4] gmap (256 : Int)] := ⟨_, rfl⟩
   have hS : SH M X w [Ent.blk b146m [.pointer none, .pointer none, .pointer none, .pointer (some ⟨b13n, 0, none⟩)], Ent.blk b13n [.string ⟨⟨[]⟩⟩, .int .i64 0, .string ⟨⟨[]⟩⟩, .pointer none, .slice none 0 0], Ent.mix .u8 b3m [.string ⟨⟨[]⟩⟩, .int .i64 0, .string ⟨⟨[]⟩⟩, .pointer none, .slice (some ⟨b146m, 0, none⟩) 4 4, .int .i64 4] gmap (256 : Int)] w := by rw [hX]; exact hS0
   refine Stp.mono (o_evs [(.slice (some ⟨b146m, 0, none⟩) 4 4)] (.slice (some ⟨b146m, 0, none⟩) 4 4) (some (fun wz => V.at1 ⟨b3m, 4, none⟩ (.slice (some ⟨b146m, 0, none⟩) 4 4) wz)) [] H rfl (by kernel_rfl) (fun q e => by cases e; exact ((hS.mix 2 rfl).1.at1 rfl))) ?_
   rintro v w2 ⟨rfl, hq⟩
   replace hS : SH M X w [Ent.blk b146m [.pointer none, .pointer none, .pointer none, .pointer (some ⟨b13n, 0, none⟩)], Ent.blk b13n [.string ⟨⟨[]⟩⟩, .int .i64 0, .string ⟨⟨[]⟩⟩, .pointer none, .slice none 0 0], Ent.mix .u8 b3m [.string ⟨⟨[]⟩⟩, .int .i64 0, .string ⟨⟨[]⟩⟩, .pointer none, .slice (some ⟨b146m, 0, none⟩) 4 4, .int .i64 4] gmap (256 : Int)] _ := hS.below hq.below
   rw [hX] at hS
   exact ⟨gL [], fun _ _ => rfl, hS.sel [0, 1, 2] rfl⟩
  ·intro o ho a w yg20n M Hb hv hO hS0
   obtain rfl := Option.some.inj ho
   have H : Fr 241 ([] ++ [(0, [], .pointer (some ⟨b3m, 0, none⟩)), (1, [], .string ⟨⟨[13, 10]⟩⟩), (2, [], .string ⟨⟨[10]⟩⟩), (3, [], .int .i64 8), (4, [], .pointer (some ⟨b3m, 0, none⟩)), (14, [], .int .u8 3)]) _ := Hb
   obtain ⟨X, hX⟩ : ∃ X, X = fpl [] := ⟨_, rfl⟩
   have hS : SH M X w [] w := by rw [hX]; exact hS0
   refine Stp.mono (o_evs [] (.int .u8 3) none [] H rfl (by kernel_rfl) (fun q e => by cases e)) ?_
   rintro v w2 ⟨rfl, hq⟩
   replace hS : SH M X w [] _ := hS.below hq.below
   rw [hX] at hS
   exact ⟨gL [], fun _ _ => rfl, hS.sel [] rfl⟩
  ·intro o ho a w yg20n M Hb hv hO hS0
   obtain rfl := Option.some.inj ho
   have H : Fr 241 ([(216, [], .int .u8 3), (215, [], .slice (some ⟨b146m, 0, none⟩) 4 4)] ++ [(0, [], .pointer (some ⟨b3m, 0, none⟩)), (1, [], .string ⟨⟨[13, 10]⟩⟩), (2, [], .string ⟨⟨[10]⟩⟩), (3, [], .int .i64 8), (4, [], .pointer (some ⟨b3m, 0, none⟩)), (14, [], .int .u8 3)]) _ := ((Hb).add (hv 3 (by decide) (by decide) 215 rfl)).add (hv 4 (by decide) (by decide) 216 rfl)
   obtain ⟨X, hX⟩ : ∃ X, X = fpl [Ent.blk b146m [.pointer none, .pointer none, .pointer none, .pointer (some ⟨b13n, 0, none⟩)], Ent.blk b13n [.string ⟨⟨[]⟩⟩, .int .i64 0, .string ⟨⟨[]⟩⟩, .pointer none, .slice none 0 0]] := ⟨_, rfl⟩
   have hS : SH M X w [Ent.blk b146m [.pointer none, .pointer none, .pointer none, .pointer (some ⟨b13n, 0, none⟩)], Ent.blk b13n [.string ⟨⟨[]⟩⟩, .int .i64 0, .string ⟨⟨[]⟩⟩, .pointer none, .slice none 0 0]] w := by rw [hX]; exact hS0
   refine Stp.mono (o_evs [] (.pointer (some ⟨b146m, 3, none⟩)) (some (fun _ => oka (some ⟨b146m, 0, none⟩) ∧ 0 ≤ (3 : Int) ∧ (3 : Int) < 4)) [] H rfl (by kernel_rfl) (fun q e => by cases e; exact (⟨rfl, (show 0 ≤ (3 : Int) ∧ (3 : Int) < 4 from by decide)⟩))) ?_
   rintro v w2 ⟨rfl, hq⟩
   replace hS : SH M X w [Ent.blk b146m [.pointer none, .pointer none, .pointer none, .pointer (some ⟨b13n, 0, none⟩)], Ent.blk b13n [.string ⟨⟨[]⟩⟩, .int .i64 0, .string ⟨⟨[]⟩⟩, .pointer none, .slice none 0 0]] _ := hS.below hq.below
   rw [hX] at hS
   exact ⟨gL [], fun _ _ => rfl, hS.sel [0, 1] rfl⟩
  ·intro o ho a w yg20n M Hb hv hO hS0
   obtain rfl := Option.some.inj ho
   have H : Fr 241 ([(217, [], .pointer (some ⟨b146m, 3, none⟩))] ++ [(0, [], .pointer (some ⟨b3m, 0, none⟩)), (1, [], .string ⟨⟨[13, 10]⟩⟩), (2, [], .string ⟨⟨[10]⟩⟩), (3, [], .int .i64 8), (4, [], .pointer (some ⟨b3m, 0, none⟩)), (14, [], .int .u8 3)]) _ := (Hb).add (hv 5 (by decide) (by decide) 217 rfl)
   obtain ⟨X, hX⟩ : ∃ X, X = fpl [Ent.blk b146m [.pointer none, .pointer none, .pointer none, .pointer (some ⟨b13n, 0, none⟩)], Ent.blk b13n [.string ⟨⟨[]⟩⟩, .int .i64 0, .string ⟨⟨[]⟩⟩, .pointer none, .slice none 0 0]] := ⟨_, rfl⟩
   have hS : SH M X w [Ent.blk b146m [.pointer none, .pointer none, .pointer none, .pointer (some ⟨b13n, 0, none⟩)], Ent.blk b13n [.string ⟨⟨[]⟩⟩, .int .i64 0, .string ⟨⟨[]⟩⟩, .pointer none, .slice none 0 0]] w := by rw [hX]; exact hS0
   refine Stp.mono (o_evs [(.pointer (some ⟨b13n, 0, none⟩))] (.pointer (some ⟨b13n, 0, none⟩)) (some (fun wz => V.at1 ⟨b146m, 3, none⟩ (.pointer (some ⟨b13n, 0, none⟩)) wz)) [] H rfl (by kernel_rfl) (fun q e => by cases e; exact ((hS.bk 0 rfl).at1 rfl))) ?_
   rintro v w2 ⟨rfl, hq⟩
   replace hS : SH M X w [Ent.blk b146m [.pointer none, .pointer none, .pointer none, .pointer (some ⟨b13n, 0, none⟩)], Ent.blk b13n [.string ⟨⟨[]⟩⟩, .int .i64 0, .string ⟨⟨[]⟩⟩, .pointer none, .slice none 0 0]] _ := hS.below hq.below
   rw [hX] at hS
   exact ⟨gL [], fun _ _ => rfl, hS.sel [0, 1] rfl⟩
  ·intro o ho a w yg20n M Hb hv hO hS0
   obtain rfl := Option.some.inj ho
   have H : Fr 241 ([] ++ [(0, [], .pointer (some ⟨b3m, 0, none⟩)), (1, [], .string ⟨⟨[13, 10]⟩⟩), (2, [], .string ⟨⟨[10]⟩⟩), (3, [], .int .i64 8), (4, [], .pointer (some ⟨b3m, 0, none⟩)), (14, [], .int .u8 3)]) _ := Hb
   obtain ⟨X, hX⟩ : ∃ X, X = fpl [] := ⟨_, rfl⟩
   have hS : SH M X w [] w := by rw [hX]; exact hS0
   refine Stp.mono (o_evs [] (.string ⟨⟨[13, 10]⟩⟩) none [] H rfl (by kernel_rfl) (fun q e => by cases e)) ?_
   rintro v w2 ⟨rfl, hq⟩
   replace hS : SH M X w [] _ := hS.below hq.below
   rw [hX] at hS
   exact ⟨gL [], fun _ _ => rfl, hS.sel [] rfl⟩
  ·intro o ho a w yg20n M Hb hv hO hS0
   obtain rfl := Option.some.inj ho
   have H : Fr 241 ([(219, [], .string ⟨⟨[13, 10]⟩⟩)] ++ [(0, [], .pointer (some ⟨b3m, 0, none⟩)), (1, [], .string ⟨⟨[13, 10]⟩⟩), (2, [], .string ⟨⟨[10]⟩⟩), (3, [], .int .i64 8), (4, [], .pointer (some ⟨b3m, 0, none⟩)), (14, [], .int .u8 3)]) _ := (Hb).add (hv 7 (by decide) (by decide) 219 rfl)
   obtain ⟨X, hX⟩ : ∃ X, X = fpl [] := ⟨_, rfl⟩
   have hS : SH M X w [] w := by rw [hX]; exact hS0
   refine Stp.mono (o_evs [] (.string ⟨⟨[10]⟩⟩) (some (fun _ => 0 ≤ (1 : Int) ∧ (1 : Int) ≤ ln ([13, 10] : Str))) [] H rfl (by kernel_rfl) (fun q e => by cases e; exact (show 0 ≤ (1 : Int) ∧ (1 : Int) ≤ ln ([13, 10] : Str) from by decide))) ?_
   rintro v w2 ⟨rfl, hq⟩
   replace hS : SH M X w [] _ := hS.below hq.below
   rw [hX] at hS
   exact ⟨gL [], fun _ _ => rfl, hS.sel [] rfl⟩
  ·intro o ho a w yg20n M Hb hv hO hS0
   obtain rfl := Option.some.inj ho
   have H : Fr 241 ([] ++ [(0, [], .pointer (some ⟨b3m, 0, none⟩)), (1, [], .string ⟨⟨[13, 10]⟩⟩), (2, [], .string ⟨⟨[10]⟩⟩), (3, [], .int .i64 8), (4, [], .pointer (some ⟨b3m, 0, none⟩)), (14, [], .int .u8 3)]) _ := Hb
   obtain ⟨X, hX⟩ : ∃ X, X = fpl [] := ⟨_, rfl⟩
   have hS : SH M X w [] w := by rw [hX]; exact hS0
   refine Stp.mono (o_evs [] (.string ⟨⟨[10]⟩⟩) none [] H rfl (by kernel_rfl) (fun q e => by cases e)) ?_
   rintro v w2 ⟨rfl, hq⟩
   replace hS : SH M X w [] _ := hS.below hq.below
   rw [hX] at hS
   exact ⟨gL [], fun _ _ => rfl, hS.sel [] rfl⟩
  ·intro o ho a w yg20n M Hb hv hO hS0
   obtain rfl := Option.some.inj ho
   have H : Fr 241 ([] ++ [(0, [], .pointer (some ⟨b3m, 0, none⟩)), (1, [], .string ⟨⟨[13, 10]⟩⟩), (2, [], .string ⟨⟨[10]⟩⟩), (3, [], .int .i64 8), (4, [], .pointer (some ⟨b3m, 0, none⟩)), (14, [], .int .u8 3)]) _ := Hb
   obtain ⟨X, hX⟩ : ∃ X, X = fpl [] := ⟨_, rfl⟩
   have hS : SH M X w [] w := by rw [hX]; exact hS0
   refine Stp.mono (o_evs [] (.int .i64 8) none [] H rfl (by kernel_rfl) (fun q e => by cases e)) ?_
   rintro v w2 ⟨rfl, hq⟩
   replace hS : SH M X w [] _ := hS.below hq.below
   rw [hX] at hS
   exact ⟨gL [], fun _ _ => rfl, hS.sel [] rfl⟩
  ·intro o ho a w yg20n M Hb hv hO hS0
   obtain rfl := Option.some.inj ho
   have H : Fr 241 ([] ++ [(0, [], .pointer (some ⟨b3m, 0, none⟩)), (1, [], .string ⟨⟨[13, 10]⟩⟩), (2, [], .string ⟨⟨[10]⟩⟩), (3, [], .int .i64 8), (4, [], .pointer (some ⟨b3m, 0, none⟩)), (14, [], .int .u8 3)]) _ := Hb
   obtain ⟨X, hX⟩ : ∃ X, X = fpl [Ent.blk b146m [.pointer none, .pointer none, .pointer none, .pointer (some ⟨b13n, 0, none⟩)], Ent.blk b13n [.string ⟨⟨[]⟩⟩, .int .i64 0, .string ⟨⟨[]⟩⟩, .pointer none, .slice none 0 0], Ent.mix .u8 b3m [.string ⟨⟨[]⟩⟩, .int .i64 0, .string ⟨⟨[]⟩⟩, .pointer none, .slice (some ⟨b146m, 0, none⟩) 4 4, .int .i64 4] gmap (256 : Int)] := ⟨_, rfl⟩
   have hS : SH M X w [Ent.blk b146m [.pointer none, .pointer none, .pointer none, .pointer (some ⟨b13n, 0, none⟩)], Ent.blk b13n [.string ⟨⟨[]⟩⟩, .int .i64 0, .string ⟨⟨[]⟩⟩, .pointer none, .slice none 0 0], Ent.mix .u8 b3m [.string ⟨⟨[]⟩⟩, .int .i64 0, .string ⟨⟨[]⟩⟩, .pointer none, .slice (some ⟨b146m, 0, none⟩) 4 4, .int .i64 4] gmap (256 : Int)] w := by rw [hX]; exact hS0
   refine Stp.mono (o_evs [] (.pointer (some ⟨b3m, 0, none⟩)) none [] H rfl (by kernel_rfl) (fun q e => by cases e)) ?_
   rintro v w2 ⟨rfl, hq⟩
   replace hS : SH M X w [Ent.blk b146m [.pointer none, .pointer none, .pointer none, .pointer (some ⟨b13n, 0, none⟩)], Ent.blk b13n [.string ⟨⟨[]⟩⟩, .int .i64 0, .string ⟨⟨[]⟩⟩, .pointer none, .slice none 0 0], Ent.mix .u8 b3m [.string ⟨⟨[]⟩⟩, .int .i64 0, .string ⟨⟨[]⟩⟩, .pointer none, .slice (some ⟨b146m, 0, none⟩) 4 4, .int .i64 4] gmap (256 : Int)] _ := hS.below hq.below
   rw [hX] at hS
   exact ⟨gL [], fun _ _ => rfl, hS.sel [0, 1, 2] rfl⟩
  ·intro o ho a w yg20n M Hb hv hO hS0
   obtain rfl := Option.some.inj ho
   have H : Fr 241 ([(223, [], .pointer (some ⟨b3m, 0, none⟩)), (222, [], .int .i64 8), (221, [], .string ⟨⟨[10]⟩⟩), (220, [], .string ⟨⟨[10]⟩⟩), (218, [], .pointer (some ⟨b13n, 0, none⟩))] ++ [(0, [], .pointer (some ⟨b3m, 0, none⟩)), (1, [], .string ⟨⟨[13, 10]⟩⟩), (2, [], .string ⟨⟨[10]⟩⟩), (3, [], .int .i64 8), (4, [], .pointer (some ⟨b3m, 0, none⟩)), (14, [], .int .u8 3)]) _ := (((((Hb).add (hv 6 (by decide) (by decide) 218 rfl)).add (hv 8 (by decide) (by decide) 220 rfl)).add (hv 9 (by decide) (by decide) 221 rfl)).add (hv 10 (by decide) (by decide) 222 rfl)).add (hv 11 (by decide) (by decide) 223 rfl)
   obtain ⟨X, hX⟩ : ∃ X, X = fpl [Ent.blk b146m [.pointer none, .pointer none, .pointer none, .pointer (some ⟨b13n, 0, none⟩)], Ent.blk b13n [.string ⟨⟨[]⟩⟩, .int .i64 0, .string ⟨⟨[]⟩⟩, .pointer none, .slice none 0 0], Ent.mix .u8 b3m [.string ⟨⟨[]⟩⟩, .int .i64 0, .string ⟨⟨[]⟩⟩, .pointer none, .slice (some ⟨b146m, 0, none⟩) 4 4, .int .i64 4] gmap (256 : Int)] := ⟨_, rfl⟩
   have hS : SH M X w [Ent.blk b146m [.pointer none, .pointer none, .pointer none, .pointer (some ⟨b13n, 0, none⟩)], Ent.blk b13n [.string ⟨⟨[]⟩⟩, .int .i64 0, .string ⟨⟨[]⟩⟩, .pointer none, .slice none 0 0], Ent.mix .u8 b3m [.string ⟨⟨[]⟩⟩, .int .i64 0, .string ⟨⟨[]⟩⟩, .pointer none, .slice (some ⟨b146m, 0, none⟩) 4 4, .int .i64 4] gmap (256 : Int)] w := by rw [hX]; exact hS0
   have hd := hS.hand [0, 1, 2] [] rfl rfl
   refine Stp.mono (o_callx H rfl rfl (strings_trieNode_add_cs2 _ _ hd)) ?_
   rintro v w2 hq
   obtain ⟨b21n, rfl, hq⟩ := hq
   replace hS : SH M X w [Ent.blk b21n [.string ⟨⟨[10]⟩⟩, .int .i64 8, .string ⟨⟨[]⟩⟩, .pointer none, .slice none 0 0], Ent.blk b13n [.string ⟨⟨[]⟩⟩, .int .i64 0, .string ⟨⟨[10]⟩⟩, .pointer (some ⟨b21n, 0, none⟩), .slice none 0 0], Ent.blk b146m [.pointer none, .pointer none, .pointer none, .pointer (some ⟨b13n, 0, none⟩)], Ent.mix .u8 b3m [.string ⟨⟨[]⟩⟩, .int .i64 0, .string ⟨⟨[]⟩⟩, .pointer none, .slice (some ⟨b146m, 0, none⟩) 4 4, .int .i64 4] gmap (256 : Int)] _ := hS.join [0, 1, 2] [] rfl rfl hq
   clear hq
   rw [hX] at hS
   exact ⟨gL [Gh.mk (some ⟨b21n, 0, none⟩) 0 fun _ _ => .nil], fun _ _ => rfl, hS.sel [0, 1, 2, 3] rfl⟩
 have H24n : Fr 241 [] _ := (FrG.keep (ks := []) H23n (by kernel_rfl))
 replace hS : SH M X w [Ent.blk (ab (yg20n 12 0).a) [.string ⟨⟨[10]⟩⟩, .int .i64 8, .string ⟨⟨[]⟩⟩, .pointer none, .slice none 0 0], Ent.blk b13n [.string ⟨⟨[]⟩⟩, .int .i64 0, .string ⟨⟨[10]⟩⟩, .pointer (some ⟨(ab (yg20n 12 0).a), 0, none⟩), .slice none 0 0], Ent.blk b146m [.pointer none, .pointer none, .pointer none, .pointer (some ⟨b13n, 0, none⟩)], Ent.mix .u8 b3m [.string ⟨⟨[]⟩⟩, .int .i64 0, .string ⟨⟨[]⟩⟩, .pointer none, .slice (some ⟨b146m, 0, none⟩) 4 4, .int .i64 4] gmap (256 : Int)] _ := hS
 clear hv H23n
 generalize ab (yg20n 12 0).a = b25n at H24n hS
 try dsimp only
 exact retR0 H24n rfl ⟨_, rfl, b13n, b25n, rfl, (hS.sel [0, 1, 2, 3] rfl)⟩

theorem strings_trieNode_add_cs5 {b3m : Nat} {b146m : Nat} {b163m : Nat} {b164m : Nat} (M : Av) (w : World) (hS : S0 M [Ent.blk b163m [.string ⟨⟨[10]⟩⟩, .int .i64 8, .string ⟨⟨[]⟩⟩, .pointer none, .slice none 0 0], Ent.blk b164m [.string ⟨⟨[]⟩⟩, .int .i64 0, .string ⟨⟨[10]⟩⟩, .pointer (some ⟨b163m, 0, none⟩), .slice none 0 0], Ent.blk b146m [.pointer none, .pointer none, .pointer none, .pointer (some ⟨b164m, 0, none⟩)], Ent.mix .u8 b3m [.string ⟨⟨[]⟩⟩, .int .i64 0, .string ⟨⟨[]⟩⟩, .pointer none, .slice (some ⟨b146m, 0, none⟩) 4 4, .int .i64 4] gmap (256 : Int)] w) : DoesX Try.prog 67 ⟨[.pointer (some ⟨b164m, 0, none⟩), .string ⟨⟨[]⟩⟩, .string ⟨⟨[10]⟩⟩, .int .i64 6, .pointer (some ⟨b3m, 0, none⟩)]⟩ w (fun v w' => v = .tuple ⟨[]⟩ ∧ SH M (fpl [Ent.blk b163m [.string ⟨⟨[10]⟩⟩, .int .i64 8, .string ⟨⟨[]⟩⟩, .pointer none, .slice none 0 0], Ent.blk b164m [.string ⟨⟨[]⟩⟩, .int .i64 0, .string ⟨⟨[10]⟩⟩, .pointer (some ⟨b163m, 0, none⟩), .slice none 0 0], Ent.blk b146m [.pointer none, .pointer none, .pointer none, .pointer (some ⟨b164m, 0, none⟩)], Ent.mix .u8 b3m [.string ⟨⟨[]⟩⟩, .int .i64 0, .string ⟨⟨[]⟩⟩, .pointer none, .slice (some ⟨b146m, 0, none⟩) 4 4, .int .i64 4] gmap (256 : Int)]) w [Ent.blk b164m [.string ⟨⟨[10]⟩⟩, .int .i64 6, .string ⟨⟨[10]⟩⟩, .pointer (some ⟨b163m, 0, none⟩), .slice none 0 0], Ent.blk b163m [.string ⟨⟨[10]⟩⟩, .int .i64 8, .string ⟨⟨[]⟩⟩, .pointer none, .slice none 0 0], Ent.blk b146m [.pointer none, .pointer none, .pointer none, .pointer (some ⟨b164m, 0, none⟩)], Ent.mix .u8 b3m [.string ⟨⟨[]⟩⟩, .int .i64 0, .string ⟨⟨[]⟩⟩, .pointer none, .slice (some ⟨b146m, 0, none⟩) 4 4, .int .i64 4] gmap (256 : Int)] w') := by
 refine ⟨Try.call67 _, ?_⟩
 have hS0 : SH M (fpl [Ent.blk b163m [.string ⟨⟨[10]⟩⟩, .int .i64 8, .string ⟨⟨[]⟩⟩, .pointer none, .slice none 0 0], Ent.blk b164m [.string ⟨⟨[]⟩⟩, .int .i64 0, .string ⟨⟨[10]⟩⟩, .pointer (some ⟨b163m, 0, none⟩), .slice none 0 0], Ent.blk b146m [.pointer none, .pointer none, .pointer none, .pointer (some ⟨b164m, 0, none⟩)], Ent.mix .u8 b3m [.string ⟨⟨[]⟩⟩, .int .i64 0, .string ⟨⟨[]⟩⟩, .pointer none, .slice (some ⟨b146m, 0, none⟩) 4 4, .int .i64 4] gmap (256 : Int)]) w [Ent.blk b163m [.string ⟨⟨[10]⟩⟩, .int .i64 8, .string ⟨⟨[]⟩⟩, .pointer none, .slice none 0 0], Ent.blk b164m [.string ⟨⟨[]⟩⟩, .int .i64 0, .string ⟨⟨[10]⟩⟩, .pointer (some ⟨b163m, 0, none⟩), .slice none 0 0], Ent.blk b146m [.pointer none, .pointer none, .pointer none, .pointer (some ⟨b164m, 0, none⟩)], Ent.mix .u8 b3m [.string ⟨⟨[]⟩⟩, .int .i64 0, .string ⟨⟨[]⟩⟩, .pointer none, .slice (some ⟨b146m, 0, none⟩) 4 4, .int .i64 4] gmap (256 : Int)] w := hS
 generalize hX : fpl [Ent.blk b163m [.string ⟨⟨[10]⟩⟩, .int .i64 8, .string ⟨⟨[]⟩⟩, .pointer none, .slice none 0 0], Ent.blk b164m [.string ⟨⟨[]⟩⟩, .int .i64 0, .string ⟨⟨[10]⟩⟩, .pointer (some ⟨b163m, 0, none⟩), .slice none 0 0], Ent.blk b146m [.pointer none, .pointer none, .pointer none, .pointer (some ⟨b164m, 0, none⟩)], Ent.mix .u8 b3m [.string ⟨⟨[]⟩⟩, .int .i64 0, .string ⟨⟨[]⟩⟩, .pointer none, .slice (some ⟨b146m, 0, none⟩) 4 4, .int .i64 4] gmap (256 : Int)] = X at hS0 ⊢
 clear hS hX
 have hS := hS0
 clear hS0
 refine calls_entryP Try.func67 rfl Try.ntmps67 rfl fun _ H => ?_
 refine w_seq ?_
 refine s_reg [] [0, 1, 2, 3, 4, 16] [(0, [], .pointer (some ⟨b164m, 0, none⟩)), (1, [], .string ⟨⟨[]⟩⟩), (2, [], .string ⟨⟨[10]⟩⟩), (3, [], .int .i64 6), (4, [], .pointer (some ⟨b3m, 0, none⟩)), (16, [], .bool true)] [] H (by kernel_rfl) trivial fun _ wd1o H2o hb => ?_
 clear H
 replace hS := hS.below hb
 clear hb
 refine w_if H2o rfl (fun _ => ?_) (fun hc => by cases hc)
 refine w_seq ?_
 refine s_reg [(.int .i64 0)] [0, 2, 3, 21] [(0, [], .pointer (some ⟨b164m, 0, none⟩)), (2, [], .string ⟨⟨[10]⟩⟩), (3, [], .int .i64 6), (21, [], .bool true)] [fun wz => V.at1 ⟨b164m, 1, none⟩ (.int .i64 0) wz] H2o (by kernel_rfl) ⟨((hS.bk 1 rfl).at1 rfl), trivial⟩ fun _ wd3o H4o hb => ?_
 clear H2o
 replace hS := hS.below hb
 clear hb
 refine w_if H4o rfl (fun _ => ?_) (fun hc => by cases hc)
 refine w_seq ?_
 refine wl_start ?_
 refine wl_batch 0 4 [] [0, 3, 23, 25] [(0, [], .pointer (some ⟨b164m, 0, none⟩)), (3, [], .int .i64 6), (23, [], .string ⟨⟨[10]⟩⟩), (25, [], .pointer (some ⟨b164m, 0, none⟩))] [] H4o (by decide) (by kernel_rfl) trivial fun _ wd5o H6o hb => ?_
 clear H4o
 replace hS := hS.below hb
 clear hb
 have hd := hS.hand [1] [0, 2, 3] rfl rfl
 refine m_stp0 [0, 3] [(0, [], .pointer (some ⟨b164m, 0, none⟩)), (3, [], .int .i64 6)] H6o rfl rfl rfl (o_store [.string ⟨⟨[10]⟩⟩, .int .i64 0, .string ⟨⟨[10]⟩⟩, .pointer (some ⟨b163m, 0, none⟩), .slice none 0 0] H6o hd rfl rfl (by kernel_rfl) rfl rfl rfl) rfl fun _ wd7o H8o hq => ?_
 clear H6o hd
 obtain ⟨_, hq⟩ := hq
 replace hS : SH M X w [Ent.blk b164m [.string ⟨⟨[10]⟩⟩, .int .i64 0, .string ⟨⟨[10]⟩⟩, .pointer (some ⟨b163m, 0, none⟩), .slice none 0 0], Ent.blk b163m [.string ⟨⟨[10]⟩⟩, .int .i64 8, .string ⟨⟨[]⟩⟩, .pointer none, .slice none 0 0], Ent.blk b146m [.pointer none, .pointer none, .pointer none, .pointer (some ⟨b164m, 0, none⟩)], Ent.mix .u8 b3m [.string ⟨⟨[]⟩⟩, .int .i64 0, .string ⟨⟨[]⟩⟩, .pointer none, .slice (some ⟨b146m, 0, none⟩) 4 4, .int .i64 4] gmap (256 : Int)] _ := hS.join [1] [0, 2, 3] rfl rfl hq
 clear hq
 refine wl_end rfl ?_
 refine wl_start ?_
 refine wl_batch 0 4 [] [27, 29] [(27, [], .int .i64 6), (29, [], .pointer (some ⟨b164m, 1, none⟩))] [] H8o (by decide) (by kernel_rfl) trivial fun _ wd9o H10o hb => ?_
 clear H8o
 replace hS := hS.below hb
 clear hb
 have hd := hS.hand [0] [1, 2, 3] rfl rfl
 refine m_stp0 [] [] H10o rfl rfl rfl (o_store [.string ⟨⟨[10]⟩⟩, .int .i64 6, .string ⟨⟨[10]⟩⟩, .pointer (some ⟨b163m, 0, none⟩), .slice none 0 0] H10o hd rfl rfl (by kernel_rfl) rfl rfl rfl) rfl fun _ wd11o H12o hq => ?_
 clear H10o hd
 obtain ⟨_, hq⟩ := hq
 replace hS : SH M X w [Ent.blk b164m [.string ⟨⟨[10]⟩⟩, .int .i64 6, .string ⟨⟨[10]⟩⟩, .pointer (some ⟨b163m, 0, none⟩), .slice none 0 0], Ent.blk b163m [.string ⟨⟨[10]⟩⟩, .int .i64 8, .string ⟨⟨[]⟩⟩, .pointer none, .slice none 0 0], Ent.blk b146m [.pointer none, .pointer none, .pointer none, .pointer (some ⟨b164m, 0, none⟩)], Ent.mix .u8 b3m [.string ⟨⟨[]⟩⟩, .int .i64 0, .string ⟨⟨[]⟩⟩, .pointer none, .slice (some ⟨b146m, 0, none⟩) 4 4, .int .i64 4] gmap (256 : Int)] _ := hS.join [0] [1, 2, 3] rfl rfl hq
 clear hq
 refine wl_end rfl ?_
 refine w_ret ?_
 try dsimp only
 exact retR0 H12o rfl ⟨_, rfl, rfl, (hS.sel [0, 1, 2, 3] rfl)⟩

theorem strings_trieNode_add_cs4 {b3m : Nat} {b146m : Nat} {b163m : Nat} {b164m : Nat} (M : Av) (w : World) (hS : S0 M [Ent.blk b163m [.string ⟨⟨[10]⟩⟩, .int .i64 8, .string ⟨⟨[]⟩⟩, .pointer none, .slice none 0 0], Ent.blk b164m [.string ⟨⟨[]⟩⟩, .int .i64 0, .string ⟨⟨[10]⟩⟩, .pointer (some ⟨b163m, 0, none⟩), .slice none 0 0], Ent.blk b146m [.pointer none, .pointer none, .pointer none, .pointer (some ⟨b164m, 0, none⟩)], Ent.mix .u8 b3m [.string ⟨⟨[]⟩⟩, .int .i64 0, .string ⟨⟨[]⟩⟩, .pointer none, .slice (some ⟨b146m, 0, none⟩) 4 4, .int .i64 4] gmap (256 : Int)] w) : DoesX Try.prog 67 ⟨[.pointer (some ⟨b3m, 0, none⟩), .string ⟨⟨[13]⟩⟩, .string ⟨⟨[10]⟩⟩, .int .i64 6, .pointer (some ⟨b3m, 0, none⟩)]⟩ w (fun v w' => v = .tuple ⟨[]⟩ ∧ SH M (fpl [Ent.blk b163m [.string ⟨⟨[10]⟩⟩, .int .i64 8, .string ⟨⟨[]⟩⟩, .pointer none, .slice none 0 0], Ent.blk b164m [.string ⟨⟨[]⟩⟩, .int .i64 0, .string ⟨⟨[10]⟩⟩, .pointer (some ⟨b163m, 0, none⟩), .slice none 0 0], Ent.blk b146m [.pointer none, .pointer none, .pointer none, .pointer (some ⟨b164m, 0, none⟩)], Ent.mix .u8 b3m [.string ⟨⟨[]⟩⟩, .int .i64 0, .string ⟨⟨[]⟩⟩, .pointer none, .slice (some ⟨b146m, 0, none⟩) 4 4, .int .i64 4] gmap (256 : Int)]) w [Ent.blk b164m [.string ⟨⟨[10]⟩⟩, .int .i64 6, .string ⟨⟨[10]⟩⟩, .pointer (some ⟨b163m, 0, none⟩), .slice none 0 0], Ent.blk b163m [.string ⟨⟨[10]⟩⟩, .int .i64 8, .string ⟨⟨[]⟩⟩, .pointer none, .slice none 0 0], Ent.blk b146m [.pointer none, .pointer none, .pointer none, .pointer (some ⟨b164m, 0, none⟩)], Ent.mix .u8 b3m [.string ⟨⟨[]⟩⟩, .int .i64 0, .string ⟨⟨[]⟩⟩, .pointer none, .slice (some ⟨b146m, 0, none⟩) 4 4, .int .i64 4] gmap (256 : Int)] w') := by
 refine ⟨Try.call67 _, ?_⟩
 have hS0 : SH M (fpl [Ent.blk b163m [.string ⟨⟨[10]⟩⟩, .int .i64 8, .string ⟨⟨[]⟩⟩, .pointer none, .slice none 0 0], Ent.blk b164m [.string ⟨⟨[]⟩⟩, .int .i64 0, .string ⟨⟨[10]⟩⟩, .pointer (some ⟨b163m, 0, none⟩), .slice none 0 0], Ent.blk b146m [.pointer none, .pointer none, .pointer none, .pointer (some ⟨b164m, 0, none⟩)], Ent.mix .u8 b3m [.string ⟨⟨[]⟩⟩, .int .i64 0, .string ⟨⟨[]⟩⟩, .pointer none, .slice (some ⟨b146m, 0, none⟩) 4 4, .int .i64 4] gmap (256 : Int)]) w [Ent.blk b163m [.string ⟨⟨[10]⟩⟩, .int .i64 8, .string ⟨⟨[]⟩⟩, .pointer none, .slice none 0 0], Ent.blk b164m [.string ⟨⟨[]⟩⟩, .int .i64 0, .string ⟨⟨[10]⟩⟩, .pointer (some ⟨b163m, 0, none⟩), .slice none 0 0], Ent.blk b146m [.pointer none, .pointer none, .pointer none, .pointer (some ⟨b164m, 0, none⟩)], Ent.mix .u8 b3m [.string ⟨⟨[]⟩⟩, .int .i64 0, .string ⟨⟨[]⟩⟩, .pointer none, .slice (some ⟨b146m, 0, none⟩) 4 4, .int .i64 4] gmap (256 : Int)] w := hS
 generalize hX : fpl [Ent.blk b163m [.string ⟨⟨[10]⟩⟩, .int .i64 8, .string ⟨⟨[]⟩⟩, .pointer none, .slice none 0 0], Ent.blk b164m [.string ⟨⟨[]⟩⟩, .int .i64 0, .string ⟨⟨[10]⟩⟩, .pointer (some ⟨b163m, 0, none⟩), .slice none 0 0], Ent.blk b146m [.pointer none, .pointer none, .pointer none, .pointer (some ⟨b164m, 0, none⟩)], Ent.mix .u8 b3m [.string ⟨⟨[]⟩⟩, .int .i64 0, .string ⟨⟨[]⟩⟩, .pointer none, .slice (some ⟨b146m, 0, none⟩) 4 4, .int .i64 4] gmap (256 : Int)] = X at hS0 ⊢
 clear hS hX
 have hS := hS0
 clear hS0
 refine calls_entryP Try.func67 rfl Try.ntmps67 rfl fun _ H => ?_
 refine w_seq ?_
 refine s_reg [] [0, 1, 2, 3, 4, 16] [(0, [], .pointer (some ⟨b3m, 0, none⟩)), (1, [], .string ⟨⟨[13]⟩⟩), (2, [], .string ⟨⟨[10]⟩⟩), (3, [], .int .i64 6), (4, [], .pointer (some ⟨b3m, 0, none⟩)), (16, [], .bool false)] [] H (by kernel_rfl) trivial fun _ wd1n H2n hb => ?_
 clear H
 replace hS := hS.below hb
 clear hb
 refine w_if H2n rfl (fun hc => by cases hc) (fun _ => ?_)
 refine w_skip ?_
 refine s_reg [(.string ⟨⟨[]⟩⟩)] [0, 1, 2, 3, 4, 34] [(0, [], .pointer (some ⟨b3m, 0, none⟩)), (1, [], .string ⟨⟨[13]⟩⟩), (2, [], .string ⟨⟨[10]⟩⟩), (3, [], .int .i64 6), (4, [], .pointer (some ⟨b3m, 0, none⟩)), (34, [], .bool false)] [fun wz => V.at1 ⟨b3m, 2, none⟩ (.string ⟨⟨[]⟩⟩) wz] H2n (by kernel_rfl) ⟨((hS.mix 3 rfl).1.at1 rfl), trivial⟩ fun _ wd3n H4n hb => ?_
 clear H2n
 replace hS := hS.below hb
 clear hb
 refine w_if H4n rfl (fun hc => by cases hc) (fun _ => ?_)
 refine s_reg [(.slice (some ⟨b146m, 0, none⟩) 4 4)] [0, 1, 2, 3, 4, 189] [(0, [], .pointer (some ⟨b3m, 0, none⟩)), (1, [], .string ⟨⟨[13]⟩⟩), (2, [], .string ⟨⟨[10]⟩⟩), (3, [], .int .i64 6), (4, [], .pointer (some ⟨b3m, 0, none⟩)), (189, [], .bool true)] [fun wz => V.at1 ⟨b3m, 4, none⟩ (.slice (some ⟨b146m, 0, none⟩) 4 4) wz] H4n (by kernel_rfl) ⟨((hS.mix 3 rfl).1.at1 rfl), trivial⟩ fun _ wd5n H6n hb => ?_
 clear H4n
 replace hS := hS.below hb
 clear hb
 refine w_if H6n rfl (fun _ => ?_) (fun hc => by cases hc)
 refine s_draw [(.int .u8 3)] [0, 1, 2, 3, 4, 14] [(0, [], .pointer (some ⟨b3m, 0, none⟩)), (1, [], .string ⟨⟨[13]⟩⟩), (2, [], .string ⟨⟨[10]⟩⟩), (3, [], .int .i64 6), (4, [], .pointer (some ⟨b3m, 0, none⟩)), (14, [], .int .u8 3)] [fun _ => 0 ≤ (0 : Int) ∧ (0 : Int) < ln ([13] : Str), fun _ => 0 ≤ (13 : Int) ∧ (13 : Int) < (256 : Int), fun wz => V.at1 ⟨b3m, 6 + ((13 : Int)).toNat * 1, none⟩ (.int .u8 3) wz] H6n (by kernel_rfl) (by kernel_rfl) (by kernel_rfl) ⟨(show 0 ≤ (0 : Int) ∧ (0 : Int) < ln ([13] : Str) from by decide), (show 0 ≤ (13 : Int) ∧ (13 : Int) < (256 : Int) from by decide), (Mix.ixn (hS.mix 3 rfl) rfl (show 0 ≤ (13 : Int) ∧ (13 : Int) < (256 : Int) from by decide)), trivial⟩ fun _ wd7n H8n hb => ?_
 clear H6n
 replace hS := hS.below hb
 clear hb
 refine w_seq ?_
 refine s_reg [(.slice (some ⟨b146m, 0, none⟩) 4 4), (.pointer (some ⟨b164m, 0, none⟩))] [0, 1, 2, 3, 4, 14, 204] [(0, [], .pointer (some ⟨b3m, 0, none⟩)), (1, [], .string ⟨⟨[13]⟩⟩), (2, [], .string ⟨⟨[10]⟩⟩), (3, [], .int .i64 6), (4, [], .pointer (some ⟨b3m, 0, none⟩)), (14, [], .int .u8 3), (204, [], .bool false)] [fun wz => V.at1 ⟨b3m, 4, none⟩ (.slice (some ⟨b146m, 0, none⟩) 4 4) wz, fun _ => oka (some ⟨b146m, 0, none⟩) ∧ 0 ≤ (3 : Int) ∧ (3 : Int) < 4, fun wz => V.at1 ⟨b146m, 3, none⟩ (.pointer (some ⟨b164m, 0, none⟩)) wz] H8n (by kernel_rfl) ⟨((hS.mix 3 rfl).1.at1 rfl), (⟨rfl, (show 0 ≤ (3 : Int) ∧ (3 : Int) < 4 from by decide)⟩), ((hS.bk 2 rfl).at1 rfl), trivial⟩ fun _ wd9n H10n hb => ?_
 clear H8n
 replace hS := hS.below hb
 clear hb
 refine w_if H10n rfl (fun hc => by cases hc) (fun _ => ?_)
 refine w_skip ?_
 refine w_drawS (base := [(0, [], .pointer (some ⟨b3m, 0, none⟩)), (1, [], .string ⟨⟨[13]⟩⟩), (2, [], .string ⟨⟨[10]⟩⟩), (3, [], .int .i64 6), (4, [], .pointer (some ⟨b3m, 0, none⟩)), (14, [], .int .u8 3)]) (L := [Ent.blk b163m [.string ⟨⟨[10]⟩⟩, .int .i64 8, .string ⟨⟨[]⟩⟩, .pointer none, .slice none 0 0], Ent.blk b164m [.string ⟨⟨[]⟩⟩, .int .i64 0, .string ⟨⟨[10]⟩⟩, .pointer (some ⟨b163m, 0, none⟩), .slice none 0 0], Ent.blk b146m [.pointer none, .pointer none, .pointer none, .pointer (some ⟨b164m, 0, none⟩)], Ent.mix .u8 b3m [.string ⟨⟨[]⟩⟩, .int .i64 0, .string ⟨⟨[]⟩⟩, .pointer none, .slice (some ⟨b146m, 0, none⟩) 4 4, .int .i64 4] gmap (256 : Int)]) 13 4 (fun yg11n => [.pointer (some ⟨b3m, 0, none⟩), .pointer (some ⟨b3m, 0, none⟩), .pointer (some ⟨b3m, 4, none⟩), .slice (some ⟨b146m, 0, none⟩) 4 4, .int .u8 3, .pointer (some ⟨b146m, 3, none⟩), .pointer (some ⟨b164m, 0, none⟩), .string ⟨⟨[13]⟩⟩, .string ⟨⟨[]⟩⟩, .string ⟨⟨[10]⟩⟩, .int .i64 6, .pointer (some ⟨b3m, 0, none⟩), .tuple ⟨[]⟩]) (fun yg11n => [[], [], [], [], [], [], [], [], [], [], [], [], [Ent.blk b164m [.string ⟨⟨[10]⟩⟩, .int .i64 6, .string ⟨⟨[10]⟩⟩, .pointer (some ⟨b163m, 0, none⟩), .slice none 0 0]]]) [[13, 14, 15, 16], [13, 14, 15, 16], [13, 14, 15, 16], [13, 14, 15, 16], [], [13, 14, 15], [13, 14, 15], [], [], [], [], [13, 14, 15, 16], [13, 14, 15, 16]] [[], [], [], [], [], [], [], [], [], [], [], [], [14]] [[0], [0, 1], [0, 1, 2], [0, 1, 2, 3], [4], [0, 1, 2, 3, 4, 5], [0, 1, 2, 3, 4, 5, 6], [7], [7, 8], [9], [10], [11], [0, 1, 2, 3, 4, 5, 6, 7, 8, 9, 10, 11, 12]] [] (FrG.keep (ks := [0, 1, 2, 3, 4, 14]) H10n (by kernel_rfl)) (fun _ _ h => by cases h) (by kernel_rfl) hS (by kernel_rfl) rfl rfl (by kernel_rfl) (by kernel_rfl) (by kernel_rfl) (gd_none (by kernel_rfl) _ _) ?hloc_yg11n ?hstep_yg11n fun _ wd12n yg11n H13n hv hS => ?hK_yg11n
 case hloc_yg11n => exact ⟨(fun _ _ _ _ => ⟨rfl, rfl⟩), (fun _ _ _ _ => ⟨rfl, rfl⟩), (fun _ _ _ _ => ⟨rfl, rfl⟩), (fun _ _ _ _ => ⟨rfl, rfl⟩), (fun _ _ _ _ => ⟨rfl, rfl⟩), (fun _ _ _ _ => ⟨rfl, rfl⟩), (fun _ _ _ _ => ⟨rfl, rfl⟩), (fun _ _ _ _ => ⟨rfl, rfl⟩), (fun _ _ _ _ => ⟨rfl, rfl⟩), (fun _ _ _ _ => ⟨rfl, rfl⟩), (fun _ _ _ _ => ⟨rfl, rfl⟩), (fun _ _ _ _ => ⟨rfl, rfl⟩), (fun _ _ _ _ => ⟨rfl, rfl⟩), trivial⟩
 case hstep_yg11n =>
  refine ⟨?_, ?_, ?_, ?_, ?_, ?_, ?_, ?_, ?_, ?_, ?_, ?_, ?_, trivial⟩
  ·intro o ho a w yg11n M Hb hv hO hS0
   obtain rfl := Option.some.inj ho
   have H : Fr 241 ([] ++ [(0, [], .pointer (some ⟨b3m, 0, none⟩)), (1, [], .string ⟨⟨[13]⟩⟩), (2, [], .string ⟨⟨[10]⟩⟩), (3, [], .int .i64 6), (4, [], .pointer (some ⟨b3m, 0, none⟩)), (14, [], .int .u8 3)]) _ := Hb
   obtain ⟨X, hX⟩ : ∃ X, X = fpl [Ent.blk b163m [.string ⟨⟨[10]⟩⟩, .int .i64 8, .string ⟨⟨[]⟩⟩, .pointer none, .slice none 0 0], Ent.blk b164m [.string ⟨⟨[]⟩⟩, .int .i64 0, .string ⟨⟨[10]⟩⟩, .pointer (some ⟨b163m, 0, none⟩), .slice none 0 0], Ent.blk b146m [.pointer none, .pointer none, .pointer none, .pointer (some ⟨b164m, 0, none⟩)], Ent.mix .u8 b3m [.string ⟨⟨[]⟩⟩, .int .i64 0, .string ⟨⟨[]⟩⟩, .pointer none, .slice (some ⟨b146m, 0, none⟩) 4 4, .int .i64 4] gmap (256 : Int)] := ⟨_, rfl⟩
   have hS : SH M X w [Ent.blk b163m [.string ⟨⟨[10]⟩⟩, .int .i64 8, .string ⟨⟨[]⟩⟩, .pointer none, .slice none 0 0], Ent.blk b164m [.string ⟨⟨[]⟩⟩, .int .i64 0, .string ⟨⟨[10]⟩⟩, .pointer (some ⟨b163m, 0, none⟩), .slice none 0 0], Ent.blk b146m [.pointer none, .pointer none, .pointer none, .pointer (some ⟨b164m, 0, none⟩)], Ent.mix .u8 b3m [.string ⟨⟨[]⟩⟩, .int .i64 0, .string ⟨⟨[]⟩⟩, .pointer none, .slice (some ⟨b146m, 0, none⟩) 4 4, .int .i64 4] gmap (256 : Int)] w := by rw [hX]; exact hS0
   refine Stp.mono (o_evs [] (.pointer (some ⟨b3m, 0, none⟩)) none [] H rfl (by kernel_rfl) (fun q e => by cases e)) ?_
   rintro v w2 ⟨rfl, hq⟩
   replace hS : SH M X w [Ent.blk b163m [.string ⟨⟨[10]⟩⟩, .int .i64 8, .string ⟨⟨[]⟩⟩, .pointer none, .slice none 0 0], Ent.blk b164m [.string ⟨⟨[]⟩⟩, .int .i64 0, .string ⟨⟨[10]⟩⟩, .pointer (some ⟨b163m, 0, none⟩), .slice none 0 0], Ent.blk b146m [.pointer none, .pointer none, .pointer none, .pointer (some ⟨b164m, 0, none⟩)], Ent.mix .u8 b3m [.string ⟨⟨[]⟩⟩, .int .i64 0, .string ⟨⟨[]⟩⟩, .pointer none, .slice (some ⟨b146m, 0, none⟩) 4 4, .int .i64 4] gmap (256 : Int)] _ := hS.below hq.below
   rw [hX] at hS
   exact ⟨gL [], fun _ _ => rfl, hS.sel [0, 1, 2, 3] rfl⟩
  ·intro o ho a w yg11n M Hb hv hO hS0
   obtain rfl := Option.some.inj ho
   have H : Fr 241 ([(212, [], .pointer (some ⟨b3m, 0, none⟩))] ++ [(0, [], .pointer (some ⟨b3m, 0, none⟩)), (1, [], .string ⟨⟨[13]⟩⟩), (2, [], .string ⟨⟨[10]⟩⟩), (3, [], .int .i64 6), (4, [], .pointer (some ⟨b3m, 0, none⟩)), (14, [], .int .u8 3)]) _ := (Hb).add (hv 0 (by decide) (by decide) 212 rfl)
   obtain ⟨X, hX⟩ : ∃ X, X = fpl [Ent.blk b163m [.string ⟨⟨[10]⟩⟩, .int .i64 8, .string ⟨⟨[]⟩⟩, .pointer none, .slice none 0 0], Ent.blk b164m [.string ⟨⟨[]⟩⟩, .int .i64 0, .string ⟨⟨[10]⟩⟩, .pointer (some ⟨b163m, 0, none⟩), .slice none 0 0], Ent.blk b146m [.pointer none, .pointer none, .pointer none, .pointer (some ⟨b164m, 0, none⟩)], Ent.mix .u8 b3m [.string ⟨⟨[]⟩⟩, .int .i64 0, .string ⟨⟨[]⟩⟩, .pointer none, .slice (some ⟨b146m, 0, none⟩) 4 4, .int .i64 4] gmap (256 : Int)] := ⟨_, rfl⟩
   have hS : SH M X w [Ent.blk b163m [.string ⟨⟨[10]⟩⟩, .int .i64 8, .string ⟨⟨[]⟩⟩, .pointer none, .slice none 0 0], Ent.blk b164m [.string ⟨⟨[]⟩⟩, .int .i64 0, .string ⟨⟨[10]⟩⟩, .pointer (some ⟨b163m, 0, none⟩), .slice none 0 0], Ent.blk b146m [.pointer none, .pointer none, .pointer none, .pointer (some ⟨b164m, 0, none⟩)], Ent.mix .u8 b3m [.string ⟨⟨[]⟩⟩, .int .i64 0, .string ⟨⟨[]⟩⟩, .pointer none, .slice (some ⟨b146m, 0, none⟩) 4 4, .int .i64 4] gmap (256 : Int)] w := by rw [hX]; exact hS0
   refine Stp.mono (o_evs [] (.pointer (some ⟨b3m, 0, none⟩)) none [] H rfl (by kernel_rfl) (fun q e => by cases e)) ?_
   rintro v w2 ⟨rfl, hq⟩
   replace hS : SH M X w [Ent.blk b163m [.string ⟨⟨[10]⟩⟩, .int .i64 8, .string ⟨⟨[]⟩⟩, .pointer none, .slice none 0 0], Ent.blk b164m [.string ⟨⟨[]⟩⟩, .int .i64 0, .string ⟨⟨[10]⟩⟩, .pointer (some ⟨b163m, 0, none⟩), .slice none 0 0], Ent.blk b146m [.pointer none, .pointer none, .pointer none, .pointer (some ⟨b164m, 0, none⟩)], Ent.mix .u8 b3m [.string ⟨⟨[]⟩⟩, .int .i64 0, .string ⟨⟨[]⟩⟩, .pointer none, .slice (some ⟨b146m, 0, none⟩) 4 4, .int .i64 4] gmap (256 : Int)] _ := hS.below hq.below
   rw [hX] at hS
   exact ⟨gL [], fun _ _ => rfl, hS.sel [0, 1, 2, 3] rfl⟩
  ·intro o ho a w yg11n M Hb hv hO hS0
   obtain rfl := Option.some.inj ho
   have H : Fr 241 ([(213, [], .pointer (some ⟨b3m, 0, none⟩))] ++ [(0, [], .pointer (some ⟨b3m, 0, none⟩)), (1, [], .string ⟨⟨[13]⟩⟩), (2, [], .string ⟨⟨[10]⟩⟩), (3, [], .int .i64 6), (4, [], .pointer (some ⟨b3m, 0, none⟩)), (14, [], .int .u8 3)]) _ := (Hb).add (hv 1 (by decide) (by decide) 213 rfl)
   obtain ⟨X, hX⟩ : ∃ X, X = fpl [Ent.blk b163m [.string ⟨⟨[10]⟩⟩, .int .i64 8, .string ⟨⟨[]⟩⟩, .pointer none, .slice none 0 0], Ent.blk b164m [.string ⟨⟨[]⟩⟩, .int .i64 0, .string ⟨⟨[10]⟩⟩, .pointer (some ⟨b163m, 0, none⟩), .slice none 0 0], Ent.blk b146m [.pointer none, .pointer none, .pointer none, .pointer (some ⟨b164m, 0, none⟩)], Ent.mix .u8 b3m [.string ⟨⟨[]⟩⟩, .int .i64 0, .string ⟨⟨[]⟩⟩, .pointer none, .slice (some ⟨b146m, 0, none⟩) 4 4, .int .i64 4] gmap (256 : Int)] := ⟨_, rfl⟩
   have hS : SH M X w [Ent.blk b163m [.string ⟨⟨[10]⟩⟩, .int .i64 8, .string ⟨⟨[]⟩⟩, .pointer none, .slice none 0 0], Ent.blk b164m [.string ⟨⟨[]⟩⟩, .int .i64 0, .string ⟨⟨[10]⟩⟩, .pointer (some ⟨b163m, 0, none⟩), .slice none 0 0], Ent.blk b146m [.pointer none, .pointer none, .pointer none, .pointer (some ⟨b164m, 0, none⟩)], Ent.mix .u8 b3m [.string ⟨⟨[]⟩⟩, .int .i64 0, .string ⟨⟨[]⟩⟩, .pointer none, .slice (some ⟨b146m, 0, none⟩) 4 4, .int .i64 4] gmap (256 : Int)] w := by rw [hX]; exact hS0
   refine Stp.mono (o_evs [] (.pointer (some ⟨b3m, 4, none⟩)) none [] H rfl (by kernel_rfl) (fun q e => by cases e)) ?_
   rintro v w2 ⟨rfl, hq⟩
   replace hS : SH M X w [Ent.blk b163m [.string ⟨⟨[10]⟩⟩, .int .i64 8, .string ⟨⟨[]⟩⟩, .pointer none, .slice none 0 0], Ent.blk b164m [.string ⟨⟨[]⟩⟩, .int .i64 0, .string ⟨⟨[10]⟩⟩, .pointer (some ⟨b163m, 0, none⟩), .slice none 0 0], Ent.blk b146m [.pointer none, .pointer none, .pointer none, .pointer (some ⟨b164m, 0, none⟩)], Ent.mix .u8 b3m [.string ⟨⟨[]⟩⟩, .int .i64 0, .string ⟨⟨[]⟩⟩, .pointer none, .slice (some ⟨b146m, 0, none⟩) 4 4, .int .i64 4] gmap (256 : Int)] _ := hS.below hq.below
   rw [hX] at hS
   exact ⟨gL [], fun _ _ => rfl, hS.sel [0, 1, 2, 3] rfl⟩
  ·intro o ho a w yg11n M Hb hv hO hS0
   obtain rfl := Option.some.inj ho
   have H : Fr 241 ([(214, [], .pointer (some ⟨b3m, 4, none⟩))] ++ [(0, [], .pointer (some ⟨b3m, 0, none⟩)), (1, [], .string ⟨⟨[13]⟩⟩), (2, [], .string ⟨⟨[10]⟩⟩), (3, [], .int .i64 6), (4, [], .pointer (some ⟨b3m, 0, none⟩)), (14, [], .int .u8 3)]) _ := (Hb).add (hv 2 (by decide) (by decide) 214 rfl)
   obtain ⟨X, hX⟩ : ∃ X, X = fpl [Ent.blk b163m [.string ⟨⟨[10]⟩⟩, .int .i64 8, .string ⟨⟨[]⟩⟩, .pointer none, .slice none 0 0], Ent.blk b164m [.string ⟨⟨[]⟩⟩, .int .i64 0, .string ⟨⟨[10]⟩⟩, .pointer (some ⟨b163m, 0, none⟩), .slice none 0 0], Ent.blk b146m [.pointer none, .pointer none, .pointer none, .pointer (some ⟨b164m, 0, none⟩)], Ent.mix .u8 b3m [.string ⟨⟨[]⟩⟩, .int .i64 0, .string ⟨⟨[]⟩⟩, .pointer none, .slice (some ⟨b146m, 0, none⟩) 4 4, .int .i64 4] gmap (256 : Int)] := ⟨_, rfl⟩
   have hS : SH M X w [Ent.blk b163m [.string ⟨⟨[10]⟩⟩, .int .i64 8, .string ⟨⟨[]⟩⟩, .pointer none, .slice none 0 0], Ent.blk b164m [.string ⟨⟨[]⟩⟩, .int .i64 0, .string ⟨⟨[10]⟩⟩, .pointer (some ⟨b163m, 0, none⟩), .slice none 0 0], Ent.blk b146m [.pointer none, .pointer none, .pointer none, .pointer (some ⟨b164m, 0, none⟩)], Ent.mix .u8 b3m [.string ⟨⟨[]⟩⟩, .int .i64 0, .string ⟨⟨[]⟩⟩, .pointer none, .slice (some ⟨b146m, 0, none⟩) 4 4, .int .i64 4] gmap (256 : Int)] w := by rw [hX]; exact hS0
   refine Stp.mono (o_evs [(.slice (some ⟨b146m, 0, none⟩) 4 4)] (.slice (some ⟨b146m, 0, none⟩) 4 4) (some (fun wz => V.at1 ⟨b3m, 4, none⟩ (.slice (some ⟨b146m, 0, none⟩) 4 4) wz)) [] H rfl (by kernel_rfl) (fun q e => by cases e; exact ((hS.mix 3 rfl).1.at1 rfl))) ?_
   rintro v w2 ⟨rfl, hq⟩
   replace hS : SH M X w [Ent.blk b163m [.string ⟨⟨[10]⟩⟩, .int .i64 8, .string ⟨⟨[]⟩⟩, .pointer none, .slice none 0 0], Ent.blk b164m [.string ⟨⟨[]⟩⟩, .int .i64 0, .string ⟨⟨[10]⟩⟩, .pointer (some ⟨b163m, 0, none⟩), .slice none 0 0], Ent.blk b146m [.pointer none, .pointer none, .pointer none, .pointer (some ⟨b164m, 0, none⟩)], Ent.mix .u8 b3m [.string ⟨⟨[]⟩⟩, .int .i64 0, .string ⟨⟨[]⟩⟩, .pointer none, .slice (some ⟨b146m, 0, none⟩) 4 4, .int .i64 4] gmap (256 : Int)] _ := hS.below hq.below
   rw [hX] at hS
   exact ⟨gL [], fun _ _ => rfl, hS.sel [0, 1, 2, 3] rfl⟩
  ·intro o ho a w yg11n M Hb hv hO hS0
   obtain rfl := Option.some.inj ho
   have H : Fr 241 ([] ++ [(0, [], .pointer (some ⟨b3m, 0, none⟩)), (1, [], .string ⟨⟨[13]⟩⟩), (2, [], .string ⟨⟨[10]⟩⟩), (3, [], .int .i64 6), (4, [], .pointer (some ⟨b3m, 0, none⟩)), (14, [], .int .u8 3)]) _ := Hb
   obtain ⟨X, hX⟩ : ∃ X, X = fpl [] := ⟨_, rfl⟩
   have hS : SH M X w [] w := by rw [hX]; exact hS0
   refine Stp.mono (o_evs [] (.int .u8 3) none [] H rfl (by kernel_rfl) (fun q e => by cases e)) ?_
   rintro v w2 ⟨rfl, hq⟩
   replace hS : SH M X w [] _ := hS.below hq.below
   rw [hX] at hS
   exact ⟨gL [], fun _ _ => rfl, hS.sel [] rfl⟩
  ·intro o ho a w yg11n M Hb hv hO hS0
   obtain rfl := Option.some.inj ho
   have H : Fr 241 ([(216, [], .int .u8 3), (215, [], .slice (some ⟨b146m, 0, none⟩) 4 4)] ++ [(0, [], .pointer (some ⟨b3m, 0, none⟩)), (1, [], .string ⟨⟨[13]⟩⟩), (2, [], .string ⟨⟨[10]⟩⟩), (3, [], .int .i64 6), (4, [], .pointer (some ⟨b3m, 0, none⟩)), (14, [], .int .u8 3)]) _ := ((Hb).add (hv 3 (by decide) (by decide) 215 rfl)).add (hv 4 (by decide) (by decide) 216 rfl)
   obtain ⟨X, hX⟩ : ∃ X, X = fpl [Ent.blk b163m [.string ⟨⟨[10]⟩⟩, .int .i64 8, .string ⟨⟨[]⟩⟩, .pointer none, .slice none 0 0], Ent.blk b164m [.string ⟨⟨[]⟩⟩, .int .i64 0, .string ⟨⟨[10]⟩⟩, .pointer (some ⟨b163m, 0, none⟩), .slice none 0 0], Ent.blk b146m [.pointer none, .pointer none, .pointer none, .pointer (some ⟨b164m, 0, none⟩)]] := ⟨_, rfl⟩
   have hS : SH M X w [Ent.blk b163m [.string ⟨⟨[10]⟩⟩, .int .i64 8, .string ⟨⟨[]⟩⟩, .pointer none, .slice none 0 0], Ent.blk b164m [.string ⟨⟨[]⟩⟩, .int .i64 0, .string ⟨⟨[10]⟩⟩, .pointer (some ⟨b163m, 0, none⟩), .slice none 0 0], Ent.blk b146m [.pointer none, .pointer none, .pointer none, .pointer (some ⟨b164m, 0, none⟩)]] w := by rw [hX]; exact hS0
   refine Stp.mono (o_evs [] (.pointer (some ⟨b146m, 3, none⟩)) (some (fun _ => oka (some ⟨b146m, 0, none⟩) ∧ 0 ≤ (3 : Int) ∧ (3 : Int) < 4)) [] H rfl (by kernel_rfl) (fun q e => by cases e; exact (⟨rfl, (show 0 ≤ (3 : Int) ∧ (3 : Int) < 4 from by decide)⟩))) ?_
   rintro v w2 ⟨rfl, hq⟩
   replace hS : SH M X w [Ent.blk b163m [.string ⟨⟨[10]⟩⟩, .int .i64 8, .string ⟨⟨[]⟩⟩, .pointer none, .slice none 0 0], Ent.blk b164m [.string ⟨⟨[]⟩⟩, .int .i64 0, .string ⟨⟨[10]⟩⟩, .pointer (some ⟨b163m, 0, none⟩), .slice none 0 0], Ent.blk b146m [.pointer none, .pointer none, .pointer none, .pointer (some ⟨b164m, 0, none⟩)]] _ := hS.below hq.below
   rw [hX] at hS
   exact ⟨gL [], fun _ _ => rfl, hS.sel [0, 1, 2] rfl⟩
  ·intro o ho a w yg11n M Hb hv hO hS0
   obtain rfl := Option.some.inj ho
   have H : Fr 241 ([(217, [], .pointer (some ⟨b146m, 3, none⟩))] ++ [(0, [], .pointer (some ⟨b3m, 0, none⟩)), (1, [], .string ⟨⟨[13]⟩⟩), (2, [], .string ⟨⟨[10]⟩⟩), (3, [], .int .i64 6), (4, [], .pointer (some ⟨b3m, 0, none⟩)), (14, [], .int .u8 3)]) _ := (Hb).add (hv 5 (by decide) (by decide) 217 rfl)
   obtain ⟨X, hX⟩ : ∃ X, X = fpl [Ent.blk b163m [.string ⟨⟨[10]⟩⟩, .int .i64 8, .string ⟨⟨[]⟩⟩, .pointer none, .slice none 0 0], Ent.blk b164m [.string ⟨⟨[]⟩⟩, .int .i64 0, .string ⟨⟨[10]⟩⟩, .pointer (some ⟨b163m, 0, none⟩), .slice none 0 0], Ent.blk b146m [.pointer none, .pointer none, .pointer none, .pointer (some ⟨b164m, 0, none⟩)]] := ⟨_, rfl⟩
   have hS : SH M X w [Ent.blk b163m [.string ⟨⟨[10]⟩⟩, .int .i64 8, .string ⟨⟨[]⟩⟩, .pointer none, .slice none 0 0], Ent.blk b164m [.string ⟨⟨[]⟩⟩, .int .i64 0, .string ⟨⟨[10]⟩⟩, .pointer (some ⟨b163m, 0, none⟩), .slice none 0 0], Ent.blk b146m [.pointer none, .pointer none, .pointer none, .pointer (some ⟨b164m, 0, none⟩)]] w := by rw [hX]; exact hS0
   refine Stp.mono (o_evs [(.pointer (some ⟨b164m, 0, none⟩))] (.pointer (some ⟨b164m, 0, none⟩)) (some (fun wz => V.at1 ⟨b146m, 3, none⟩ (.pointer (some ⟨b164m, 0, none⟩)) wz)) [] H rfl (by kernel_rfl) (fun q e => by cases e; exact ((hS.bk 2 rfl).at1 rfl))) ?_
   rintro v w2 ⟨rfl, hq⟩
   replace hS : SH M X w [Ent.blk b163m [.string ⟨⟨[10]⟩⟩, .int .i64 8, .string ⟨⟨[]⟩⟩, .pointer none, .slice none 0 0], Ent.blk b164m [.string ⟨⟨[]⟩⟩, .int .i64 0, .string ⟨⟨[10]⟩⟩, .pointer (some ⟨b163m, 0, none⟩), .slice none 0 0], Ent.blk b146m [.pointer none, .pointer none, .pointer none, .pointer (some ⟨b164m, 0, none⟩)]] _ := hS.below hq.below
   rw [hX] at hS
   exact ⟨gL [], fun _ _ => rfl, hS.sel [0, 1, 2] rfl⟩
  ·intro o ho a w yg11n M Hb hv hO hS0
   obtain rfl := Option.some.inj ho
   have H : Fr 241 ([] ++ [(0, [], .pointer (some ⟨b3m, 0, none⟩)), (1, [], .string ⟨⟨[13]⟩⟩), (2, [], .string ⟨⟨[10]⟩⟩), (3, [], .int .i64 6), (4, [], .pointer (some ⟨b3m, 0, none⟩)), (14, [], .int .u8 3)]) _ := Hb
   obtain ⟨X, hX⟩ : ∃ X, X = fpl [] := ⟨_, rfl⟩
   have hS : SH M X w [] w := by rw [hX]; exact hS0
   refine Stp.mono (o_evs [] (.string ⟨⟨[13]⟩⟩) none [] H rfl (by kernel_rfl) (fun q e => by cases e)) ?_
   rintro v w2 ⟨rfl, hq⟩
   replace hS : SH M X w [] _ := hS.below hq.below
   rw [hX] at hS
   exact ⟨gL [], fun _ _ => rfl, hS.sel [] rfl⟩
  ·intro o ho a w yg11n M Hb hv hO hS0
   obtain rfl := Option.some.inj ho
   have H : Fr 241 ([(219, [], .string ⟨⟨[13]⟩⟩)] ++ [(0, [], .pointer (some ⟨b3m, 0, none⟩)), (1, [], .string ⟨⟨[13]⟩⟩), (2, [], .string ⟨⟨[10]⟩⟩), (3, [], .int .i64 6), (4, [], .pointer (some ⟨b3m, 0, none⟩)), (14, [], .int .u8 3)]) _ := (Hb).add (hv 7 (by decide) (by decide) 219 rfl)
   obtain ⟨X, hX⟩ : ∃ X, X = fpl [] := ⟨_, rfl⟩
   have hS : SH M X w [] w := by rw [hX]; exact hS0
   refine Stp.mono (o_evs [] (.string ⟨⟨[]⟩⟩) (some (fun _ => 0 ≤ (1 : Int) ∧ (1 : Int) ≤ ln ([13] : Str))) [] H rfl (by kernel_rfl) (fun q e => by cases e; exact (show 0 ≤ (1 : Int) ∧ (1 : Int) ≤ ln ([13] : Str) from by decide))) ?_
   rintro v w2 ⟨rfl, hq⟩
   replace hS : SH M X w [] _ := hS.below hq.below
   rw [hX] at hS
   exact ⟨gL [], fun _ _ => rfl, hS.sel [] rfl⟩
  ·intro o ho a w yg11n M Hb hv hO hS0
   obtain rfl := Option.some.inj ho
   have H : Fr 241 ([] ++ [(0, [], .pointer (some ⟨b3m, 0, none⟩)), (1, [], .string ⟨⟨[13]⟩⟩), (2, [], .string ⟨⟨[10]⟩⟩), (3, [], .int .i64 6), (4, [], .pointer (some ⟨b3m, 0, none⟩)), (14, [], .int .u8 3)]) _ := Hb
   obtain ⟨X, hX⟩ : ∃ X, X = fpl [] := ⟨_, rfl⟩
   have hS : SH M X w [] w := by rw [hX]; exact hS0
   refine Stp.mono (o_evs [] (.string ⟨⟨[10]⟩⟩) none [] H rfl (by kernel_rfl) (fun q e => by cases e)) ?_
   rintro v w2 ⟨rfl, hq⟩
   replace hS : SH M X w [] _ := hS.below hq.below
   rw [hX] at hS
   exact ⟨gL [], fun _ _ => rfl, hS.sel [] rfl⟩
  ·intro o ho a w yg11n M Hb hv hO hS0
   obtain rfl := Option.some.inj ho
   have H : Fr 241 ([] ++ [(0, [], .pointer (some ⟨b3m, 0, none⟩)), (1, [], .string ⟨⟨[13]⟩⟩), (2, [], .string ⟨⟨[10]⟩⟩), (3, [], .int .i64 6), (4, [], .pointer (some ⟨b3m, 0, none⟩)), (14, [], .int .u8 3)]) _ := Hb
   obtain ⟨X, hX⟩ : ∃ X, X = fpl [] := ⟨_, rfl⟩
   have hS : SH M X w [] w := by rw [hX]; exact hS0
   refine Stp.mono (o_evs [] (.int .i64 6) none [] H rfl (by kernel_rfl) (fun q e => by cases e)) ?_
   rintro v w2 ⟨rfl, hq⟩
   replace hS : SH M X w [] _ := hS.below hq.below
   rw [hX] at hS
   exact ⟨gL [], fun _ _ => rfl, hS.sel [] rfl⟩
  ·intro o ho a w yg11n M Hb hv hO hS0
   obtain rfl := Option.some.inj ho
   have H : Fr 241 ([] ++ [(0, [], .pointer (some ⟨b3m, 0, none⟩)), (1, [], .string ⟨⟨[13]⟩⟩), (2, [], .string ⟨⟨[10]⟩⟩), (3, [], .int .i64 6), (4, [], .pointer (some ⟨b3m, 0, none⟩)), (14, [], .int .u8 3)]) _ := Hb
   obtain ⟨X, hX⟩ : ∃ X, X = fpl [Ent.blk b163m [.string ⟨⟨[10]⟩⟩, .int .i64 8, .string ⟨⟨[]⟩⟩, .pointer none, .slice none 0 0], Ent.blk b164m [.string ⟨⟨[]⟩⟩, .int .i64 0, .string ⟨⟨[10]⟩⟩, .pointer (some ⟨b163m, 0, none⟩), .slice none 0 0], Ent.blk b146m [.pointer none, .pointer none, .pointer none, .pointer (some ⟨b164m, 0, none⟩)], Ent.mix .u8 b3m [.string ⟨⟨[]⟩⟩, .int .i64 0, .string ⟨⟨[]⟩⟩, .pointer none, .slice (some ⟨b146m, 0, none⟩) 4 4, .int .i64 4] gmap (256 : Int)] := ⟨_, rfl⟩
   have hS : SH M X w [Ent.blk b163m [.string ⟨⟨[10]⟩⟩, .int .i64 8, .string ⟨⟨[]⟩⟩, .pointer none, .slice none 0 0], Ent.blk b164m [.string ⟨⟨[]⟩⟩, .int .i64 0, .string ⟨⟨[10]⟩⟩, .pointer (some ⟨b163m, 0, none⟩), .slice none 0 0], Ent.blk b146m [.pointer none, .pointer none, .pointer none, .pointer (some ⟨b164m, 0, none⟩)], Ent.mix .u8 b3m [.string ⟨⟨[]⟩⟩, .int .i64 0, .string ⟨⟨[]⟩⟩, .pointer none, .slice (some ⟨b146m, 0, none⟩) 4 4, .int .i64 4] gmap (256 : Int)] w := by rw [hX]; exact hS0
   refine Stp.mono (o_evs [] (.pointer (some ⟨b3m, 0, none⟩)) none [] H rfl (by kernel_rfl) (fun q e => by cases e)) ?_
   rintro v w2 ⟨rfl, hq⟩
   replace hS : SH M X w [Ent.blk b163m [.string ⟨⟨[10]⟩⟩, .int .i64 8, .string ⟨⟨[]⟩⟩, .pointer none, .slice none 0 0], Ent.blk b164m [.string ⟨⟨[]⟩⟩, .int .i64 0, .string ⟨⟨[10]⟩⟩, .pointer (some ⟨b163m, 0, none⟩), .slice none 0 0], Ent.blk b146m [.pointer none, .pointer none, .pointer none, .pointer (some ⟨b164m, 0, none⟩)], Ent.mix .u8 b3m [.string ⟨⟨[]⟩⟩, .int .i64 0, .string ⟨⟨[]⟩⟩, .pointer none, .slice (some ⟨b146m, 0, none⟩) 4 4, .int .i64 4] gmap (256 : Int)] _ := hS.below hq.below
   rw [hX] at hS
   exact ⟨gL [], fun _ _ => rfl, hS.sel [0, 1, 2, 3] rfl⟩
  ·intro o ho a w yg11n M Hb hv hO hS0
   obtain rfl := Option.some.inj ho
   have H : Fr 241 ([(223, [], .pointer (some ⟨b3m, 0, none⟩)), (222, [], .int .i64 6), (221, [], .string ⟨⟨[10]⟩⟩), (220, [], .string ⟨⟨[]⟩⟩), (218, [], .pointer (some ⟨b164m, 0, none⟩))] ++ [(0, [], .pointer (some ⟨b3m, 0, none⟩)), (1, [], .string ⟨⟨[13]⟩⟩), (2, [], .string ⟨⟨[10]⟩⟩), (3, [], .int .i64 6), (4, [], .pointer (some ⟨b3m, 0, none⟩)), (14, [], .int .u8 3)]) _ := (((((Hb).add (hv 6 (by decide) (by decide) 218 rfl)).add (hv 8 (by decide) (by decide) 220 rfl)).add (hv 9 (by decide) (by decide) 221 rfl)).add (hv 10 (by decide) (by decide) 222 rfl)).add (hv 11 (by decide) (by decide) 223 rfl)
   obtain ⟨X, hX⟩ : ∃ X, X = fpl [Ent.blk b163m [.string ⟨⟨[10]⟩⟩, .int .i64 8, .string ⟨⟨[]⟩⟩, .pointer none, .slice none 0 0], Ent.blk b164m [.string ⟨⟨[]⟩⟩, .int .i64 0, .string ⟨⟨[10]⟩⟩, .pointer (some ⟨b163m, 0, none⟩), .slice none 0 0], Ent.blk b146m [.pointer none, .pointer none, .pointer none, .pointer (some ⟨b164m, 0, none⟩)], Ent.mix .u8 b3m [.string ⟨⟨[]⟩⟩, .int .i64 0, .string ⟨⟨[]⟩⟩, .pointer none, .slice (some ⟨b146m, 0, none⟩) 4 4, .int .i64 4] gmap (256 : Int)] := ⟨_, rfl⟩
   have hS : SH M X w [Ent.blk b163m [.string ⟨⟨[10]⟩⟩, .int .i64 8, .string ⟨⟨[]⟩⟩, .pointer none, .slice none 0 0], Ent.blk b164m [.string ⟨⟨[]⟩⟩, .int .i64 0, .string ⟨⟨[10]⟩⟩, .pointer (some ⟨b163m, 0, none⟩), .slice none 0 0], Ent.blk b146m [.pointer none, .pointer none, .pointer none, .pointer (some ⟨b164m, 0, none⟩)], Ent.mix .u8 b3m [.string ⟨⟨[]⟩⟩, .int .i64 0, .string ⟨⟨[]⟩⟩, .pointer none, .slice (some ⟨b146m, 0, none⟩) 4 4, .int .i64 4] gmap (256 : Int)] w := by rw [hX]; exact hS0
   have hd := hS.hand [0, 1, 2, 3] [] rfl rfl
   refine Stp.mono (o_callx H rfl rfl (strings_trieNode_add_cs5 _ _ hd)) ?_
   rintro v w2 hq
   obtain ⟨rfl, hq⟩ := hq
   replace hS : SH M X w [Ent.blk b164m [.string ⟨⟨[10]⟩⟩, .int .i64 6, .string ⟨⟨[10]⟩⟩, .pointer (some ⟨b163m, 0, none⟩), .slice none 0 0], Ent.blk b163m [.string ⟨⟨[10]⟩⟩, .int .i64 8, .string ⟨⟨[]⟩⟩, .pointer none, .slice none 0 0], Ent.blk b146m [.pointer none, .pointer none, .pointer none, .pointer (some ⟨b164m, 0, none⟩)], Ent.mix .u8 b3m [.string ⟨⟨[]⟩⟩, .int .i64 0, .string ⟨⟨[]⟩⟩, .pointer none, .slice (some ⟨b146m, 0, none⟩) 4 4, .int .i64 4] gmap (256 : Int)] _ := hS.join [0, 1, 2, 3] [] rfl rfl hq
   clear hq
   rw [hX] at hS
   exact ⟨gL [], fun _ _ => rfl, hS.sel [0, 1, 2, 3] rfl⟩
 have H14n : Fr 241 [] _ := (FrG.keep (ks := []) H13n (by kernel_rfl))
 replace hS : SH M X w [Ent.blk b164m [.string ⟨⟨[10]⟩⟩, .int .i64 6, .string ⟨⟨[10]⟩⟩, .pointer (some ⟨b163m, 0, none⟩), .slice none 0 0], Ent.blk b163m [.string ⟨⟨[10]⟩⟩, .int .i64 8, .string ⟨⟨[]⟩⟩, .pointer none, .slice none 0 0], Ent.blk b146m [.pointer none, .pointer none, .pointer none, .pointer (some ⟨b164m, 0, none⟩)], Ent.mix .u8 b3m [.string ⟨⟨[]⟩⟩, .int .i64 0, .string ⟨⟨[]⟩⟩, .pointer none, .slice (some ⟨b146m, 0, none⟩) 4 4, .int .i64 4] gmap (256 : Int)] _ := hS
 clear hv H13n
 try dsimp only
 exact retR0 H14n rfl ⟨_, rfl, rfl, (hS.sel [0, 1, 2, 3] rfl)⟩

theorem strings_trieNode_add_cs7 {b3m : Nat} {b146m : Nat} {b163m : Nat} {b164m : Nat} {b13n : Nat} (M : Av) (w : World) (hS : S0 M [Ent.blk b146m [.pointer none, .pointer none, .pointer (some ⟨b13n, 0, none⟩), .pointer (some ⟨b164m, 0, none⟩)], Ent.blk b13n [.string ⟨⟨[]⟩⟩, .int .i64 0, .string ⟨⟨[]⟩⟩, .pointer none, .slice none 0 0], Ent.blk b164m [.string ⟨⟨[10]⟩⟩, .int .i64 6, .string ⟨⟨[10]⟩⟩, .pointer (some ⟨b163m, 0, none⟩), .slice none 0 0], Ent.blk b163m [.string ⟨⟨[10]⟩⟩, .int .i64 8, .string ⟨⟨[]⟩⟩, .pointer none, .slice none 0 0], Ent.mix .u8 b3m [.string ⟨⟨[]⟩⟩, .int .i64 0, .string ⟨⟨[]⟩⟩, .pointer none, .slice (some ⟨b146m, 0, none⟩) 4 4, .int .i64 4] gmap (256 : Int)] w) : DoesX Try.prog 67 ⟨[.pointer (some ⟨b13n, 0, none⟩), .string ⟨⟨[]⟩⟩, .string ⟨⟨[10]⟩⟩, .int .i64 4, .pointer (some ⟨b3m, 0, none⟩)]⟩ w (fun v w' => v = .tuple ⟨[]⟩ ∧ SH M (fpl [Ent.blk b146m [.pointer none, .pointer none, .pointer (some ⟨b13n, 0, none⟩), .pointer (some ⟨b164m, 0, none⟩)], Ent.blk b13n [.string ⟨⟨[]⟩⟩, .int .i64 0, .string ⟨⟨[]⟩⟩, .pointer none, .slice none 0 0], Ent.blk b164m [.string ⟨⟨[10]⟩⟩, .int .i64 6, .string ⟨⟨[10]⟩⟩, .pointer (some ⟨b163m, 0, none⟩), .slice none 0 0], Ent.blk b163m [.string ⟨⟨[10]⟩⟩, .int .i64 8, .string ⟨⟨[]⟩⟩, .pointer none, .slice none 0 0], Ent.mix .u8 b3m [.string ⟨⟨[]⟩⟩, .int .i64 0, .string ⟨⟨[]⟩⟩, .pointer none, .slice (some ⟨b146m, 0, none⟩) 4 4, .int .i64 4] gmap (256 : Int)]) w [Ent.blk b13n [.string ⟨⟨[10]⟩⟩, .int .i64 4, .string ⟨⟨[]⟩⟩, .pointer none, .slice none 0 0], Ent.blk b146m [.pointer none, .pointer none, .pointer (some ⟨b13n, 0, none⟩), .pointer (some ⟨b164m, 0, none⟩)], Ent.blk b164m [.string ⟨⟨[10]⟩⟩, .int .i64 6, .string ⟨⟨[10]⟩⟩, .pointer (some ⟨b163m, 0, none⟩), .slice none 0 0], Ent.blk b163m [.string ⟨⟨[10]⟩⟩, .int .i64 8, .string ⟨⟨[]⟩⟩, .pointer none, .slice none 0 0], Ent.mix .u8 b3m [.string ⟨⟨[]⟩⟩, .int .i64 0, .string ⟨⟨[]⟩⟩, .pointer none, .slice (some ⟨b146m, 0, none⟩) 4 4, .int .i64 4] gmap (256 : Int)] w') := by
 refine ⟨Try.call67 _, ?_⟩
 have hS0 : SH M (fpl [Ent.blk b146m [.pointer none, .pointer none, .pointer (some ⟨b13n, 0, none⟩), .pointer (some ⟨b164m, 0, none⟩)], Ent.blk b13n [.string ⟨⟨[]⟩⟩, .int .i64 0, .string ⟨⟨[]⟩⟩, .pointer none, .slice none 0 0], Ent.blk b164m [.string ⟨⟨[10]⟩⟩, .int .i64 6, .string ⟨⟨[10]⟩⟩, .pointer (some ⟨b163m, 0, none⟩), .slice none 0 0], Ent.blk b163m [.string ⟨⟨[10]⟩⟩, .int .i64 8, .string ⟨⟨[]⟩⟩, .pointer none, .slice none 0 0], Ent.mix .u8 b3m [.string ⟨⟨[]⟩⟩, .int .i64 0, .string ⟨⟨[]⟩⟩, .pointer none, .slice (some ⟨b146m, 0, none⟩) 4 4, .int .i64 4] gmap (256 : Int)]) w [Ent.blk b146m [.pointer none, .pointer none, .pointer (some ⟨b13n, 0, none⟩), .pointer (some ⟨b164m, 0, none⟩)], Ent.blk b13n [.string ⟨⟨[]⟩⟩, .int .i64 0, .string ⟨⟨[]⟩⟩, .pointer none, .slice none 0 0], Ent.blk b164m [.string ⟨⟨[10]⟩⟩, .int .i64 6, .string ⟨⟨[10]⟩⟩, .pointer (some ⟨b163m, 0, none⟩), .slice none 0 0], Ent.blk b163m [.string ⟨⟨[10]⟩⟩, .int .i64 8, .string ⟨⟨[]⟩⟩, .pointer none, .slice none 0 0], Ent.mix .u8 b3m [.string ⟨⟨[]⟩⟩, .int .i64 0, .string ⟨⟨[]⟩⟩, .pointer none, .slice (some ⟨b146m, 0, none⟩) 4 4, .int .i64 4] gmap (256 : Int)] w := hS
 generalize hX : fpl [Ent.blk b146m [.pointer none, .pointer none, .pointer (some ⟨b13n, 0, none⟩), .pointer (some ⟨b164m, 0, none⟩)], Ent.blk b13n [.string ⟨⟨[]⟩⟩, .int .i64 0, .string ⟨⟨[]⟩⟩, .pointer none, .slice none 0 0], Ent.blk b164m [.string ⟨⟨[10]⟩⟩, .int .i64 6, .string ⟨⟨[10]⟩⟩, .pointer (some ⟨b163m, 0, none⟩), .slice none 0 0], Ent.blk b163m [.string ⟨⟨[10]⟩⟩, .int .i64 8, .string ⟨⟨[]⟩⟩, .pointer none, .slice none 0 0], Ent.mix .u8 b3m [.string ⟨⟨[]⟩⟩, .int .i64 0, .string ⟨⟨[]⟩⟩, .pointer none, .slice (some ⟨b146m, 0, none⟩) 4 4, .int .i64 4] gmap (256 : Int)] = X at hS0 ⊢
 clear hS hX
 have hS := hS0
 clear hS0
 refine calls_entryP Try.func67 rfl Try.ntmps67 rfl fun _ H => ?_
 refine w_seq ?_
 refine s_reg [] [0, 1, 2, 3, 4, 16] [(0, [], .pointer (some ⟨b13n, 0, none⟩)), (1, [], .string ⟨⟨[]⟩⟩), (2, [], .string ⟨⟨[10]⟩⟩), (3, [], .int .i64 4), (4, [], .pointer (some ⟨b3m, 0, none⟩)), (16, [], .bool true)] [] H (by kernel_rfl) trivial fun _ wd1o H2o hb => ?_
 clear H
 replace hS := hS.below hb
 clear hb
 refine w_if H2o rfl (fun _ => ?_) (fun hc => by cases hc)
 refine w_seq ?_
 refine s_reg [(.int .i64 0)] [0, 2, 3, 21] [(0, [], .pointer (some ⟨b13n, 0, none⟩)), (2, [], .string ⟨⟨[10]⟩⟩), (3, [], .int .i64 4), (21, [], .bool true)] [fun wz => V.at1 ⟨b13n, 1, none⟩ (.int .i64 0) wz] H2o (by kernel_rfl) ⟨((hS.bk 1 rfl).at1 rfl), trivial⟩ fun _ wd3o H4o hb => ?_
 clear H2o
 replace hS := hS.below hb
 clear hb
 refine w_if H4o rfl (fun _ => ?_) (fun hc => by cases hc)
 refine w_seq ?_
 refine wl_start ?_
 refine wl_batch 0 4 [] [0, 3, 23, 25] [(0, [], .pointer (some ⟨b13n, 0, none⟩)), (3, [], .int .i64 4), (23, [], .string ⟨⟨[10]⟩⟩), (25, [], .pointer (some ⟨b13n, 0, none⟩))] [] H4o (by decide) (by kernel_rfl) trivial fun _ wd5o H6o hb => ?_
 clear H4o
 replace hS := hS.below hb
 clear hb
 have hd := hS.hand [1] [0, 2, 3, 4] rfl rfl
 refine m_stp0 [0, 3] [(0, [], .pointer (some ⟨b13n, 0, none⟩)), (3, [], .int .i64 4)] H6o rfl rfl rfl (o_store [.string ⟨⟨[10]⟩⟩, .int .i64 0, .string ⟨⟨[]⟩⟩, .pointer none, .slice none 0 0] H6o hd rfl rfl (by kernel_rfl) rfl rfl rfl) rfl fun _ wd7o H8o hq => ?_
 clear H6o hd
 obtain ⟨_, hq⟩ := hq
 replace hS : SH M X w [Ent.blk b13n [.string ⟨⟨[10]⟩⟩, .int .i64 0, .string ⟨⟨[]⟩⟩, .pointer none, .slice none 0 0], Ent.blk b146m [.pointer none, .pointer none, .pointer (some ⟨b13n, 0, none⟩), .pointer (some ⟨b164m, 0, none⟩)], Ent.blk b164m [.string ⟨⟨[10]⟩⟩, .int .i64 6, .string ⟨⟨[10]⟩⟩, .pointer (some ⟨b163m, 0, none⟩), .slice none 0 0], Ent.blk b163m [.string ⟨⟨[10]⟩⟩, .int .i64 8, .string ⟨⟨[]⟩⟩, .pointer none, .slice none 0 0], Ent.mix .u8 b3m [.string ⟨⟨[]⟩⟩, .int .i64 0, .string ⟨⟨[]⟩⟩, .pointer none, .slice (some ⟨b146m, 0, none⟩) 4 4, .int .i64 4] gmap (256 : Int)] _ := hS.join [1] [0, 2, 3, 4] rfl rfl hq
 clear hq
 refine wl_end rfl ?_
 refine wl_start ?_
 refine wl_batch 0 4 [] [27, 29] [(27, [], .int .i64 4), (29, [], .pointer (some ⟨b13n, 1, none⟩))] [] H8o (by decide) (by kernel_rfl) trivial fun _ wd9o H10o hb => ?_
 clear H8o
 replace hS := hS.below hb
 clear hb
 have hd := hS.hand [0] [1, 2, 3, 4] rfl rfl
 refine m_stp0 [] [] H10o rfl rfl rfl (o_store [.string ⟨⟨[10]⟩⟩, .int .i64 4, .string ⟨⟨[]⟩⟩, .pointer none, .slice none 0 0] H10o hd rfl rfl (by kernel_rfl) rfl rfl rfl) rfl fun _ wd11o H12o hq => ?_
 clear H10o hd
 obtain ⟨_, hq⟩ := hq
 replace hS : SH M X w [Ent.blk b13n [.string ⟨⟨[10]⟩⟩, .int .i64 4, .string ⟨⟨[]⟩⟩, .pointer none, .slice none 0 0], Ent.blk b146m [.pointer none, .pointer none, .pointer (some ⟨b13n, 0, none⟩), .pointer (some ⟨b164m, 0, none⟩)], Ent.blk b164m [.string ⟨⟨[10]⟩⟩, .int .i64 6, .string ⟨⟨[10]⟩⟩, .pointer (some ⟨b163m, 0, none⟩), .slice none 0 0], Ent.blk b163m [.string ⟨⟨[10]⟩⟩, .int .i64 8, .string ⟨⟨[]⟩⟩, .pointer none, .slice none 0 0], Ent.mix .u8 b3m [.string ⟨⟨[]⟩⟩, .int .i64 0, .string ⟨⟨[]⟩⟩, .pointer none, .slice (some ⟨b146m, 0, none⟩) 4 4, .int .i64 4] gmap (256 : Int)] _ := hS.join [0] [1, 2, 3, 4] rfl rfl hq
 clear hq
 refine wl_end rfl ?_
 refine w_ret ?_
 try dsimp only
 exact retR0 H12o rfl ⟨_, rfl, rfl, (hS.sel [0, 1, 2, 3, 4] rfl)⟩

theorem strings_trieNode_add_cs6 {b3m : Nat} {b146m : Nat} {b163m : Nat} {b164m : Nat} (M : Av) (w : World) (hS : S0 M [Ent.blk b164m [.string ⟨⟨[10]⟩⟩, .int .i64 6, .string ⟨⟨[10]⟩⟩, .pointer (some ⟨b163m, 0, none⟩), .slice none 0 0], Ent.blk b163m [.string ⟨⟨[10]⟩⟩, .int .i64 8, .string ⟨⟨[]⟩⟩, .pointer none, .slice none 0 0], Ent.blk b146m [.pointer none, .pointer none, .pointer none, .pointer (some ⟨b164m, 0, none⟩)], Ent.mix .u8 b3m [.string ⟨⟨[]⟩⟩, .int .i64 0, .string ⟨⟨[]⟩⟩, .pointer none, .slice (some ⟨b146m, 0, none⟩) 4 4, .int .i64 4] gmap (256 : Int)] w) : DoesX Try.prog 67 ⟨[.pointer (some ⟨b3m, 0, none⟩), .string ⟨⟨[12]⟩⟩, .string ⟨⟨[10]⟩⟩, .int .i64 4, .pointer (some ⟨b3m, 0, none⟩)]⟩ w (fun v w' => ∃ (b13n : Nat), v = .tuple ⟨[]⟩ ∧ SH M (fpl [Ent.blk b164m [.string ⟨⟨[10]⟩⟩, .int .i64 6, .string ⟨⟨[10]⟩⟩, .pointer (some ⟨b163m, 0, none⟩), .slice none 0 0], Ent.blk b163m [.string ⟨⟨[10]⟩⟩, .int .i64 8, .string ⟨⟨[]⟩⟩, .pointer none, .slice none 0 0], Ent.blk b146m [.pointer none, .pointer none, .pointer none, .pointer (some ⟨b164m, 0, none⟩)], Ent.mix .u8 b3m [.string ⟨⟨[]⟩⟩, .int .i64 0, .string ⟨⟨[]⟩⟩, .pointer none, .slice (some ⟨b146m, 0, none⟩) 4 4, .int .i64 4] gmap (256 : Int)]) w [Ent.blk b13n [.string ⟨⟨[10]⟩⟩, .int .i64 4, .string ⟨⟨[]⟩⟩, .pointer none, .slice none 0 0], Ent.blk b146m [.pointer none, .pointer none, .pointer (some ⟨b13n, 0, none⟩), .pointer (some ⟨b164m, 0, none⟩)], Ent.blk b164m [.string ⟨⟨[10]⟩⟩, .int .i64 6, .string ⟨⟨[10]⟩⟩, .pointer (some ⟨b163m, 0, none⟩), .slice none 0 0], Ent.blk b163m [.string ⟨⟨[10]⟩⟩, .int .i64 8, .string ⟨⟨[]⟩⟩, .pointer none, .slice none 0 0], Ent.mix .u8 b3m [.string ⟨⟨[]⟩⟩, .int .i64 0, .string ⟨⟨[]⟩⟩, .pointer none, .slice (some ⟨b146m, 0, none⟩) 4 4, .int .i64 4] gmap (256 : Int)] w') := by
 refine ⟨Try.call67 _, ?_⟩
 have hS0 : SH M (fpl [Ent.blk b164m [.string ⟨⟨[10]⟩⟩, .int .i64 6, .string ⟨⟨[10]⟩⟩, .pointer (some ⟨b163m, 0, none⟩), .slice none 0 0], Ent.blk b163m [.string ⟨⟨[10]⟩⟩, .int .i64 8, .string ⟨⟨[]⟩⟩, .pointer none, .slice none 0 0], Ent.blk b146m [.pointer none, .pointer none, .pointer none, .pointer (some ⟨b164m, 0, none⟩)], Ent.mix .u8 b3m [.string ⟨⟨[]⟩⟩, .int .i64 0, .string ⟨⟨[]⟩⟩, .pointer none, .slice (some ⟨b146m, 0, none⟩) 4 4, .int .i64 4] gmap (256 : Int)]) w [Ent.blk b164m [.string ⟨⟨[10]⟩⟩, .int .i64 6, .string ⟨⟨[10]⟩⟩, .pointer (some ⟨b163m, 0, none⟩), .slice none 0 0], Ent.blk b163m [.string ⟨⟨[10]⟩⟩, .int .i64 8, .string ⟨⟨[]⟩⟩, .pointer none, .slice none 0 0], Ent.blk b146m [.pointer none, .pointer none, .pointer none, .pointer (some ⟨b164m, 0, none⟩)], Ent.mix .u8 b3m [.string ⟨⟨[]⟩⟩, .int .i64 0, .string ⟨⟨[]⟩⟩, .pointer none, .slice (some ⟨b146m, 0, none⟩) 4 4, .int .i64 4] gmap (256 : Int)] w := hS
 generalize hX : fpl [Ent.blk b164m [.string ⟨⟨[10]⟩⟩, .int .i64 6, .string ⟨⟨[10]⟩⟩, .pointer (some ⟨b163m, 0, none⟩), .slice none 0 0], Ent.blk b163m [.string ⟨⟨[10]⟩⟩, .int .i64 8, .string ⟨⟨[]⟩⟩, .pointer none, .slice none 0 0], Ent.blk b146m [.pointer none, .pointer none, .pointer none, .pointer (some ⟨b164m, 0, none⟩)], Ent.mix .u8 b3m [.string ⟨⟨[]⟩⟩, .int .i64 0, .string ⟨⟨[]⟩⟩, .pointer none, .slice (some ⟨b146m, 0, none⟩) 4 4, .int .i64 4] gmap (256 : Int)] = X at hS0 ⊢
 clear hS hX
 have hS := hS0
 clear hS0
 refine calls_entryP Try.func67 rfl Try.ntmps67 rfl fun _ H => ?_
 refine w_seq ?_
 refine s_reg [] [0, 1, 2, 3, 4, 16] [(0, [], .pointer (some ⟨b3m, 0, none⟩)), (1, [], .string ⟨⟨[12]⟩⟩), (2, [], .string ⟨⟨[10]⟩⟩), (3, [], .int .i64 4), (4, [], .pointer (some ⟨b3m, 0, none⟩)), (16, [], .bool false)] [] H (by kernel_rfl) trivial fun _ wd1n H2n hb => ?_
 clear H
 replace hS := hS.below hb
 clear hb
 refine w_if H2n rfl (fun hc => by cases hc) (fun _ => ?_)
 refine w_skip ?_
 refine s_reg [(.string ⟨⟨[]⟩⟩)] [0, 1, 2, 3, 4, 34] [(0, [], .pointer (some ⟨b3m, 0, none⟩)), (1, [], .string ⟨⟨[12]⟩⟩), (2, [], .string ⟨⟨[10]⟩⟩), (3, [], .int .i64 4), (4, [], .pointer (some ⟨b3m, 0, none⟩)), (34, [], .bool false)] [fun wz => V.at1 ⟨b3m, 2, none⟩ (.string ⟨⟨[]⟩⟩) wz] H2n (by kernel_rfl) ⟨((hS.mix 3 rfl).1.at1 rfl), trivial⟩ fun _ wd3n H4n hb => ?_
 clear H2n
 replace hS := hS.below hb
 clear hb
 refine w_if H4n rfl (fun hc => by cases hc) (fun _ => ?_)
 refine s_reg [(.slice (some ⟨b146m, 0, none⟩) 4 4)] [0, 1, 2, 3, 4, 189] [(0, [], .pointer (some ⟨b3m, 0, none⟩)), (1, [], .string ⟨⟨[12]⟩⟩), (2, [], .string ⟨⟨[10]⟩⟩), (3, [], .int .i64 4), (4, [], .pointer (some ⟨b3m, 0, none⟩)), (189, [], .bool true)] [fun wz => V.at1 ⟨b3m, 4, none⟩ (.slice (some ⟨b146m, 0, none⟩) 4 4) wz] H4n (by kernel_rfl) ⟨((hS.mix 3 rfl).1.at1 rfl), trivial⟩ fun _ wd5n H6n hb => ?_
 clear H4n
 replace hS := hS.below hb
 clear hb
 refine w_if H6n rfl (fun _ => ?_) (fun hc => by cases hc)
 refine s_draw [(.int .u8 2)] [0, 1, 2, 3, 4, 14] [(0, [], .pointer (some ⟨b3m, 0, none⟩)), (1, [], .string ⟨⟨[12]⟩⟩), (2, [], .string ⟨⟨[10]⟩⟩), (3, [], .int .i64 4), (4, [], .pointer (some ⟨b3m, 0, none⟩)), (14, [], .int .u8 2)] [fun _ => 0 ≤ (0 : Int) ∧ (0 : Int) < ln ([12] : Str), fun _ => 0 ≤ (12 : Int) ∧ (12 : Int) < (256 : Int), fun wz => V.at1 ⟨b3m, 6 + ((12 : Int)).toNat * 1, none⟩ (.int .u8 2) wz] H6n (by kernel_rfl) (by kernel_rfl) (by kernel_rfl) ⟨(show 0 ≤ (0 : Int) ∧ (0 : Int) < ln ([12] : Str) from by decide), (show 0 ≤ (12 : Int) ∧ (12 : Int) < (256 : Int) from by decide), (Mix.ixn (hS.mix 3 rfl) rfl (show 0 ≤ (12 : Int) ∧ (12 : Int) < (256 : Int) from by decide)), trivial⟩ fun _ wd7n H8n hb => ?_
 clear H6n
 replace hS := hS.below hb
 clear hb
 refine w_seq ?_
 refine s_reg [(.slice (some ⟨b146m, 0, none⟩) 4 4), (.pointer none)] [0, 1, 2, 3, 4, 14, 204] [(0, [], .pointer (some ⟨b3m, 0, none⟩)), (1, [], .string ⟨⟨[12]⟩⟩), (2, [], .string ⟨⟨[10]⟩⟩), (3, [], .int .i64 4), (4, [], .pointer (some ⟨b3m, 0, none⟩)), (14, [], .int .u8 2), (204, [], .bool true)] [fun wz => V.at1 ⟨b3m, 4, none⟩ (.slice (some ⟨b146m, 0, none⟩) 4 4) wz, fun _ => oka (some ⟨b146m, 0, none⟩) ∧ 0 ≤ (2 : Int) ∧ (2 : Int) < 4, fun wz => V.at1 ⟨b146m, 2, none⟩ (.pointer none) wz] H8n (by kernel_rfl) ⟨((hS.mix 3 rfl).1.at1 rfl), (⟨rfl, (show 0 ≤ (2 : Int) ∧ (2 : Int) < 4 from by decide)⟩), ((hS.bk 2 rfl).at1 rfl), trivial⟩ fun _ wd9n H10n hb => ?_
 clear H8n
 replace hS := hS.below hb
 clear hb
 refine w_if H10n rfl (fun _ => ?_) (fun hc => by cases hc)
 refine wl_start ?_
 refine wl_batch 0 5 [(.slice (some ⟨b146m, 0, none⟩) 4 4)] [0, 1, 2, 3, 4, 14, 208, 209] [(0, [], .pointer (some ⟨b3m, 0, none⟩)), (1, [], .string ⟨⟨[12]⟩⟩), (2, [], .string ⟨⟨[10]⟩⟩), (3, [], .int .i64 4), (4, [], .pointer (some ⟨b3m, 0, none⟩)), (14, [], .int .u8 2), (208, [], .slice (some ⟨b146m, 0, none⟩) 4 4), (209, [], .int .u8 2)] [fun wz => V.at1 ⟨b3m, 4, none⟩ (.slice (some ⟨b146m, 0, none⟩) 4 4) wz] H10n (by decide) (by kernel_rfl) ⟨((hS.mix 3 rfl).1.at1 rfl), trivial⟩ fun _ wd11n H12n hb => ?_
 clear H10n
 replace hS := hS.below hb
 clear hb
 have hd := hS.hand [] [0, 1, 2, 3] rfl rfl
 refine m_stp [210, 0, 1, 2, 3, 4, 14, 208, 209] [(0, [], .pointer (some ⟨b3m, 0, none⟩)), (1, [], .string ⟨⟨[12]⟩⟩), (2, [], .string ⟨⟨[10]⟩⟩), (3, [], .int .i64 4), (4, [], .pointer (some ⟨b3m, 0, none⟩)), (14, [], .int .u8 2), (208, [], .slice (some ⟨b146m, 0, none⟩) 4 4), (209, [], .int .u8 2)] H12n rfl rfl rfl rfl (o_alloc [.string ⟨⟨[]⟩⟩, .int .i64 0, .string ⟨⟨[]⟩⟩, .pointer none, .slice none 0 0] (z := .agg ⟨[.string ⟨⟨[]⟩⟩, .int .i64 0, .string ⟨⟨[]⟩⟩, .pointer none, .slice none 0 0]⟩) hd (by kernel_rfl) rfl) (fun _ => rfl) fun _ wd14n v H15n hq => ?_
 clear H12n hd
 obtain ⟨b13n, rfl, hq⟩ := hq
 replace hS : SH M X w [Ent.blk b13n [.string ⟨⟨[]⟩⟩, .int .i64 0, .string ⟨⟨[]⟩⟩, .pointer none, .slice none 0 0], Ent.blk b164m [.string ⟨⟨[10]⟩⟩, .int .i64 6, .string ⟨⟨[10]⟩⟩, .pointer (some ⟨b163m, 0, none⟩), .slice none 0 0], Ent.blk b163m [.string ⟨⟨[10]⟩⟩, .int .i64 8, .string ⟨⟨[]⟩⟩, .pointer none, .slice none 0 0], Ent.blk b146m [.pointer none, .pointer none, .pointer none, .pointer (some ⟨b164m, 0, none⟩)], Ent.mix .u8 b3m [.string ⟨⟨[]⟩⟩, .int .i64 0, .string ⟨⟨[]⟩⟩, .pointer none, .slice (some ⟨b146m, 0, none⟩) 4 4, .int .i64 4] gmap (256 : Int)] _ := hS.join [] [0, 1, 2, 3] rfl rfl hq
 clear hq
 refine wl_batch 6 7 [] [0, 1, 2, 3, 4, 14, 210, 211] [(0, [], .pointer (some ⟨b3m, 0, none⟩)), (1, [], .string ⟨⟨[12]⟩⟩), (2, [], .string ⟨⟨[10]⟩⟩), (3, [], .int .i64 4), (4, [], .pointer (some ⟨b3m, 0, none⟩)), (14, [], .int .u8 2), (210, [], .pointer (some ⟨b13n, 0, none⟩)), (211, [], .pointer (some ⟨b146m, 2, none⟩))] [fun _ => oka (some ⟨b146m, 0, none⟩) ∧ 0 ≤ (2 : Int) ∧ (2 : Int) < 4] H15n (by decide) (by kernel_rfl) ⟨(⟨rfl, (show 0 ≤ (2 : Int) ∧ (2 : Int) < 4 from by decide)⟩), trivial⟩ fun _ wd16n H17n hb => ?_
 clear H15n
 replace hS := hS.below hb
 clear hb
 have hd := hS.hand [3] [0, 1, 2, 4] rfl rfl
 refine m_stp0 [0, 1, 2, 3, 4, 14] [(0, [], .pointer (some ⟨b3m, 0, none⟩)), (1, [], .string ⟨⟨[12]⟩⟩), (2, [], .string ⟨⟨[10]⟩⟩), (3, [], .int .i64 4), (4, [], .pointer (some ⟨b3m, 0, none⟩)), (14, [], .int .u8 2)] H17n rfl rfl rfl (o_store [.pointer none, .pointer none, .pointer (some ⟨b13n, 0, none⟩), .pointer (some ⟨b164m, 0, none⟩)] H17n hd rfl rfl (by kernel_rfl) rfl rfl rfl) rfl fun _ wd18n H19n hq => ?_
 clear H17n hd
 obtain ⟨_, hq⟩ := hq
 replace hS : SH M X w [Ent.blk b146m [.pointer none, .pointer none, .pointer (some ⟨b13n, 0, none⟩), .pointer (some ⟨b164m, 0, none⟩)], Ent.blk b13n [.string ⟨⟨[]⟩⟩, .int .i64 0, .string ⟨⟨[]⟩⟩, .pointer none, .slice none 0 0], Ent.blk b164m [.string ⟨⟨[10]⟩⟩, .int .i64 6, .string ⟨⟨[10]⟩⟩, .pointer (some ⟨b163m, 0, none⟩), .slice none 0 0], Ent.blk b163m [.string ⟨⟨[10]⟩⟩, .int .i64 8, .string ⟨⟨[]⟩⟩, .pointer none, .slice none 0 0], Ent.mix .u8 b3m [.string ⟨⟨[]⟩⟩, .int .i64 0, .string ⟨⟨[]⟩⟩, .pointer none, .slice (some ⟨b146m, 0, none⟩) 4 4, .int .i64 4] gmap (256 : Int)] _ := hS.join [3] [0, 1, 2, 4] rfl rfl hq
 clear hq
 refine wl_end rfl ?_
 refine w_drawS (base := [(0, [], .pointer (some ⟨b3m, 0, none⟩)), (1, [], .string ⟨⟨[12]⟩⟩), (2, [], .string ⟨⟨[10]⟩⟩), (3, [], .int .i64 4), (4, [], .pointer (some ⟨b3m, 0, none⟩)), (14, [], .int .u8 2)]) (L := [Ent.blk b146m [.pointer none, .pointer none, .pointer (some ⟨b13n, 0, none⟩), .pointer (some ⟨b164m, 0, none⟩)], Ent.blk b13n [.string ⟨⟨[]⟩⟩, .int .i64 0, .string ⟨⟨[]⟩⟩, .pointer none, .slice none 0 0], Ent.blk b164m [.string ⟨⟨[10]⟩⟩, .int .i64 6, .string ⟨⟨[10]⟩⟩, .pointer (some ⟨b163m, 0, none⟩), .slice none 0 0], Ent.blk b163m [.string ⟨⟨[10]⟩⟩, .int .i64 8, .string ⟨⟨[]⟩⟩, .pointer none, .slice none 0 0], Ent.mix .u8 b3m [.string ⟨⟨[]⟩⟩, .int .i64 0, .string ⟨⟨[]⟩⟩, .pointer none, .slice (some ⟨b146m, 0, none⟩) 4 4, .int .i64 4] gmap (256 : Int)]) 13 5 (fun yg20n => [.pointer (some ⟨b3m, 0, none⟩), .pointer (some ⟨b3m, 0, none⟩), .pointer (some ⟨b3m, 4, none⟩), .slice (some ⟨b146m, 0, none⟩) 4 4, .int .u8 2, .pointer (some ⟨b146m, 2, none⟩), .pointer (some ⟨b13n, 0, none⟩), .string ⟨⟨[12]⟩⟩, .string ⟨⟨[]⟩⟩, .string ⟨⟨[10]⟩⟩, .int .i64 4, .pointer (some ⟨b3m, 0, none⟩), .tuple ⟨[]⟩]) (fun yg20n => [[], [], [], [], [], [], [], [], [], [], [], [], [Ent.blk b13n [.string ⟨⟨[10]⟩⟩, .int .i64 4, .string ⟨⟨[]⟩⟩, .pointer none, .slice none 0 0]]]) [[13, 14, 15, 16, 17], [13, 14, 15, 16, 17], [13, 14, 15, 16, 17], [13, 14, 15, 16, 17], [], [13, 14, 15, 16], [13, 14, 15, 16], [], [], [], [], [13, 14, 15, 16, 17], [13, 14, 15, 16, 17]] [[], [], [], [], [], [], [], [], [], [], [], [], [14]] [[0], [0, 1], [0, 1, 2], [0, 1, 2, 3], [4], [0, 1, 2, 3, 4, 5], [0, 1, 2, 3, 4, 5, 6], [7], [7, 8], [9], [10], [11], [0, 1, 2, 3, 4, 5, 6, 7, 8, 9, 10, 11, 12]] [] (FrG.keep (ks := [0, 1, 2, 3, 4, 14]) H19n (by kernel_rfl)) (fun _ _ h => by cases h) (by kernel_rfl) hS (by kernel_rfl) rfl rfl (by kernel_rfl) (by kernel_rfl) (by kernel_rfl) (gd_none (by kernel_rfl) _ _) ?hloc_yg20n ?hstep_yg20n fun _ wd21n yg20n H22n hv hS => ?hK_yg20n
 case hloc_yg20n => exact ⟨(fun _ _ _ _ => ⟨rfl, rfl⟩), (fun _ _ _ _ => ⟨rfl, rfl⟩), (fun _ _ _ _ => ⟨rfl, rfl⟩), (fun _ _ _ _ => ⟨rfl, rfl⟩), (fun _ _ _ _ => ⟨rfl, rfl⟩), (fun _ _ _ _ => ⟨rfl, rfl⟩), (fun _ _ _ _ => ⟨rfl, rfl⟩), (fun _ _ _ _ => ⟨rfl, rfl⟩), (fun _ _ _ _ => ⟨rfl, rfl⟩), (fun _ _ _ _ => ⟨rfl, rfl⟩), (fun _ _ _ _ => ⟨rfl, rfl⟩), (fun _ _ _ _ => ⟨rfl, rfl⟩), (fun _ _ _ _ => ⟨rfl, rfl⟩), trivial⟩
 case hstep_yg20n =>
  refine ⟨?_, ?_, ?_, ?_, ?_, ?_, ?_, ?_, ?_, ?_, ?_, ?_, ?_, trivial⟩
  ·intro o ho a w yg20n M Hb hv hO hS0
   obtain rfl := Option.some.inj ho
   have H : Fr 241 ([] ++ [(0, [], .pointer (some ⟨b3m, 0, none⟩)), (1, [], .string ⟨⟨[12]⟩⟩), (2, [], .string ⟨⟨[10]⟩⟩), (3, [], .int .i64 4), (4, [], .pointer (some ⟨b3m, 0, none⟩)), (14, [], .int .u8 2)]) _ := Hb
   obtain ⟨X, hX⟩ : ∃ X, X = fpl [Ent.blk b146m [.pointer none, .pointer none, .pointer (some ⟨b13n, 0, none⟩), .pointer (some ⟨b164m, 0, none⟩)], Ent.blk b13n [.string ⟨⟨[]⟩⟩, .int .i64 0, .string ⟨⟨[]⟩⟩, .pointer none, .slice none 0 0], Ent.blk b164m [.string ⟨⟨[10]⟩⟩, .int .i64 6, .string ⟨⟨[10]⟩⟩, .pointer (some ⟨b163m, 0, none⟩), .slice none 0 0], Ent.blk b163m [.string ⟨⟨[10]⟩⟩, .int .i64 8, .string ⟨⟨[]⟩⟩, .pointer none, .slice none 0 0], Ent.mix .u8 b3m [.string ⟨⟨[]⟩⟩, .int .i64 0, .string ⟨⟨[]⟩⟩, .pointer none, .slice (some ⟨b146m, 0, none⟩) 4 4, .int .i64 4] gmap (256 : Int)] := ⟨_, rfl⟩
   have hS : SH M X w [Ent.blk b146m [.pointer none, .pointer none, .pointer (some ⟨b13n, 0, none⟩), .pointer (some ⟨b164m, 0, none⟩)], Ent.blk b13n [.string ⟨⟨[]⟩⟩, .int .i64 0, .string ⟨⟨[]⟩⟩, .pointer none, .slice none 0 0], Ent.blk b164m [.string ⟨⟨[10]⟩⟩, .int .i64 6, .string ⟨⟨[10]⟩⟩, .pointer (some ⟨b163m, 0, none⟩), .slice none 0 0], Ent.blk b163m [.string ⟨⟨[10]⟩⟩, .int .i64 8, .string ⟨⟨[]⟩⟩, .pointer none, .slice none 0 0], Ent.mix .u8 b3m [.string ⟨⟨[]⟩⟩, .int .i64 0, .string ⟨⟨[]⟩⟩, .pointer none, .slice (some ⟨b146m, 0, none⟩) 4 4, .int .i64 4] gmap (256 : Int)] w := by rw [hX]; exact hS0
   refine Stp.mono (o_evs [] (.pointer (some ⟨b3m, 0, none⟩)) none [] H rfl (by kernel_rfl) (fun q e => by cases e)) ?_
   rintro v w2 ⟨rfl, hq⟩
   replace hS : SH M X w [Ent.blk b146m [.pointer none, .pointer none, .pointer (some ⟨b13n, 0, none⟩), .pointer (some ⟨b164m, 0, none⟩)], Ent.blk b13n [.string ⟨⟨[]⟩⟩, .int .i64 0, .string ⟨⟨[]⟩⟩, .pointer none, .slice none 0 0], Ent.blk b164m [.string ⟨⟨[10]⟩⟩, .int .i64 6, .string ⟨⟨[10]⟩⟩, .pointer (some ⟨b163m, 0, none⟩), .slice none 0 0], Ent.blk b163m [.string ⟨⟨[10]⟩⟩, .int .i64 8, .string ⟨⟨[]⟩⟩, .pointer none, .slice none 0 0], Ent.mix .u8 b3m [.string ⟨⟨[]⟩⟩, .int .i64 0, .string ⟨⟨[]⟩⟩, .pointer none, .slice (some ⟨b146m, 0, none⟩) 4 4, .int .i64 4] gmap (256 : Int)] _ := hS.below hq.below
   rw [hX] at hS
   exact ⟨gL [], fun _ _ => rfl, hS.sel [0, 1, 2, 3, 4] rfl⟩
  ·intro o ho a w yg20n M Hb hv hO hS0
   obtain rfl := Option.some.inj ho
   have H : Fr 241 ([(212, [], .pointer (some ⟨b3m, 0, none⟩))] ++ [(0, [], .pointer (some ⟨b3m, 0, none⟩)), (1, [], .string ⟨⟨[12]⟩⟩), (2, [], .string ⟨⟨[10]⟩⟩), (3, [], .int .i64 4), (4, [], .pointer (some ⟨b3m, 0, none⟩)), (14, [], .int .u8 2)]) _ := (Hb).add (hv 0 (by decide) (by decide) 212 rfl)
   obtain ⟨X, hX⟩ : ∃ X, X = fpl [Ent.blk b146m [.pointer none, .pointer none, .pointer (some ⟨b13n, 0, none⟩), .pointer (some ⟨b164m, 0, none⟩)], Ent.blk b13n [.string ⟨⟨[]⟩⟩, .int .i64 0, .string ⟨⟨[]⟩⟩, .pointer none, .slice none 0 0], Ent.blk b164m [.string ⟨⟨[10]⟩⟩, .int .i64 6, .string ⟨⟨[10]⟩⟩, .pointer (some ⟨b163m, 0, none⟩), .slice none 0 0], Ent.blk b163m [.string ⟨⟨[10]⟩⟩, .int .i64 8, .string ⟨⟨[]⟩⟩, .pointer none, .slice none 0 0], Ent.mix .u8 b3m [.string ⟨⟨[]⟩⟩, .int .i64 0, .string ⟨⟨[]⟩⟩, .pointer none, .slice (some ⟨b146m, 0, none⟩) 4 4, .int .i64 4] gmap (256 : Int)] := ⟨_, rfl⟩
   have hS : SH M X w [Ent.blk b146m [.pointer none, .pointer none, .pointer (some ⟨b13n, 0, none⟩), .pointer (some ⟨b164m, 0, none⟩)], Ent.blk b13n [.string ⟨⟨[]⟩⟩, .int .i64 0, .string ⟨⟨[]⟩⟩, .pointer none, .slice none 0 0], Ent.blk b164m [.string ⟨⟨[10]⟩⟩, .int .i64 6, .string ⟨⟨[10]⟩⟩, .pointer (some ⟨b163m, 0, none⟩), .slice none 0 0], Ent.blk b163m [.string ⟨⟨[10]⟩⟩, .int .i64 8, .string ⟨⟨[]⟩⟩, .pointer none, .slice none 0 0], Ent.mix .u8 b3m [.string ⟨⟨[]⟩⟩, .int .i64 0, .string ⟨⟨[]⟩⟩, .pointer none, .slice (some ⟨b146m, 0, none⟩) 4 4, .int .i64 4] gmap (256 : Int)] w := by rw [hX]; exact hS0
   refine Stp.mono (o_evs [] (.pointer (some ⟨b3m, 0, none⟩)) none [] H rfl (by kernel_rfl) (fun q e => by cases e)) ?_
   rintro v w2 ⟨rfl, hq⟩
   replace hS : SH M X w [Ent.blk b146m [.pointer none, .pointer none, .pointer (some ⟨b13n, 0, none⟩), .pointer (some ⟨b164m, 0, none⟩)], Ent.blk b13n [.string ⟨⟨[]⟩⟩, .int .i64 0, .string ⟨⟨[]⟩⟩, .pointer none, .slice none 0 0], Ent.blk b164m [.string ⟨⟨[10]⟩⟩, .int .i64 6, .string ⟨⟨[10]⟩⟩, .pointer (some ⟨b163m, 0, none⟩), .slice none 0 0], Ent.blk b163m [.string ⟨⟨[10]⟩⟩, .int .i64 8, .string ⟨⟨[]⟩⟩, .pointer none, .slice none 0 0], Ent.mix .u8 b3m [.string ⟨⟨[]⟩⟩, .int .i64 0, .string ⟨⟨[]⟩⟩, .pointer none, .slice (some ⟨b146m, 0, none⟩) 4 4, .int .i64 4] gmap (256 : Int)] _ := hS.below hq.below
   rw [hX] at hS
   exact ⟨gL [], fun _ _ => rfl, hS.sel [0, 1, 2, 3, 4] rfl⟩
  ·intro o ho a w yg20n M Hb hv hO hS0
   obtain rfl := Option.some.inj ho
   have H : Fr 241 ([(213, [], .pointer (some ⟨b3m, 0, none⟩))] ++ [(0, [], .pointer (some ⟨b3m, 0, none⟩)), (1, [], .string ⟨⟨[12]⟩⟩), (2, [], .string ⟨⟨[10]⟩⟩), (3, [], .int .i64 4), (4, [], .pointer (some ⟨b3m, 0, none⟩)), (14, [], .int .u8 2)]) _ := (Hb).add (hv 1 (by decide) (by decide) 213 rfl)
   obtain ⟨X, hX⟩ : ∃ X, X = fpl [Ent.blk b146m [.pointer none, .pointer none, .pointer (some ⟨b13n, 0, none⟩), .pointer (some ⟨b164m, 0, none⟩)], Ent.blk b13n [.string ⟨⟨[]⟩⟩, .int .i64 0, .string ⟨⟨[]⟩⟩, .pointer none, .slice none 0 0], Ent.blk b164m [.string ⟨⟨[10]⟩⟩, .int .i64 6, .string ⟨⟨[10]⟩⟩, .pointer (some ⟨b163m, 0, none⟩), .slice none 0 0], Ent.blk b163m [.string ⟨⟨[10]⟩⟩, .int .i64 8, .string ⟨⟨[]⟩⟩, .pointer none, .slice none 0 0], Ent.mix .u8 b3m [.string ⟨⟨[]⟩⟩, .int .i64 0, .string ⟨⟨[]⟩⟩, .pointer none, .slice (some ⟨b146m, 0, none⟩) 4 4, .int .i64 4] gmap (256 : Int)] := ⟨_, rfl⟩
   have hS : SH M X w [Ent.blk b146m [.pointer none, .pointer none, .pointer (some ⟨b13n, 0, none⟩), .pointer (some ⟨b164m, 0, none⟩)], Ent.blk b13n [.string ⟨⟨[]⟩⟩, .int .i64 0, .string ⟨⟨[]⟩⟩, .pointer none, .slice none 0 0], Ent.blk b164m [.string ⟨⟨[10]⟩⟩, .int .i64 6, .string ⟨⟨[10]⟩⟩, .pointer (some ⟨b163m, 0, none⟩), .slice none 0 0], Ent.blk b163m [.string ⟨⟨[10]⟩⟩, .int .i64 8, .string ⟨⟨[]⟩⟩, .pointer none, .slice none 0 0], Ent.mix .u8 b3m [.string ⟨⟨[]⟩⟩, .int .i64 0, .string ⟨⟨[]⟩⟩, .pointer none, .slice (some ⟨b146m, 0, none⟩) 4 4, .int .i64 4] gmap (256 : Int)] w := by rw [hX]; exact hS0
   refine Stp.mono (o_evs [] (.pointer (some ⟨b3m, 4, none⟩)) none [] H rfl (by kernel_rfl) (fun q e => by cases e)) ?_
   rintro v w2 ⟨rfl, hq⟩
   replace hS : SH M X w [Ent.blk b146m [.pointer none, .pointer none, .pointer (some ⟨b13n, 0, none⟩), .pointer (some ⟨b164m, 0, none⟩)], Ent.blk b13n [.string ⟨⟨[]⟩⟩, .int .i64 0, .string ⟨⟨[]⟩⟩, .pointer none, .slice none 0 0], Ent.blk b164m [.string ⟨⟨[10]⟩⟩, .int .i64 6, .string ⟨⟨[10]⟩⟩, .pointer (some ⟨b163m, 0, none⟩), .slice none 0 0], Ent.blk b163m [.string ⟨⟨[10]⟩⟩, .int .i64 8, .string ⟨⟨[]⟩⟩, .pointer none, .slice none 0 0], Ent.mix .u8 b3m [.string ⟨⟨[]⟩⟩, .int .i64 0, .string ⟨⟨[]⟩⟩, .pointer none, .slice (some ⟨b146m, 0, none⟩) 4 4, .int .i64 4] gmap (256 : Int)] _ := hS.below hq.below
   rw [hX] at hS
   exact ⟨gL [], fun _ _ => rfl, hS.sel [0, 1, 2, 3, 4] rfl⟩
  ·intro o ho a w yg20n M Hb hv hO hS0
   obtain rfl := Option.some.inj ho
   have H : Fr 241 ([(214, [], .pointer (some ⟨b3m, 4, none⟩))] ++ [(0, [], .pointer (some ⟨b3m, 0, none⟩)), (1, [], .string ⟨⟨[12]⟩⟩), (2, [], .string ⟨⟨[10]⟩⟩), (3, [], .int .i64 4), (4, [], .pointer (some ⟨b3m, 0, none⟩)), (14, [], .int .u8 2)]) _ := (Hb).add (hv 2 (by decide) (by decide) 214 rfl)
   obtain ⟨X, hX⟩ : ∃ X, X = fpl [Ent.blk b146m [.pointer none, .pointer none, .pointer (some ⟨b13n, 0, none⟩), .pointer (some ⟨b164m, 0, none⟩)], Ent.blk b13n [.string ⟨⟨[]⟩⟩, .int .i64 0, .string ⟨⟨[]⟩⟩, .pointer none, .slice none 0 0], Ent.blk b164m [.string ⟨⟨[10]⟩⟩, .int .i64 6, .string ⟨⟨[10]⟩⟩, .pointer (some ⟨b163m, 0, none⟩), .slice none 0 0], Ent.blk b163m [.string ⟨⟨[10]⟩⟩, .int .i64 8, .string ⟨⟨[]⟩⟩, .pointer none, .slice none 0 0], Ent.mix .u8 b3m [.string ⟨⟨[]⟩⟩, .int .i64 0, .string ⟨⟨[]⟩⟩, .pointer none, .slice (some ⟨b146m, 0, none⟩) 4 4, .int .i64 4] gmap (256 : Int)] := ⟨_, rfl⟩
   have hS : SH M X w [Ent.blk b146m [.pointer none, .pointer none, .pointer (some ⟨b13n, 0, none⟩), .pointer (some ⟨b164m, 0, none⟩)], Ent.blk b13n [.string ⟨⟨[]⟩⟩, .int .i64 0, .string ⟨⟨[]⟩⟩, .pointer none, .slice none 0 0], Ent.blk b164m [.string ⟨⟨[10]⟩⟩, .int .i64 6, .string ⟨⟨[10]⟩⟩, .pointer (some ⟨b163m, 0, none⟩), .slice none 0 0], Ent.blk b163m [.string ⟨⟨[10]⟩⟩, .int .i64 8, .string ⟨⟨[]⟩⟩, .pointer none, .slice none 0 0], Ent.mix .u8 b3m [.string ⟨⟨[]⟩⟩, .int .i64 0, .string ⟨⟨[]⟩⟩, .pointer none, .slice (some ⟨b146m, 0, none⟩) 4 4, .int .i64 4] gmap (256 : Int)] w := by rw [hX]; exact hS0
   refine Stp.mono (o_evs [(.slice (some ⟨b146m, 0, none⟩) 4 4)] (.slice (some ⟨b146m, 0, none⟩) 4 4) (some (fun wz => V.at1 ⟨b3m, 4, none⟩ (.slice (some ⟨b146m, 0, none⟩) 4 4) wz)) [] H rfl (by kernel_rfl) (fun q e => by cases e; exact ((hS.mix 4 rfl).1.at1 rfl))) ?_
   rintro v w2 ⟨rfl, hq⟩
   replace hS : SH M X w [Ent.blk b146m [.pointer none, .pointer none, .pointer (some ⟨b13n, 0, none⟩), .pointer (some ⟨b164m, 0, none⟩)], Ent.blk b13n [.string ⟨⟨[]⟩⟩, .int .i64 0, .string ⟨⟨[]⟩⟩, .pointer none, .slice none 0 0], Ent.blk b164m [.string ⟨⟨[10]⟩⟩, .int .i64 6, .string ⟨⟨[10]⟩⟩, .pointer (some ⟨b163m, 0, none⟩), .slice none 0 0], Ent.blk b163m [.string ⟨⟨[10]⟩⟩, .int .i64 8, .string ⟨⟨[]⟩⟩, .pointer none, .slice none 0 0], Ent.mix .u8 b3m [.string ⟨⟨[]⟩⟩, .int .i64 0, .string ⟨⟨[]⟩⟩, .pointer none, .slice (some ⟨b146m, 0, none⟩) 4 4, .int .i64 4] gmap (256 : Int)] _ := hS.below hq.below
   rw [hX] at hS
   exact ⟨gL [], fun _ _ => rfl, hS.sel [0, 1, 2, 3, 4] rfl⟩
  ·intro o ho a w yg20n M Hb hv hO hS0
   obtain rfl := Option.some.inj ho
   have H : Fr 241 ([] ++ [(0, [], .pointer (some ⟨b3m, 0, none⟩)), (1, [], .string ⟨⟨[12]⟩⟩), (2, [], .string ⟨⟨[10]⟩⟩), (3, [], .int .i64 4), (4, [], .pointer (some ⟨b3m, 0, none⟩)), (14, [], .int .u8 2)]) _ := Hb
   obtain ⟨X, hX⟩ : ∃ X, X = fpl [] := ⟨_, rfl⟩
   have hS : SH M X w [] w := by rw [hX]; exact hS0
   refine Stp.mono (o_evs [] (.int .u8 2) none [] H rfl (by kernel_rfl) (fun q e => by cases e)) ?_
   rintro v w2 ⟨rfl, hq⟩
   replace hS : SH M X w [] _ := hS.below hq.below
   rw [hX] at hS
   exact ⟨gL [], fun _ _ => rfl, hS.sel [] rfl⟩
  ·intro o ho a w yg20n M Hb hv hO hS0
   obtain rfl := Option.some.inj ho
   have H : Fr 241 ([(216, [], .int .u8 2), (215, [], .slice (some ⟨b146m, 0, none⟩) 4 4)] ++ [(0, [], .pointer (some ⟨b3m, 0, none⟩)), (1, [], .string ⟨⟨[12]⟩⟩), (2, [], .string ⟨⟨[10]⟩⟩), (3, [], .int .i64 4), (4, [], .pointer (some ⟨b3m, 0, none⟩)), (14, [], .int .u8 2)]) _ := ((Hb).add (hv 3 (by decide) (by decide) 215 rfl)).add (hv 4 (by decide) (by decide) 216 rfl)
   obtain ⟨X, hX⟩ : ∃ X, X = fpl [Ent.blk b146m [.pointer none, .pointer none, .pointer (some ⟨b13n, 0, none⟩), .pointer (some ⟨b164m, 0, none⟩)], Ent.blk b13n [.string ⟨⟨[]⟩⟩, .int .i64 0, .string ⟨⟨[]⟩⟩, .pointer none, .slice none 0 0], Ent.blk b164m [.string ⟨⟨[10]⟩⟩, .int .i64 6, .string ⟨⟨[10]⟩⟩, .pointer (some ⟨b163m, 0, none⟩), .slice none 0 0], Ent.blk b163m [.string ⟨⟨[10]⟩⟩, .int .i64 8, .string ⟨⟨[]⟩⟩, .pointer none, .slice none 0 0]] := ⟨_, rfl⟩
   have hS : SH M X w [Ent.blk b146m [.pointer none, .pointer none, .pointer (some ⟨b13n, 0, none⟩), .pointer (some ⟨b164m, 0, none⟩)], Ent.blk b13n [.string ⟨⟨[]⟩⟩, .int .i64 0, .string ⟨⟨[]⟩⟩, .pointer none, .slice none 0 0], Ent.blk b164m [.string ⟨⟨[10]⟩⟩, .int .i64 6, .string ⟨⟨[10]⟩⟩, .pointer (some ⟨b163m, 0, none⟩), .slice none 0 0], Ent.blk b163m [.string ⟨⟨[10]⟩⟩, .int .i64 8, .string ⟨⟨[]⟩⟩, .pointer none, .slice none 0 0]] w := by rw [hX]; exact hS0
   refine Stp.mono (o_evs [] (.pointer (some ⟨b146m, 2, none⟩)) (some (fun _ => oka (some ⟨b146m, 0, none⟩) ∧ 0 ≤ (2 : Int) ∧ (2 : Int) < 4)) [] H rfl (by kernel_rfl) (fun q e => by cases e; exact (⟨rfl, (show 0 ≤ (2 : Int) ∧ (2 : Int) < 4 from by decide)⟩))) ?_
   rintro v w2 ⟨rfl, hq⟩
   replace hS : SH M X w [Ent.blk b146m [.pointer none, .pointer none, .pointer (some ⟨b13n, 0, none⟩), .pointer (some ⟨b164m, 0, none⟩)], Ent.blk b13n [.string ⟨⟨[]⟩⟩, .int .i64 0, .string ⟨⟨[]⟩⟩, .pointer none, .slice none 0 0], Ent.blk b164m [.string ⟨⟨[10]⟩⟩, .int .i64 6, .string ⟨⟨[10]⟩⟩, .pointer (some ⟨b163m, 0, none⟩), .slice none 0 0], Ent.blk b163m [.string ⟨⟨[10]⟩⟩, .int .i64 8, .string ⟨⟨[]⟩⟩, .pointer none, .slice none 0 0]] _ := hS.below hq.below
   rw [hX] at hS
   exact ⟨gL [], fun _ _ => rfl, hS.sel [0, 1, 2, 3] rfl⟩
  ·intro o ho a w yg20n M Hb hv hO hS0
   obtain rfl := Option.some.inj ho
   have H : Fr 241 ([(217, [], .pointer (some ⟨b146m, 2, none⟩))] ++ [(0, [], .pointer (some ⟨b3m, 0, none⟩)), (1, [], .string ⟨⟨[12]⟩⟩), (2, [], .string ⟨⟨[10]⟩⟩), (3, [], .int .i64 4), (4, [], .pointer (some ⟨b3m, 0, none⟩)), (14, [], .int .u8 2)]) _ := (Hb).add (hv 5 (by decide) (by decide) 217 rfl)
   obtain ⟨X, hX⟩ : ∃ X, X = fpl [Ent.blk b146m [.pointer none, .pointer none, .pointer (some ⟨b13n, 0, none⟩), .pointer (some ⟨b164m, 0, none⟩)], Ent.blk b13n [.string ⟨⟨[]⟩⟩, .int .i64 0, .string ⟨⟨[]⟩⟩, .pointer none, .slice none 0 0], Ent.blk b164m [.string ⟨⟨[10]⟩⟩, .int .i64 6, .string ⟨⟨[10]⟩⟩, .pointer (some ⟨b163m, 0, none⟩), .slice none 0 0], Ent.blk b163m [.string ⟨⟨[10]⟩⟩, .int .i64 8, .string ⟨⟨[]⟩⟩, .pointer none, .slice none 0 0]] := ⟨_, rfl⟩
   have hS : SH M X w [Ent.blk b146m [.pointer none, .pointer none, .pointer (some ⟨b13n, 0, none⟩), .pointer (some ⟨b164m, 0, none⟩)], Ent.blk b13n [.string ⟨⟨[]⟩⟩, .int .i64 0, .string ⟨⟨[]⟩⟩, .pointer none, .slice none 0 0], Ent.blk b164m [.string ⟨⟨[10]⟩⟩, .int .i64 6, .string ⟨⟨[10]⟩⟩, .pointer (some ⟨b163m, 0, none⟩), .slice none 0 0], Ent.blk b163m [.string ⟨⟨[10]⟩⟩, .int .i64 8, .string ⟨⟨[]⟩⟩, .pointer none, .slice none 0 0]] w := by rw [hX]; exact hS0
   refine Stp.mono (o_evs [(.pointer (some ⟨b13n, 0, none⟩))] (.pointer (some ⟨b13n, 0, none⟩)) (some (fun wz => V.at1 ⟨b146m, 2, none⟩ (.pointer (some ⟨b13n, 0, none⟩)) wz)) [] H rfl (by kernel_rfl) (fun q e => by cases e; exact ((hS.bk 0 rfl).at1 rfl))) ?_
   rintro v w2 ⟨rfl, hq⟩
   replace hS : SH M X w [Ent.blk b146m [.pointer none, .pointer none, .pointer (some ⟨b13n, 0, none⟩), .pointer (some ⟨b164m, 0, none⟩)], Ent.blk b13n [.string ⟨⟨[]⟩⟩, .int .i64 0, .string ⟨⟨[]⟩⟩, .pointer none, .slice none 0 0], Ent.blk b164m [.string ⟨⟨[10]⟩⟩, .int .i64 6, .string ⟨⟨[10]⟩⟩, .pointer (some ⟨b163m, 0, none⟩), .slice none 0 0], Ent.blk b163m [.string ⟨⟨[10]⟩⟩, .int .i64 8, .string ⟨⟨[]⟩⟩, .pointer none, .slice none 0 0]] _ := hS.below hq.below
   rw [hX] at hS
   exact ⟨gL [], fun _ _ => rfl, hS.sel [0, 1, 2, 3] rfl⟩
  ·intro o ho a w yg20n M Hb hv hO hS0
   obtain rfl := Option.some.inj ho
   have H : Fr 241 ([] ++ [(0, [], .pointer (some ⟨b3m, 0, none⟩)), (1, [], .string ⟨⟨[12]⟩⟩), (2, [], .string ⟨⟨[10]⟩⟩), (3, [], .int .i64 4), (4, [], .pointer (some ⟨b3m, 0, none⟩)), (14, [], .int .u8 2)]) _ := Hb
   obtain ⟨X, hX⟩ : ∃ X, X = fpl [] := ⟨_, rfl⟩
   have hS : SH M X w [] w := by rw [hX]; exact hS0
   refine Stp.mono (o_evs [] (.string ⟨⟨[12]⟩⟩) none [] H rfl (by kernel_rfl) (fun q e => by cases e)) ?_
   rintro v w2 ⟨rfl, hq⟩
   replace hS : SH M X w [] _ := hS.below hq.below
   rw [hX] at hS
   exact ⟨gL [], fun _ _ => rfl, hS.sel [] rfl⟩
  ·intro o ho a w yg20n M Hb hv hO hS0
   obtain rfl := Option.some.inj ho
   have H : Fr 241 ([(219, [], .string ⟨⟨[12]⟩⟩)] ++ [(0, [], .pointer (some ⟨b3m, 0, none⟩)), (1, [], .string ⟨⟨[12]⟩⟩), (2, [], .string ⟨⟨[10]⟩⟩), (3, [], .int .i64 4), (4, [], .pointer (some ⟨b3m, 0, none⟩)), (14, [], .int .u8 2)]) _ := (Hb).add (hv 7 (by decide) (by decide) 219 rfl)
   obtain ⟨X, hX⟩ : ∃ X, X = fpl [] := ⟨_, rfl⟩
   have hS : SH M X w [] w := by rw [hX]; exact hS0
   refine Stp.mono (o_evs [] (.string ⟨⟨[]⟩⟩) (some (fun _ => 0 ≤ (1 : Int) ∧ (1 : Int) ≤ ln ([12] : Str))) [] H rfl (by kernel_rfl) (fun q e => by cases e; exact (show 0 ≤ (1 : Int) ∧ (1 : Int) ≤ ln ([12] : Str) from by decide))) ?_
   rintro v w2 ⟨rfl, hq⟩
   replace hS : SH M X w [] _ := hS.below hq.below
   rw [hX] at hS
   exact ⟨gL [], fun _ _ => rfl, hS.sel [] rfl⟩
  ·intro o ho a w yg20n M Hb hv hO hS0
   obtain rfl := Option.some.inj ho
   have H : Fr 241 ([] ++ [(0, [], .pointer (some ⟨b3m, 0, none⟩)), (1, [], .string ⟨⟨[12]⟩⟩), (2, [], .string ⟨⟨[10]⟩⟩), (3, [], .int .i64 4), (4, [], .pointer (some ⟨b3m, 0, none⟩)), (14, [], .int .u8 2)]) _ := Hb
   obtain ⟨X, hX⟩ : ∃ X, X = fpl [] := ⟨_, rfl⟩
   have hS : SH M X w [] w := by rw [hX]; exact hS0
   refine Stp.mono (o_evs [] (.string ⟨⟨[10]⟩⟩) none [] H rfl (by kernel_rfl) (fun q e => by cases e)) ?_
   rintro v w2 ⟨rfl, hq⟩
   replace hS : SH M X w [] _ := hS.below hq.below
   rw [hX] at hS
   exact ⟨gL [], fun _ _ => rfl, hS.sel [] rfl⟩
  ·intro o ho a w yg20n M Hb hv hO hS0
   obtain rfl := Option.some.inj ho
   have H : Fr 241 ([] ++ [(0, [], .pointer (some ⟨b3m, 0, none⟩)), (1, [], .string ⟨⟨[12]⟩⟩), (2, [], .string ⟨⟨[10]⟩⟩), (3, [], .int .i64 4), (4, [], .pointer (some ⟨b3m, 0, none⟩)), (14, [], .int .u8 2)]) _ := Hb
   obtain ⟨X, hX⟩ : ∃ X, X = fpl [] := ⟨_, rfl⟩
   have hS : SH M X w [] w := by rw [hX]; exact hS0
   refine Stp.mono (o_evs [] (.int .i64 4) none [] H rfl (by kernel_rfl) (fun q e => by cases e)) ?_
   rintro v w2 ⟨rfl, hq⟩
   replace hS : SH M X w [] _ := hS.below hq.below
   rw [hX] at hS
   exact ⟨gL [], fun _ _ => rfl, hS.sel [] rfl⟩
  ·intro o ho a w yg20n M Hb hv hO hS0
   obtain rfl := Option.some.inj ho
   have H : Fr 241 ([] ++ [(0, [], .pointer (some ⟨b3m, 0, none⟩)), (1, [], .string ⟨⟨[12]⟩⟩), (2, [], .string ⟨⟨[10]⟩⟩), (3, [], .int .i64 4), (4, [], .pointer (some ⟨b3m, 0, none⟩)), (14, [], .int .u8 2)]) _ := Hb
   obtain ⟨X, hX⟩ : ∃ X, X = fpl [Ent.blk b146m [.pointer none, .pointer none, .pointer (some ⟨b13n, 0, none⟩), .pointer (some ⟨b164m, 0, none⟩)], Ent.blk b13n [.string ⟨⟨[]⟩⟩, .int .i64 0, .string ⟨⟨[]⟩⟩, .pointer none, .slice none 0 0], Ent.blk b164m [.string ⟨⟨[10]⟩⟩, .int .i64 6, .string ⟨⟨[10]⟩⟩, .pointer (some ⟨b163m, 0, none⟩), .slice none 0 0], Ent.blk b163m [.string ⟨⟨[10]⟩⟩, .int .i64 8, .string ⟨⟨[]⟩⟩, .pointer none, .slice none 0 0], Ent.mix .u8 b3m [.string ⟨⟨[]⟩⟩, .int .i64 0, .string ⟨⟨[]⟩⟩, .pointer none, .slice (some ⟨b146m, 0, none⟩) 4 4, .int .i64 4] gmap (256 : Int)] := ⟨_, rfl⟩
   have hS : SH M X w [Ent.blk b146m [.pointer none, .pointer none, .pointer (some ⟨b13n, 0, none⟩), .pointer (some ⟨b164m, 0, none⟩)], Ent.blk b13n [.string ⟨⟨[]⟩⟩, .int .i64 0, .string ⟨⟨[]⟩⟩, .pointer none, .slice none 0 0], Ent.blk b164m [.string ⟨⟨[10]⟩⟩, .int .i64 6, .string ⟨⟨[10]⟩⟩, .pointer (some ⟨b163m, 0, none⟩), .slice none 0 0], Ent.blk b163m [.string ⟨⟨[10]⟩⟩, .int .i64 8, .string ⟨⟨[]⟩⟩, .pointer none, .slice none 0 0], Ent.mix .u8 b3m [.string ⟨⟨[]⟩⟩, .int .i64 0, .string ⟨⟨[]⟩⟩, .pointer none, .slice (some ⟨b146m, 0, none⟩) 4 4, .int .i64 4] gmap (256 : Int)] w := by rw [hX]; exact hS0
   refine Stp.mono (o_evs [] (.pointer (some ⟨b3m, 0, none⟩)) none [] H rfl (by kernel_rfl) (fun q e => by cases e)) ?_
   rintro v w2 ⟨rfl, hq⟩
   replace hS : SH M X w [Ent.blk b146m [.pointer none, .pointer none, .pointer (some ⟨b13n, 0, none⟩), .pointer (some ⟨b164m, 0, none⟩)], Ent.blk b13n [.string ⟨⟨[]⟩⟩, .int .i64 0, .string ⟨⟨[]⟩⟩, .pointer none, .slice none 0 0], Ent.blk b164m [.string ⟨⟨[10]⟩⟩, .int .i64 6, .string ⟨⟨[10]⟩⟩, .pointer (some ⟨b163m, 0, none⟩), .slice none 0 0], Ent.blk b163m [.string ⟨⟨[10]⟩⟩, .int .i64 8, .string ⟨⟨[]⟩⟩, .pointer none, .slice none 0 0], Ent.mix .u8 b3m [.string ⟨⟨[]⟩⟩, .int .i64 0, .string ⟨⟨[]⟩⟩, .pointer none, .slice (some ⟨b146m, 0, none⟩) 4 4, .int .i64 4] gmap (256 : Int)] _ := hS.below hq.below
   rw [hX] at hS
   exact ⟨gL [], fun _ _ => rfl, hS.sel [0, 1, 2, 3, 4] rfl⟩
  ·intro o ho a w yg20n M Hb hv hO hS0
   obtain rfl := Option.some.inj ho
   have H : Fr 241 ([(223, [], .pointer (some ⟨b3m, 0, none⟩)), (222, [], .int .i64 4), (221, [], .string ⟨⟨[10]⟩⟩), (220, [], .string ⟨⟨[]⟩⟩), (218, [], .pointer (some ⟨b13n, 0, none⟩))] ++ [(0, [], .pointer (some ⟨b3m, 0, none⟩)), (1, [], .string ⟨⟨[12]⟩⟩), (2, [], .string ⟨⟨[10]⟩⟩), (3, [], .int .i64 4), (4, [], .pointer (some ⟨b3m, 0, none⟩)), (14, [], .int .u8 2)]) _ := (((((Hb).add (hv 6 (by decide) (by decide) 218 rfl)).add (hv 8 (by decide) (by decide) 220 rfl)).add (hv 9 (by decide) (by decide) 221 rfl)).add (hv 10 (by decide) (by decide) 222 rfl)).add (hv 11 (by decide) (by decide) 223 rfl)
   obtain ⟨X, hX⟩ : ∃ X, X = fpl [Ent.blk b146m [.pointer none, .pointer none, .pointer (some ⟨b13n, 0, none⟩), .pointer (some ⟨b164m, 0, none⟩)], Ent.blk b13n [.string ⟨⟨[]⟩⟩, .int .i64 0, .string ⟨⟨[]⟩⟩, .pointer none, .slice none 0 0], Ent.blk b164m [.string ⟨⟨[10]⟩⟩, .int .i64 6, .string ⟨⟨[10]⟩⟩, .pointer (some ⟨b163m, 0, none⟩), .slice none 0 0], Ent.blk b163m [.string ⟨⟨[10]⟩⟩, .int .i64 8, .string ⟨⟨[]⟩⟩, .pointer none, .slice none 0 0], Ent.mix .u8 b3m [.string ⟨⟨[]⟩⟩, .int .i64 0, .string ⟨⟨[]⟩⟩, .pointer none, .slice (some ⟨b146m, 0, none⟩) 4 4, .int .i64 4] gmap (256 : Int)] := ⟨_, rfl⟩
   have hS : SH M X w [Ent.blk b146m [.pointer none, .pointer none, .pointer (some ⟨b13n, 0, none⟩), .pointer (some ⟨b164m, 0, none⟩)], Ent.blk b13n [.string ⟨⟨[]⟩⟩, .int .i64 0, .string ⟨⟨[]⟩⟩, .pointer none, .slice none 0 0], Ent.blk b164m [.string ⟨⟨[10]⟩⟩, .int .i64 6, .string ⟨⟨[10]⟩⟩, .pointer (some ⟨b163m, 0, none⟩), .slice none 0 0], Ent.blk b163m [.string ⟨⟨[10]⟩⟩, .int .i64 8, .string ⟨⟨[]⟩⟩, .pointer none, .slice none 0 0], Ent.mix .u8 b3m [.string ⟨⟨[]⟩⟩, .int .i64 0, .string ⟨⟨[]⟩⟩, .pointer none, .slice (some ⟨b146m, 0, none⟩) 4 4, .int .i64 4] gmap (256 : Int)] w := by rw [hX]; exact hS0
   have hd := hS.hand [0, 1, 2, 3, 4] [] rfl rfl
   refine Stp.mono (o_callx H rfl rfl (strings_trieNode_add_cs7 _ _ hd)) ?_
   rintro v w2 hq
   obtain ⟨rfl, hq⟩ := hq
   replace hS : SH M X w [Ent.blk b13n [.string ⟨⟨[10]⟩⟩, .int .i64 4, .string ⟨⟨[]⟩⟩, .pointer none, .slice none 0 0], Ent.blk b146m [.pointer none, .pointer none, .pointer (some ⟨b13n, 0, none⟩), .pointer (some ⟨b164m, 0, none⟩)], Ent.blk b164m [.string ⟨⟨[10]⟩⟩, .int .i64 6, .string ⟨⟨[10]⟩⟩, .pointer (some ⟨b163m, 0, none⟩), .slice none 0 0], Ent.blk b163m [.string ⟨⟨[10]⟩⟩, .int .i64 8, .string ⟨⟨[]⟩⟩, .pointer none, .slice none 0 0], Ent.mix .u8 b3m [.string ⟨⟨[]⟩⟩, .int .i64 0, .string ⟨⟨[]⟩⟩, .pointer none, .slice (some ⟨b146m, 0, none⟩) 4 4, .int .i64 4] gmap (256 : Int)] _ := hS.join [0, 1, 2, 3, 4] [] rfl rfl hq
   clear hq
   rw [hX] at hS
   exact ⟨gL [], fun _ _ => rfl, hS.sel [0, 1, 2, 3, 4] rfl⟩
 have H23n : Fr 241 [] _ := (FrG.keep (ks := []) H22n (by kernel_rfl))
 replace hS : SH M X w [Ent.blk b13n [.string ⟨⟨[10]⟩⟩, .int .i64 4, .string ⟨⟨[]⟩⟩, .pointer none, .slice none 0 0], Ent.blk b146m [.pointer none, .pointer none, .pointer (some ⟨b13n, 0, none⟩), .pointer (some ⟨b164m, 0, none⟩)], Ent.blk b164m [.string ⟨⟨[10]⟩⟩, .int .i64 6, .string ⟨⟨[10]⟩⟩, .pointer (some ⟨b163m, 0, none⟩), .slice none 0 0], Ent.blk b163m [.string ⟨⟨[10]⟩⟩, .int .i64 8, .string ⟨⟨[]⟩⟩, .pointer none, .slice none 0 0], Ent.mix .u8 b3m [.string ⟨⟨[]⟩⟩, .int .i64 0, .string ⟨⟨[]⟩⟩, .pointer none, .slice (some ⟨b146m, 0, none⟩) 4 4, .int .i64 4] gmap (256 : Int)] _ := hS
 clear hv H22n
 try dsimp only
 exact retR0 H23n rfl ⟨_, rfl, b13n, rfl, (hS.sel [0, 1, 2, 3, 4] rfl)⟩

theorem strings_trieNode_add_cs9 {b3m : Nat} {b146m : Nat} {b163m : Nat} {b164m : Nat} {b182m : Nat} {b13n : Nat} (M : Av) (w : World) (hS : S0 M [Ent.blk b146m [.pointer (some ⟨b13n, 0, none⟩), .pointer none, .pointer (some ⟨b182m, 0, none⟩), .pointer (some ⟨b164m, 0, none⟩)], Ent.blk b13n [.string ⟨⟨[]⟩⟩, .int .i64 0, .string ⟨⟨[]⟩⟩, .pointer none, .slice none 0 0], Ent.blk b182m [.string ⟨⟨[10]⟩⟩, .int .i64 4, .string ⟨⟨[]⟩⟩, .pointer none, .slice none 0 0], Ent.blk b164m [.string ⟨⟨[10]⟩⟩, .int .i64 6, .string ⟨⟨[10]⟩⟩, .pointer (some ⟨b163m, 0, none⟩), .slice none 0 0], Ent.blk b163m [.string ⟨⟨[10]⟩⟩, .int .i64 8, .string ⟨⟨[]⟩⟩, .pointer none, .slice none 0 0], Ent.mix .u8 b3m [.string ⟨⟨[]⟩⟩, .int .i64 0, .string ⟨⟨[]⟩⟩, .pointer none, .slice (some ⟨b146m, 0, none⟩) 4 4, .int .i64 4] gmap (256 : Int)] w) : DoesX Try.prog 67 ⟨[.pointer (some ⟨b13n, 0, none⟩), .string ⟨⟨[]⟩⟩, .string ⟨⟨[239, 191, 189]⟩⟩, .int .i64 2, .pointer (some ⟨b3m, 0, none⟩)]⟩ w (fun v w' => v = .tuple ⟨[]⟩ ∧ SH M (fpl [Ent.blk b146m [.pointer (some ⟨b13n, 0, none⟩), .pointer none, .pointer (some ⟨b182m, 0, none⟩), .pointer (some ⟨b164m, 0, none⟩)], Ent.blk b13n [.string ⟨⟨[]⟩⟩, .int .i64 0, .string ⟨⟨[]⟩⟩, .pointer none, .slice none 0 0], Ent.blk b182m [.string ⟨⟨[10]⟩⟩, .int .i64 4, .string ⟨⟨[]⟩⟩, .pointer none, .slice none 0 0], Ent.blk b164m [.string ⟨⟨[10]⟩⟩, .int .i64 6, .string ⟨⟨[10]⟩⟩, .pointer (some ⟨b163m, 0, none⟩), .slice none 0 0], Ent.blk b163m [.string ⟨⟨[10]⟩⟩, .int .i64 8, .string ⟨⟨[]⟩⟩, .pointer none, .slice none 0 0], Ent.mix .u8 b3m [.string ⟨⟨[]⟩⟩, .int .i64 0, .string ⟨⟨[]⟩⟩, .pointer none, .slice (some ⟨b146m, 0, none⟩) 4 4, .int .i64 4] gmap (256 : Int)]) w [Ent.blk b13n [.string ⟨⟨[239, 191, 189]⟩⟩, .int .i64 2, .string ⟨⟨[]⟩⟩, .pointer none, .slice none 0 0], Ent.blk b146m [.pointer (some ⟨b13n, 0, none⟩), .pointer none, .pointer (some ⟨b182m, 0, none⟩), .pointer (some ⟨b164m, 0, none⟩)], Ent.blk b182m [.string ⟨⟨[10]⟩⟩, .int .i64 4, .string ⟨⟨[]⟩⟩, .pointer none, .slice none 0 0], Ent.blk b164m [.string ⟨⟨[10]⟩⟩, .int .i64 6, .string ⟨⟨[10]⟩⟩, .pointer (some ⟨b163m, 0, none⟩), .slice none 0 0], Ent.blk b163m [.string ⟨⟨[10]⟩⟩, .int .i64 8, .string ⟨⟨[]⟩⟩, .pointer none, .slice none 0 0], Ent.mix .u8 b3m [.string ⟨⟨[]⟩⟩, .int .i64 0, .string ⟨⟨[]⟩⟩, .pointer none, .slice (some ⟨b146m, 0, none⟩) 4 4, .int .i64 4] gmap (256 : Int)] w') := by
 refine ⟨Try.call67 _, ?_⟩
 have hS0 : SH M (fpl [Ent.blk b146m [.pointer (some ⟨b13n, 0, none⟩), .pointer none, .pointer (some ⟨b182m, 0, none⟩), .pointer (some ⟨b164m, 0, none⟩)], Ent.blk b13n [.string ⟨⟨[]⟩⟩, .int .i64 0, .string ⟨⟨[]⟩⟩, .pointer none, .slice none 0 0], Ent.blk b182m [.string ⟨⟨[10]⟩⟩, .int .i64 4, .string ⟨⟨[]⟩⟩, .pointer none, .slice none 0 0], Ent.blk b164m [.string ⟨⟨[10]⟩⟩, .int .i64 6, .string ⟨⟨[10]⟩⟩, .pointer (some ⟨b163m, 0, none⟩), .slice none 0 0], Ent.blk b163m [.string ⟨⟨[10]⟩⟩, .int .i64 8, .string ⟨⟨[]⟩⟩, .pointer none, .slice none 0 0], Ent.mix .u8 b3m [.string ⟨⟨[]⟩⟩, .int .i64 0, .string ⟨⟨[]⟩⟩, .pointer none, .slice (some ⟨b146m, 0, none⟩) 4 4, .int .i64 4] gmap (256 : Int)]) w [Ent.blk b146m [.pointer (some ⟨b13n, 0, none⟩), .pointer none, .pointer (some ⟨b182m, 0, none⟩), .pointer (some ⟨b164m, 0, none⟩)], Ent.blk b13n [.string ⟨⟨[]⟩⟩, .int .i64 0, .string ⟨⟨[]⟩⟩, .pointer none, .slice none 0 0], Ent.blk b182m [.string ⟨⟨[10]⟩⟩, .int .i64 4, .string ⟨⟨[]⟩⟩, .pointer none, .slice none 0 0], Ent.blk b164m [.string ⟨⟨[10]⟩⟩, .int .i64 6, .string ⟨⟨[10]⟩⟩, .pointer (some ⟨b163m, 0, none⟩), .slice none 0 0], Ent.blk b163m [.string ⟨⟨[10]⟩⟩, .int .i64 8, .string ⟨⟨[]⟩⟩, .pointer none, .slice none 0 0], Ent.mix .u8 b3m [.string ⟨⟨[]⟩⟩, .int .i64 0, .string ⟨⟨[]⟩⟩, .pointer none, .slice (some ⟨b146m, 0, none⟩) 4 4, .int .i64 4] gmap (256 : Int)] w := hS
 generalize hX : fpl [Ent.blk b146m [.pointer (some ⟨b13n, 0, none⟩), .pointer none, .pointer (some ⟨b182m, 0, none⟩), .pointer (some ⟨b164m, 0, none⟩)], Ent.blk b13n [.string ⟨⟨[]⟩⟩, .int .i64 0, .string ⟨⟨[]⟩⟩, .pointer none, .slice none 0 0], Ent.blk b182m [.string ⟨⟨[10]⟩⟩, .int .i64 4, .string ⟨⟨[]⟩⟩, .pointer none, .slice none 0 0], Ent.blk b164m [.string ⟨⟨[10]⟩⟩, .int .i64 6, .string ⟨⟨[10]⟩⟩, .pointer (some ⟨b163m, 0, none⟩), .slice none 0 0], Ent.blk b163m [.string ⟨⟨[10]⟩⟩, .int .i64 8, .string ⟨⟨[]⟩⟩, .pointer none, .slice none 0 0], Ent.mix .u8 b3m [.string ⟨⟨[]⟩⟩, .int .i64 0, .string ⟨⟨[]⟩⟩, .pointer none, .slice (some ⟨b146m, 0, none⟩) 4 4, .int .i64 4] gmap (256 : Int)] = X at hS0 ⊢
 clear hS hX
 have hS := hS0
 clear hS0
 refine calls_entryP Try.func67 rfl Try.ntmps67 rfl fun _ H => ?_
 refine w_seq ?_
 refine s_reg [] [0, 1, 2, 3, 4, 16] [(0, [], .pointer (some ⟨b13n, 0, none⟩)), (1, [], .string ⟨⟨[]⟩⟩), (2, [], .string ⟨⟨[239, 191, 189]⟩⟩), (3, [], .int .i64 2), (4, [], .pointer (some ⟨b3m, 0, none⟩)), (16, [], .bool true)] [] H (by kernel_rfl) trivial fun _ wd1o H2o hb => ?_
 clear H
 replace hS := hS.below hb
 clear hb
 refine w_if H2o rfl (fun _ => ?_) (fun hc => by cases hc)
 refine w_seq ?_
 refine s_reg [(.int .i64 0)] [0, 2, 3, 21] [(0, [], .pointer (some ⟨b13n, 0, none⟩)), (2, [], .string ⟨⟨[239, 191, 189]⟩⟩), (3, [], .int .i64 2), (21, [], .bool true)] [fun wz => V.at1 ⟨b13n, 1, none⟩ (.int .i64 0) wz] H2o (by kernel_rfl) ⟨((hS.bk 1 rfl).at1 rfl), trivial⟩ fun _ wd3o H4o hb => ?_
 clear H2o
 replace hS := hS.below hb
 clear hb
 refine w_if H4o rfl (fun _ => ?_) (fun hc => by cases hc)
 refine w_seq ?_
 refine wl_start ?_
 refine wl_batch 0 4 [] [0, 3, 23, 25] [(0, [], .pointer (some ⟨b13n, 0, none⟩)), (3, [], .int .i64 2), (23, [], .string ⟨⟨[239, 191, 189]⟩⟩), (25, [], .pointer (some ⟨b13n, 0, none⟩))] [] H4o (by decide) (by kernel_rfl) trivial fun _ wd5o H6o hb => ?_
 clear H4o
 replace hS := hS.below hb
 clear hb
 have hd := hS.hand [1] [0, 2, 3, 4, 5] rfl rfl
 refine m_stp0 [0, 3] [(0, [], .pointer (some ⟨b13n, 0, none⟩)), (3, [], .int .i64 2)] H6o rfl rfl rfl (o_store [.string ⟨⟨[239, 191, 189]⟩⟩, .int .i64 0, .string ⟨⟨[]⟩⟩, .pointer none, .slice none 0 0] H6o hd rfl rfl (by kernel_rfl) rfl rfl rfl) rfl fun _ wd7o H8o hq => ?_
 clear H6o hd
 obtain ⟨_, hq⟩ := hq
 replace hS : SH M X w [Ent.blk b13n [.string ⟨⟨[239, 191, 189]⟩⟩, .int .i64 0, .string ⟨⟨[]⟩⟩, .pointer none, .slice none 0 0], Ent.blk b146m [.pointer (some ⟨b13n, 0, none⟩), .pointer none, .pointer (some ⟨b182m, 0, none⟩), .pointer (some ⟨b164m, 0, none⟩)], Ent.blk b182m [.string ⟨⟨[10]⟩⟩, .int .i64 4, .string ⟨⟨[]⟩⟩, .pointer none, .slice none 0 0], Ent.blk b164m [.string ⟨⟨[10]⟩⟩, .int .i64 6, .string ⟨⟨[10]⟩⟩, .pointer (some ⟨b163m, 0, none⟩), .slice none 0 0], Ent.blk b163m [.string ⟨⟨[10]⟩⟩, .int .i64 8, .string ⟨⟨[]⟩⟩, .pointer none, .slice none 0 0], Ent.mix .u8 b3m [.string ⟨⟨[]⟩⟩, .int .i64 0, .string ⟨⟨[]⟩⟩, .pointer none, .slice (some ⟨b146m, 0, none⟩) 4 4, .int .i64 4] gmap (256 : Int)] _ := hS.join [1] [0, 2, 3, 4, 5] rfl rfl hq
 clear hq
 refine wl_end rfl ?_
 refine wl_start ?_
 refine wl_batch 0 4 [] [27, 29] [(27, [], .int .i64 2), (29, [], .pointer (some ⟨b13n, 1, none⟩))] [] H8o (by decide) (by kernel_rfl) trivial fun _ wd9o H10o hb => ?_
 clear H8o
 replace hS := hS.below hb
 clear hb
 have hd := hS.hand [0] [1, 2, 3, 4, 5] rfl rfl
 refine m_stp0 [] [] H10o rfl rfl rfl (o_store [.string ⟨⟨[239, 191, 189]⟩⟩, .int .i64 2, .string ⟨⟨[]⟩⟩, .pointer none, .slice none 0 0] H10o hd rfl rfl (by kernel_rfl) rfl rfl rfl) rfl fun _ wd11o H12o hq => ?_
 clear H10o hd
 obtain ⟨_, hq⟩ := hq
 replace hS : SH M X w [Ent.blk b13n [.string ⟨⟨[239, 191, 189]⟩⟩, .int .i64 2, .string ⟨⟨[]⟩⟩, .pointer none, .slice none 0 0], Ent.blk b146m [.pointer (some ⟨b13n, 0, none⟩), .pointer none, .pointer (some ⟨b182m, 0, none⟩), .pointer (some ⟨b164m, 0, none⟩)], Ent.blk b182m [.string ⟨⟨[10]⟩⟩, .int .i64 4, .string ⟨⟨[]⟩⟩, .pointer none, .slice none 0 0], Ent.blk b164m [.string ⟨⟨[10]⟩⟩, .int .i64 6, .string ⟨⟨[10]⟩⟩, .pointer (some ⟨b163m, 0, none⟩), .slice none 0 0], Ent.blk b163m [.string ⟨⟨[10]⟩⟩, .int .i64 8, .string ⟨⟨[]⟩⟩, .pointer none, .slice none 0 0], Ent.mix .u8 b3m [.string ⟨⟨[]⟩⟩, .int .i64 0, .string ⟨⟨[]⟩⟩, .pointer none, .slice (some ⟨b146m, 0, none⟩) 4 4, .int .i64 4] gmap (256 : Int)] _ := hS.join [0] [1, 2, 3, 4, 5] rfl rfl hq
 clear hq
 refine wl_end rfl ?_
 refine w_ret ?_
 try dsimp only
 exact retR0 H12o rfl ⟨_, rfl, rfl, (hS.sel [0, 1, 2, 3, 4, 5] rfl)⟩

theorem strings_trieNode_add_cs8 {b3m : Nat} {b146m : Nat} {b163m : Nat} {b164m : Nat} {b182m : Nat} (M : Av) (w : World) (hS : S0 M [Ent.blk b182m [.string ⟨⟨[10]⟩⟩, .int .i64 4, .string ⟨⟨[]⟩⟩, .pointer none, .slice none 0 0], Ent.blk b146m [.pointer none, .pointer none, .pointer (some ⟨b182m, 0, none⟩), .pointer (some ⟨b164m, 0, none⟩)], Ent.blk b164m [.string ⟨⟨[10]⟩⟩, .int .i64 6, .string ⟨⟨[10]⟩⟩, .pointer (some ⟨b163m, 0, none⟩), .slice none 0 0], Ent.blk b163m [.string ⟨⟨[10]⟩⟩, .int .i64 8, .string ⟨⟨[]⟩⟩, .pointer none, .slice none 0 0], Ent.mix .u8 b3m [.string ⟨⟨[]⟩⟩, .int .i64 0, .string ⟨⟨[]⟩⟩, .pointer none, .slice (some ⟨b146m, 0, none⟩) 4 4, .int .i64 4] gmap (256 : Int)] w) : DoesX Try.prog 67 ⟨[.pointer (some ⟨b3m, 0, none⟩), .string ⟨⟨[0]⟩⟩, .string ⟨⟨[239, 191, 189]⟩⟩, .int .i64 2, .pointer (some ⟨b3m, 0, none⟩)]⟩ w (fun v w' => ∃ (b13n : Nat), v = .tuple ⟨[]⟩ ∧ SH M (fpl [Ent.blk b182m [.string ⟨⟨[10]⟩⟩, .int .i64 4, .string ⟨⟨[]⟩⟩, .pointer none, .slice none 0 0], Ent.blk b146m [.pointer none, .pointer none, .pointer (some ⟨b182m, 0, none⟩), .pointer (some ⟨b164m, 0, none⟩)], Ent.blk b164m [.string ⟨⟨[10]⟩⟩, .int .i64 6, .string ⟨⟨[10]⟩⟩, .pointer (some ⟨b163m, 0, none⟩), .slice none 0 0], Ent.blk b163m [.string ⟨⟨[10]⟩⟩, .int .i64 8, .string ⟨⟨[]⟩⟩, .pointer none, .slice none 0 0], Ent.mix .u8 b3m [.string ⟨⟨[]⟩⟩, .int .i64 0, .string ⟨⟨[]⟩⟩, .pointer none, .slice (some ⟨b146m, 0, none⟩) 4 4, .int .i64 4] gmap (256 : Int)]) w [Ent.blk b13n [.string ⟨⟨[239, 191, 189]⟩⟩, .int .i64 2, .string ⟨⟨[]⟩⟩, .pointer none, .slice none 0 0], Ent.blk b146m [.pointer (some ⟨b13n, 0, none⟩), .pointer none, .pointer (some ⟨b182m, 0, none⟩), .pointer (some ⟨b164m, 0, none⟩)], Ent.blk b182m [.string ⟨⟨[10]⟩⟩, .int .i64 4, .string ⟨⟨[]⟩⟩, .pointer none, .slice none 0 0], Ent.blk b164m [.string ⟨⟨[10]⟩⟩, .int .i64 6, .string ⟨⟨[10]⟩⟩, .pointer (some ⟨b163m, 0, none⟩), .slice none 0 0], Ent.blk b163m [.string ⟨⟨[10]⟩⟩, .int .i64 8, .string ⟨⟨[]⟩⟩, .pointer none, .slice none 0 0], Ent.mix .u8 b3m [.string ⟨⟨[]⟩⟩, .int .i64 0, .string ⟨⟨[]⟩⟩, .pointer none, .slice (some ⟨b146m, 0, none⟩) 4 4, .int .i64 4] gmap (256 : Int)] w') := by
 refine ⟨Try.call67 _, ?_⟩
 have hS0 : SH M (fpl [Ent.blk b182m [.string ⟨⟨[10]⟩⟩, .int .i64 4, .string ⟨⟨[]⟩⟩, .pointer none, .slice none 0 0], Ent.blk b146m [.pointer none, .pointer none, .pointer (some ⟨b182m, 0, none⟩), .pointer (some ⟨b164m, 0, none⟩)], Ent.blk b164m [.string ⟨⟨[10]⟩⟩, .int .i64 6, .string ⟨⟨[10]⟩⟩, .pointer (some ⟨b163m, 0, none⟩), .slice none 0 0], Ent.blk b163m [.string ⟨⟨[10]⟩⟩, .int .i64 8, .string ⟨⟨[]⟩⟩, .pointer none, .slice none 0 0], Ent.mix .u8 b3m [.string ⟨⟨[]⟩⟩, .int .i64 0, .string ⟨⟨[]⟩⟩, .pointer none, .slice (some ⟨b146m, 0, none⟩) 4 4, .int .i64 4] gmap (256 : Int)]) w [Ent.blk b182m [.string ⟨⟨[10]⟩⟩, .int .i64 4, .string ⟨⟨[]⟩⟩, .pointer none, .slice none 0 0], Ent.blk b146m [.pointer none, .pointer none, .pointer (some ⟨b182m, 0, none⟩), .pointer (some ⟨b164m, 0, none⟩)], Ent.blk b164m [.string ⟨⟨[10]⟩⟩, .int .i64 6, .string ⟨⟨[10]⟩⟩, .pointer (some ⟨b163m, 0, none⟩), .slice none 0 0], Ent.blk b163m [.string ⟨⟨[10]⟩⟩, .int .i64 8, .string ⟨⟨[]⟩⟩, .pointer none, .slice none 0 0], Ent.mix .u8 b3m [.string ⟨⟨[]⟩⟩, .int .i64 0, .string ⟨⟨[]⟩⟩, .pointer none, .slice (some ⟨b146m, 0, none⟩) 4 4, .int .i64 4] gmap (256 : Int)] w := hS
 generalize hX : fpl [Ent.blk b182m [.string ⟨⟨[10]⟩⟩, .int .i64 4, .string ⟨⟨[]⟩⟩, .pointer none, .slice none 0 0], Ent.blk b146m [.pointer none, .pointer none, .pointer (some ⟨b182m, 0, none⟩), .pointer (some ⟨b164m, 0, none⟩)], Ent.blk b164m [.string ⟨⟨[10]⟩⟩, .int .i64 6, .string ⟨⟨[10]⟩⟩, .pointer (some ⟨b163m, 0, none⟩), .slice none 0 0], Ent.blk b163m [.string ⟨⟨[10]⟩⟩, .int .i64 8, .string ⟨⟨[]⟩⟩, .pointer none, .slice none 0 0], Ent.mix .u8 b3m [.string ⟨⟨[]⟩⟩, .int .i64 0, .string ⟨⟨[]⟩⟩, .pointer none, .slice (some ⟨b146m, 0, none⟩) 4 4, .int .i64 4] gmap (256 : Int)] = X at hS0 ⊢
 clear hS hX
 have hS := hS0
 clear hS0
 refine calls_entryP Try.func67 rfl Try.ntmps67 rfl fun _ H => ?_
 refine w_seq ?_
 refine s_reg [] [0, 1, 2, 3, 4, 16] [(0, [], .pointer (some ⟨b3m, 0, none⟩)), (1, [], .string ⟨⟨[0]⟩⟩), (2, [], .string ⟨⟨[239, 191, 189]⟩⟩), (3, [], .int .i64 2), (4, [], .pointer (some ⟨b3m, 0, none⟩)), (16, [], .bool false)] [] H (by kernel_rfl) trivial fun _ wd1n H2n hb => ?_
 clear H
 replace hS := hS.below hb
 clear hb
 refine w_if H2n rfl (fun hc => by cases hc) (fun _ => ?_)
 refine w_skip ?_
 refine s_reg [(.string ⟨⟨[]⟩⟩)] [0, 1, 2, 3, 4, 34] [(0, [], .pointer (some ⟨b3m, 0, none⟩)), (1, [], .string ⟨⟨[0]⟩⟩), (2, [], .string ⟨⟨[239, 191, 189]⟩⟩), (3, [], .int .i64 2), (4, [], .pointer (some ⟨b3m, 0, none⟩)), (34, [], .bool false)] [fun wz => V.at1 ⟨b3m, 2, none⟩ (.string ⟨⟨[]⟩⟩) wz] H2n (by kernel_rfl) ⟨((hS.mix 4 rfl).1.at1 rfl), trivial⟩ fun _ wd3n H4n hb => ?_
 clear H2n
 replace hS := hS.below hb
 clear hb
 refine w_if H4n rfl (fun hc => by cases hc) (fun _ => ?_)
 refine s_reg [(.slice (some ⟨b146m, 0, none⟩) 4 4)] [0, 1, 2, 3, 4, 189] [(0, [], .pointer (some ⟨b3m, 0, none⟩)), (1, [], .string ⟨⟨[0]⟩⟩), (2, [], .string ⟨⟨[239, 191, 189]⟩⟩), (3, [], .int .i64 2), (4, [], .pointer (some ⟨b3m, 0, none⟩)), (189, [], .bool true)] [fun wz => V.at1 ⟨b3m, 4, none⟩ (.slice (some ⟨b146m, 0, none⟩) 4 4) wz] H4n (by kernel_rfl) ⟨((hS.mix 4 rfl).1.at1 rfl), trivial⟩ fun _ wd5n H6n hb => ?_
 clear H4n
 replace hS := hS.below hb
 clear hb
 refine w_if H6n rfl (fun _ => ?_) (fun hc => by cases hc)
 refine s_draw [(.int .u8 0)] [0, 1, 2, 3, 4, 14] [(0, [], .pointer (some ⟨b3m, 0, none⟩)), (1, [], .string ⟨⟨[0]⟩⟩), (2, [], .string ⟨⟨[239, 191, 189]⟩⟩), (3, [], .int .i64 2), (4, [], .pointer (some ⟨b3m, 0, none⟩)), (14, [], .int .u8 0)] [fun _ => 0 ≤ (0 : Int) ∧ (0 : Int) < ln ([0] : Str), fun _ => 0 ≤ (0 : Int) ∧ (0 : Int) < (256 : Int), fun wz => V.at1 ⟨b3m, 6 + ((0 : Int)).toNat * 1, none⟩ (.int .u8 0) wz] H6n (by kernel_rfl) (by kernel_rfl) (by kernel_rfl) ⟨(show 0 ≤ (0 : Int) ∧ (0 : Int) < ln ([0] : Str) from by decide), (show 0 ≤ (0 : Int) ∧ (0 : Int) < (256 : Int) from by decide), (Mix.ixn (hS.mix 4 rfl) rfl (show 0 ≤ (0 : Int) ∧ (0 : Int) < (256 : Int) from by decide)), trivial⟩ fun _ wd7n H8n hb => ?_
 clear H6n
 replace hS := hS.below hb
 clear hb
 refine w_seq ?_
 refine s_reg [(.slice (some ⟨b146m, 0, none⟩) 4 4), (.pointer none)] [0, 1, 2, 3, 4, 14, 204] [(0, [], .pointer (some ⟨b3m, 0, none⟩)), (1, [], .string ⟨⟨[0]⟩⟩), (2, [], .string ⟨⟨[239, 191, 189]⟩⟩), (3, [], .int .i64 2), (4, [], .pointer (some ⟨b3m, 0, none⟩)), (14, [], .int .u8 0), (204, [], .bool true)] [fun wz => V.at1 ⟨b3m, 4, none⟩ (.slice (some ⟨b146m, 0, none⟩) 4 4) wz, fun _ => oka (some ⟨b146m, 0, none⟩) ∧ 0 ≤ (0 : Int) ∧ (0 : Int) < 4, fun wz => V.at1 ⟨b146m, 0, none⟩ (.pointer none) wz] H8n (by kernel_rfl) ⟨((hS.mix 4 rfl).1.at1 rfl), (⟨rfl, (show 0 ≤ (0 : Int) ∧ (0 : Int) < 4 from by decide)⟩), ((hS.bk 1 rfl).at1 rfl), trivial⟩ fun _ wd9n H10n hb => ?_
 clear H8n
 replace hS := hS.below hb
 clear hb
 refine w_if H10n rfl (fun _ => ?_) (fun hc => by cases hc)
 refine wl_start ?_
 refine wl_batch 0 5 [(.slice (some ⟨b146m, 0, none⟩) 4 4)] [0, 1, 2, 3, 4, 14, 208, 209] [(0, [], .pointer (some ⟨b3m, 0, none⟩)), (1, [], .string ⟨⟨[0]⟩⟩), (2, [], .string ⟨⟨[239, 191, 189]⟩⟩), (3, [], .int .i64 2), (4, [], .pointer (some ⟨b3m, 0, none⟩)), (14, [], .int .u8 0), (208, [], .slice (some ⟨b146m, 0, none⟩) 4 4), (209, [], .int .u8 0)] [fun wz => V.at1 ⟨b3m, 4, none⟩ (.slice (some ⟨b146m, 0, none⟩) 4 4) wz] H10n (by decide) (by kernel_rfl) ⟨((hS.mix 4 rfl).1.at1 rfl), trivial⟩ fun _ wd11n H12n hb => ?_
 clear H10n
 replace hS := hS.below hb
 clear hb
 have hd := hS.hand [] [0, 1, 2, 3, 4] rfl rfl
 refine m_stp [210, 0, 1, 2, 3, 4, 14, 208, 209] [(0, [], .pointer (some ⟨b3m, 0, none⟩)), (1, [], .string ⟨⟨[0]⟩⟩), (2, [], .string ⟨⟨[239, 191, 189]⟩⟩), (3, [], .int .i64 2), (4, [], .pointer (some ⟨b3m, 0, none⟩)), (14, [], .int .u8 0), (208, [], .slice (some ⟨b146m, 0, none⟩) 4 4), (209, [], .int .u8 0)] H12n rfl rfl rfl rfl (o_alloc [.string ⟨⟨[]⟩⟩, .int .i64 0, .string ⟨⟨[]⟩⟩, .pointer none, .slice none 0 0] (z := .agg ⟨[.string ⟨⟨[]⟩⟩, .int .i64 0, .string ⟨⟨[]⟩⟩, .pointer none, .slice none 0 0]⟩) hd (by kernel_rfl) rfl) (fun _ => rfl) fun _ wd14n v H15n hq => ?_
 clear H12n hd
 obtain ⟨b13n, rfl, hq⟩ := hq
 replace hS : SH M X w [Ent.blk b13n [.string ⟨⟨[]⟩⟩, .int .i64 0, .string ⟨⟨[]⟩⟩, .pointer none, .slice none 0 0], Ent.blk b182m [.string ⟨⟨[10]⟩⟩, .int .i64 4, .string ⟨⟨[]⟩⟩, .pointer none, .slice none 0 0], Ent.blk b146m [.pointer none, .pointer none, .pointer (some ⟨b182m, 0, none⟩), .pointer (some ⟨b164m, 0, none⟩)], Ent.blk b164m [.string ⟨⟨[10]⟩⟩, .int .i64 6, .string ⟨⟨[10]⟩⟩, .pointer (some ⟨b163m, 0, none⟩), .slice none 0 0], Ent.blk b163m [.string ⟨⟨[10]⟩⟩, .int .i64 8, .string ⟨⟨[]⟩⟩, .pointer none, .slice none 0 0], Ent.mix .u8 b3m [.string ⟨⟨[]⟩⟩, .int .i64 0, .string ⟨⟨[]⟩⟩, .pointer none, .slice (some ⟨b146m, 0, none⟩) 4 4, .int .i64 4] gmap (256 : Int)] _ := hS.join [] [0, 1, 2, 3, 4] rfl rfl hq
 clear hq
 refine wl_batch 6 7 [] [0, 1, 2, 3, 4, 14, 210, 211] [(0, [], .pointer (some ⟨b3m, 0, none⟩)), (1, [], .string ⟨⟨[0]⟩⟩), (2, [], .string ⟨⟨[239, 191, 189]⟩⟩), (3, [], .int .i64 2), (4, [], .pointer (some ⟨b3m, 0, none⟩)), (14, [], .int .u8 0), (210, [], .pointer (some ⟨b13n, 0, none⟩)), (211, [], .pointer (some ⟨b146m, 0, none⟩))] [fun _ => oka (some ⟨b146m, 0, none⟩) ∧ 0 ≤ (0 : Int) ∧ (0 : Int) < 4] H15n (by decide) (by kernel_rfl) ⟨(⟨rfl, (show 0 ≤ (0 : Int) ∧ (0 : Int) < 4 from by decide)⟩), trivial⟩ fun _ wd16n H17n hb => ?_
 clear H15n
 replace hS := hS.below hb
 clear hb
 have hd := hS.hand [2] [0, 1, 3, 4, 5] rfl rfl
 refine m_stp0 [0, 1, 2, 3, 4, 14] [(0, [], .pointer (some ⟨b3m, 0, none⟩)), (1, [], .string ⟨⟨[0]⟩⟩), (2, [], .string ⟨⟨[239, 191, 189]⟩⟩), (3, [], .int .i64 2), (4, [], .pointer (some ⟨b3m, 0, none⟩)), (14, [], .int .u8 0)] H17n rfl rfl rfl (o_store [.pointer (some ⟨b13n, 0, none⟩), .pointer none, .pointer (some ⟨b182m, 0, none⟩), .pointer (some ⟨b164m, 0, none⟩)] H17n hd rfl rfl (by kernel_rfl) rfl rfl rfl) rfl fun _ wd18n H19n hq => ?_
 clear H17n hd
 obtain ⟨_, hq⟩ := hq
 replace hS : SH M X w [Ent.blk b146m [.pointer (some ⟨b13n, 0, none⟩), .pointer none, .pointer (some ⟨b182m, 0, none⟩), .pointer (some ⟨b164m, 0, none⟩)], Ent.blk b13n [.string ⟨⟨[]⟩⟩, .int .i64 0, .string ⟨⟨[]⟩⟩, .pointer none, .slice none 0 0], Ent.blk b182m [.string ⟨⟨[10]⟩⟩, .int .i64 4, .string ⟨⟨[]⟩⟩, .pointer none, .slice none 0 0], Ent.blk b164m [.string ⟨⟨[10]⟩⟩, .int .i64 6, .string ⟨⟨[10]⟩⟩, .pointer (some ⟨b163m, 0, none⟩), .slice none 0 0], Ent.blk b163m [.string ⟨⟨[10]⟩⟩, .int .i64 8, .string ⟨⟨[]⟩⟩, .pointer none, .slice none 0 0], Ent.mix .u8 b3m [.string ⟨⟨[]⟩⟩, .int .i64 0, .string ⟨⟨[]⟩⟩, .pointer none, .slice (some ⟨b146m, 0, none⟩) 4 4, .int .i64 4] gmap (256 : Int)] _ := hS.join [2] [0, 1, 3, 4, 5] rfl rfl hq
 clear hq
 refine wl_end rfl ?_
 refine w_drawS (base := [(0, [], .pointer (some ⟨b3m, 0, none⟩)), (1, [], .string ⟨⟨[0]⟩⟩), (2, [], .string ⟨⟨[239, 191, 189]⟩⟩), (3, [], .int .i64 2), (4, [], .pointer (some ⟨b3m, 0, none⟩)), (14, [], .int .u8 0)]) (L := [Ent.blk b146m [.pointer (some ⟨b13n, 0, none⟩), .pointer none, .pointer (some ⟨b182m, 0, none⟩), .pointer (some ⟨b164m, 0, none⟩)], Ent.blk b13n [.string ⟨⟨[]⟩⟩, .int .i64 0, .string ⟨⟨[]⟩⟩, .pointer none, .slice none 0 0], Ent.blk b182m [.string ⟨⟨[10]⟩⟩, .int .i64 4, .string ⟨⟨[]⟩⟩, .pointer none, .slice none 0 0], Ent.blk b164m [.string ⟨⟨[10]⟩⟩, .int .i64 6, .string ⟨⟨[10]⟩⟩, .pointer (some ⟨b163m, 0, none⟩), .slice none 0 0], Ent.blk b163m [.string ⟨⟨[10]⟩⟩, .int .i64 8, .string ⟨⟨[]⟩⟩, .pointer none, .slice none 0 0], Ent.mix .u8 b3m [.string ⟨⟨[]⟩⟩, .int .i64 0, .string ⟨⟨[]⟩⟩, .pointer none, .slice (some ⟨b146m, 0, none⟩) 4 4, .int .i64 4] gmap (256 : Int)]) 13 6 (fun yg20n => [.pointer (some ⟨b3m, 0, none⟩), .pointer (some ⟨b3m, 0, none⟩), .pointer (some ⟨b3m, 4, none⟩), .slice (some ⟨b146m, 0, none⟩) 4 4, .int .u8 0, .pointer (some ⟨b146m, 0, none⟩), .pointer (some ⟨b13n, 0, none⟩), .string ⟨⟨[0]⟩⟩, .string ⟨⟨[]⟩⟩, .string ⟨⟨[239, 191, 189]⟩⟩, .int .i64 2, .pointer (some ⟨b3m, 0, none⟩), .tuple ⟨[]⟩]) (fun yg20n => [[], [], [], [], [], [], [], [], [], [], [], [], [Ent.blk b13n [.string ⟨⟨[239, 191, 189]⟩⟩, .int .i64 2, .string ⟨⟨[]⟩⟩, .pointer none, .slice none 0 0]]]) [[13, 14, 15, 16, 17, 18], [13, 14, 15, 16, 17, 18], [13, 14, 15, 16, 17, 18], [13, 14, 15, 16, 17, 18], [], [13, 14, 15, 16, 17], [13, 14, 15, 16, 17], [], [], [], [], [13, 14, 15, 16, 17, 18], [13, 14, 15, 16, 17, 18]] [[], [], [], [], [], [], [], [], [], [], [], [], [14]] [[0], [0, 1], [0, 1, 2], [0, 1, 2, 3], [4], [0, 1, 2, 3, 4, 5], [0, 1, 2, 3, 4, 5, 6], [7], [7, 8], [9], [10], [11], [0, 1, 2, 3, 4, 5, 6, 7, 8, 9, 10, 11, 12]] [] (FrG.keep (ks := [0, 1, 2, 3, 4, 14]) H19n (by kernel_rfl)) (fun _ _ h => by cases h) (by kernel_rfl) hS (by kernel_rfl) rfl rfl (by kernel_rfl) (by kernel_rfl) (by kernel_rfl) (gd_none (by kernel_rfl) _ _) ?hloc_yg20n ?hstep_yg20n fun _ wd21n yg20n H22n hv hS => ?hK_yg20n
 case hloc_yg20n => exact ⟨(fun _ _ _ _ => ⟨rfl, rfl⟩), (fun _ _ _ _ => ⟨rfl, rfl⟩), (fun _ _ _ _ => ⟨rfl, rfl⟩), (fun _ _ _ _ => ⟨rfl, rfl⟩), (fun _ _ _ _ => ⟨rfl, rfl⟩), (fun _ _ _ _ => ⟨rfl, rfl⟩), (fun _ _ _ _ => ⟨rfl, rfl⟩), (fun _ _ _ _ => ⟨rfl, rfl⟩), (fun _ _ _ _ => ⟨rfl, rfl⟩), (fun _ _ _ _ => ⟨rfl, rfl⟩), (fun _ _ _ _ => ⟨rfl, rfl⟩), (fun _ _ _ _ => ⟨rfl, rfl⟩), (fun _ _ _ _ => ⟨rfl, rfl⟩), trivial⟩
 case hstep_yg20n =>
  refine ⟨?_, ?_, ?_, ?_, ?_, ?_, ?_, ?_, ?_, ?_, ?_, ?_, ?_, trivial⟩
  ·intro o ho a w yg20n M Hb hv hO hS0
   obtain rfl := Option.some.inj ho
   have H : Fr 241 ([] ++ [(0, [], .pointer (some ⟨b3m, 0, none⟩)), (1, [], .string ⟨⟨[0]⟩⟩), (2, [], .string ⟨⟨[239, 191, 189]⟩⟩), (3, [], .int .i64 2), (4, [], .pointer (some ⟨b3m, 0, none⟩)), (14, [], .int .u8 0)]) _ := Hb
   obtain ⟨X, hX⟩ : ∃ X, X = fpl [Ent.blk b146m [.pointer (some ⟨b13n, 0, none⟩), .pointer none, .pointer (some ⟨b182m, 0, none⟩), .pointer (some ⟨b164m, 0, none⟩)], Ent.blk b13n [.string ⟨⟨[]⟩⟩, .int .i64 0, .string ⟨⟨[]⟩⟩, .pointer none, .slice none 0 0], Ent.blk b182m [.string ⟨⟨[10]⟩⟩, .int .i64 4, .string ⟨⟨[]⟩⟩, .pointer none, .slice none 0 0], Ent.blk b164m [.string ⟨⟨[10]⟩⟩, .int .i64 6, .string ⟨⟨[10]⟩⟩, .pointer (some ⟨b163m, 0, none⟩), .slice none 0 0], Ent.blk b163m [.string ⟨⟨[10]⟩⟩, .int .i64 8, .string ⟨⟨[]⟩⟩, .pointer none, .slice none 0 0], Ent.mix .u8 b3m [.string ⟨⟨[]⟩⟩, .int .i64 0, .string ⟨⟨[]⟩⟩, .pointer none, .slice (some ⟨b146m, 0, none⟩) 4 4, .int .i64 4] gmap (256 : Int)] := ⟨_, rfl⟩
   have hS : SH M X w [Ent.blk b146m [.pointer (some ⟨b13n, 0, none⟩), .pointer none, .pointer (some ⟨b182m, 0, none⟩), .pointer (some ⟨b164m, 0, none⟩)], Ent.blk b13n [.string ⟨⟨[]⟩⟩, .int .i64 0, .string ⟨⟨[]⟩⟩, .pointer none, .slice none 0 0], Ent.blk b182m [.string ⟨⟨[10]⟩⟩, .int .i64 4, .string ⟨⟨[]⟩⟩, .pointer none, .slice none 0 0], Ent.blk b164m [.string ⟨⟨[10]⟩⟩, .int .i64 6, .string ⟨⟨[10]⟩⟩, .pointer (some ⟨b163m, 0, none⟩), .slice none 0 0], Ent.blk b163m [.string ⟨⟨[10]⟩⟩, .int .i64 8, .string ⟨⟨[]⟩⟩, .pointer none, .slice none 0 0], Ent.mix .u8 b3m [.string ⟨⟨[]⟩⟩, .int .i64 0, .string ⟨⟨[]⟩⟩, .pointer none, .slice (some ⟨b146m, 0, none⟩) 4 4, .int .i64 4] gmap (256 : Int)] w := by rw [hX]; exact hS0
   refine Stp.mono (o_evs [] (.pointer (some ⟨b3m, 0, none⟩)) none [] H rfl (by kernel_rfl) (fun q e => by cases e)) ?_
   rintro v w2 ⟨rfl, hq⟩
   replace hS : SH M X w [Ent.blk b146m [.pointer (some ⟨b13n, 0, none⟩), .pointer none, .pointer (some ⟨b182m, 0, none⟩), .pointer (some ⟨b164m, 0, none⟩)], Ent.blk b13n [.string ⟨⟨[]⟩⟩, .int .i64 0, .string ⟨⟨[]⟩⟩, .pointer none, .slice none 0 0], Ent.blk b182m [.string ⟨⟨[10]⟩⟩, .int .i64 4, .string ⟨⟨[]⟩⟩, .pointer none, .slice none 0 0], Ent.blk b164m [.string ⟨⟨[10]⟩⟩, .int .i64 6, .string ⟨⟨[10]⟩⟩, .pointer (some ⟨b163m, 0, none⟩), .slice none 0 0], Ent.blk b163m [.string ⟨⟨[10]⟩⟩, .int .i64 8, .string ⟨⟨[]⟩⟩, .pointer none, .slice none 0 0], Ent.mix .u8 b3m [.string ⟨⟨[]⟩⟩, .int .i64 0, .string ⟨⟨[]⟩⟩, .pointer none, .slice (some ⟨b146m, 0, none⟩) 4 4, .int .i64 4] gmap (256 : Int)] _ := hS.below hq.below
   rw [hX] at hS
   exact ⟨gL [], fun _ _ => rfl, hS.sel [0, 1, 2, 3, 4, 5] rfl⟩
  ·intro o ho a w yg20n M Hb hv hO hS0
   obtain rfl := Option.some.inj ho
   have H : Fr 241 ([(212, [], .pointer (some ⟨b3m, 0, none⟩))] ++ [(0, [], .pointer (some ⟨b3m, 0, none⟩)), (1, [], .string ⟨⟨[0]⟩⟩), (2, [], .string ⟨⟨[239, 191, 189]⟩⟩), (3, [], .int .i64 2), (4, [], .pointer (some ⟨b3m, 0, none⟩)), (14, [], .int .u8 0)]) _ := (Hb).add (hv 0 (by decide) (by decide) 212 rfl)
   obtain ⟨X, hX⟩ : ∃ X, X = fpl [Ent.blk b146m [.pointer (some ⟨b13n, 0, none⟩), .pointer none, .pointer (some ⟨b182m, 0, none⟩), .pointer (some ⟨b164m, 0, none⟩)], Ent.blk b13n [.string ⟨⟨[]⟩⟩, .int .i64 0, .string ⟨⟨[]⟩⟩, .pointer none, .slice none 0 0], Ent.blk b182m [.string ⟨⟨[10]⟩⟩, .int .i64 4, .string ⟨⟨[]⟩⟩, .pointer none, .slice none 0 0], Ent.blk b164m [.string ⟨⟨[10]⟩⟩, .int .i64 6, .string ⟨⟨[10]⟩⟩, .pointer (some ⟨b163m, 0, none⟩), .slice none 0 0], Ent.blk b163m [.string ⟨⟨[10]⟩⟩, .int .i64 8, .string ⟨⟨[]⟩⟩, .pointer none, .slice none 0 0], Ent.mix .u8 b3m [.string ⟨⟨[]⟩⟩, .int .i64 0, .string ⟨⟨[]⟩⟩, .pointer none, .slice (some ⟨b146m, 0, none⟩) 4 4, .int .i64 4] gmap (256 : Int)] := ⟨_, rfl⟩
   have hS : SH M X w [Ent.blk b146m [.pointer (some ⟨b13n, 0, none⟩), .pointer none, .pointer (some ⟨b182m, 0, none⟩), .pointer (some ⟨b164m, 0, none⟩)], Ent.blk b13n [.string ⟨⟨[]⟩⟩, .int .i64 0, .string ⟨⟨[]⟩⟩, .pointer none, .slice none 0 0], Ent.blk b182m [.string ⟨⟨[10]⟩⟩, .int .i64 4, .string ⟨⟨[]⟩⟩, .pointer none, .slice none 0 0], Ent.blk b164m [.string ⟨⟨[10]⟩⟩, .int .i64 6, .string ⟨⟨[10]⟩⟩, .pointer (some ⟨b163m, 0, none⟩), .slice none 0 0], Ent.blk b163m [.string ⟨⟨[10]⟩⟩, .int .i64 8, .string ⟨⟨[]⟩⟩, .pointer none, .slice none 0 0], Ent.mix .u8 b3m [.string ⟨⟨[]⟩⟩, .int .i64 0, .string ⟨⟨[]⟩⟩, .pointer none, .slice (some ⟨b146m, 0, none⟩) 4 4, .int .i64 4] gmap (256 : Int)] w := by rw [hX]; exact hS0
   refine Stp.mono (o_evs [] (.pointer (some ⟨b3m, 0, none⟩)) none [] H rfl (by kernel_rfl) (fun q e => by cases e)) ?_
   rintro v w2 ⟨rfl, hq⟩
   replace hS : SH M X w [Ent.blk b146m [.pointer (some ⟨b13n, 0, none⟩), .pointer none, .pointer (some ⟨b182m, 0, none⟩), .pointer (some ⟨b164m, 0, none⟩)], Ent.blk b13n [.string ⟨⟨[]⟩⟩, .int .i64 0, .string ⟨⟨[]⟩⟩, .pointer none, .slice none 0 0], Ent.blk b182m [.string ⟨⟨[10]⟩⟩, .int .i64 4, .string ⟨⟨[]⟩⟩, .pointer none, .slice none 0 0], Ent.blk b164m [.string ⟨⟨[10]⟩⟩, .int .i64 6, .string ⟨⟨[10]⟩⟩, .pointer (some ⟨b163m, 0, none⟩), .slice none 0 0], Ent.blk b163m [.string ⟨⟨[10]⟩⟩, .int .i64 8, .string ⟨⟨[]⟩⟩, .pointer none, .slice none 0 0], Ent.mix .u8 b3m [.string ⟨⟨[]⟩⟩, .int .i64 0, .string ⟨⟨[]⟩⟩, .pointer none, .slice (some ⟨b146m, 0, none⟩) 4 4, .int .i64 4] gmap (256 : Int)] _ := hS.below hq.below
   rw [hX] at hS
   exact ⟨gL [], fun _ _ => rfl, hS.sel [0, 1, 2, 3, 4, 5] rfl⟩
  ·intro o ho a w yg20n M Hb hv hO hS0
   obtain rfl := Option.some.inj ho
   have H : Fr 241 ([(213, [], .pointer (some ⟨b3m, 0, none⟩))] ++ [(0, [], .pointer (some ⟨b3m, 0, none⟩)), (1, [], .string ⟨⟨[0]⟩⟩), (2, [], .string ⟨⟨[239, 191, 189]⟩⟩), (3, [], .int .i64 2), (4, [], .pointer (some ⟨b3m, 0, none⟩)), (14, [], .int .u8 0)]) _ := (Hb).add (hv 1 (by decide) (by decide) 213 rfl)
   obtain ⟨X, hX⟩ : ∃ X, X = fpl [Ent.blk b146m [.pointer (some ⟨b13n, 0, none⟩), .pointer none, .pointer (some ⟨b182m, 0, none⟩), .pointer (some ⟨b164m, 0, none⟩)], Ent.blk b13n [.string ⟨⟨[]⟩⟩, .int .i64 0, .string ⟨⟨[]⟩⟩, .pointer none, .slice none 0 0], Ent.blk b182m [.string ⟨⟨[10]⟩⟩, .int .i64 4, .string ⟨⟨[]⟩⟩, .pointer none, .slice none 0 0], Ent.blk b164m [.string ⟨⟨[10]⟩⟩, .int .i64 6, .string ⟨⟨[10]⟩⟩, .pointer (some ⟨b163m, 0, none⟩), .slice none 0 0], Ent.blk b163m [.string ⟨⟨[10]⟩⟩, .int .i64 8, .string ⟨⟨[]⟩⟩, .pointer none, .slice none 0 0], Ent.mix .u8 b3m [.string ⟨⟨[]⟩⟩, .int .i64 0, .string ⟨⟨[]⟩⟩, .pointer none, .slice (some ⟨b146m, 0, none⟩) 4 4, .int .i64 4] gmap (256 : Int)] := ⟨_, rfl⟩
   have hS : SH M X w [Ent.blk b146m [.pointer (some ⟨b13n, 0, none⟩), .pointer none, .pointer (some ⟨b182m, 0, none⟩), .pointer (some ⟨b164m, 0, none⟩)], Ent.blk b13n [.string ⟨⟨[]⟩⟩, .int .i64 0, .string ⟨⟨[]⟩⟩, .pointer none, .slice none 0 0], Ent.blk b182m [.string ⟨⟨[10]⟩⟩, .int .i64 4, .string ⟨⟨[]⟩⟩, .pointer none, .slice none 0 0], Ent.blk b164m [.string ⟨⟨[10]⟩⟩, .int .i64 6, .string ⟨⟨[10]⟩⟩, .pointer (some ⟨b163m, 0, none⟩), .slice none 0 0], Ent.blk b163m [.string ⟨⟨[10]⟩⟩, .int .i64 8, .string ⟨⟨[]⟩⟩, .pointer none, .slice none 0 0], Ent.mix .u8 b3m [.string ⟨⟨[]⟩⟩, .int .i64 0, .string ⟨⟨[]⟩⟩, .pointer none, .slice (some ⟨b146m, 0, none⟩) 4 4, .int .i64 4] gmap (256 : Int)] w := by rw [hX]; exact hS0
   refine Stp.mono (o_evs [] (.pointer (some ⟨b3m, 4, none⟩)) none [] H rfl (by kernel_rfl) (fun q e => by cases e)) ?_
   rintro v w2 ⟨rfl, hq⟩
   replace hS : SH M X w [Ent.blk b146m [.pointer (some ⟨b13n, 0, none⟩), .pointer none, .pointer (some ⟨b182m, 0, none⟩), .pointer (some ⟨b164m, 0, none⟩)], Ent.blk b13n [.string ⟨⟨[]⟩⟩, .int .i64 0, .string ⟨⟨[]⟩⟩, .pointer none, .slice none 0 0], Ent.blk b182m [.string ⟨⟨[10]⟩⟩, .int .i64 4, .string ⟨⟨[]⟩⟩, .pointer none, .slice none 0 0], Ent.blk b164m [.string ⟨⟨[10]⟩⟩, .int .i64 6, .string ⟨⟨[10]⟩⟩, .pointer (some ⟨b163m, 0, none⟩), .slice none 0 0], Ent.blk b163m [.string ⟨⟨[10]⟩⟩, .int .i64 8, .string ⟨⟨[]⟩⟩, .pointer none, .slice none 0 0], Ent.mix .u8 b3m [.string ⟨⟨[]⟩⟩, .int .i64 0, .string ⟨⟨[]⟩⟩, .pointer none, .slice (some ⟨b146m, 0, none⟩) 4 4, .int .i64 4] gmap (256 : Int)] _ := hS.below hq.below
   rw [hX] at hS
   exact ⟨gL [], fun _ _ => rfl, hS.sel [0, 1, 2, 3, 4, 5] rfl⟩
  ·intro o ho a w yg20n M Hb hv hO hS0
   obtain rfl := Option.some.inj ho
   have H : Fr 241 ([(214, [], .pointer (some ⟨b3m, 4, none⟩))] ++ [(0, [], .pointer (some ⟨b3m, 0, none⟩)), (1, [], .string ⟨⟨[0]⟩⟩), (2, [], .string ⟨⟨[239, 191, 189]⟩⟩), (3, [], .int .i64 2), (4, [], .pointer (some ⟨b3m, 0, none⟩)), (14, [], .int .u8 0)]) _ := (Hb).add (hv 2 (by decide) (by decide) 214 rfl)
   obtain ⟨X, hX⟩ : ∃ X, X = fpl [Ent.blk b146m [.pointer (some ⟨b13n, 0, none⟩), .pointer none, .pointer (some ⟨b182m, 0, none⟩), .pointer (some ⟨b164m, 0, none⟩)], Ent.blk b13n [.string ⟨⟨[]⟩⟩, .int .i64 0, .string ⟨⟨[]⟩⟩, .pointer none, .slice none 0 0], Ent.blk b182m [.string ⟨⟨[10]⟩⟩, .int .i64 4, .string ⟨⟨[]⟩⟩, .pointer none, .slice none 0 0], Ent.blk b164m [.string ⟨⟨[10]⟩⟩, .int .i64 6, .string ⟨⟨[10]⟩⟩, .pointer (some ⟨b163m, 0, none⟩), .slice none 0 0], Ent.blk b163m [.string ⟨⟨[10]⟩⟩, .int .i64 8, .string ⟨⟨[]⟩⟩, .pointer none, .slice none 0 0], Ent.mix .u8 b3m [.string ⟨⟨[]⟩⟩, .int .i64 0, .string ⟨⟨[]⟩⟩, .pointer none, .slice (some ⟨b146m, 0, none⟩) 4 4, .int .i64 4] gmap (256 : Int)] := ⟨_, rfl⟩
   have hS : SH M X w [Ent.blk b146m [.pointer (some ⟨b13n, 0, none⟩), .pointer none, .pointer (some ⟨b182m, 0, none⟩), .pointer (some ⟨b164m, 0, none⟩)], Ent.blk b13n [.string ⟨⟨[]⟩⟩, .int .i64 0, .string ⟨⟨[]⟩⟩, .pointer none, .slice none 0 0], Ent.blk b182m [.string ⟨⟨[10]⟩⟩, .int .i64 4, .string ⟨⟨[]⟩⟩, .pointer none, .slice none 0 0], Ent.blk b164m [.string ⟨⟨[10]⟩⟩, .int .i64 6, .string ⟨⟨[10]⟩⟩, .pointer (some ⟨b163m, 0, none⟩), .slice none 0 0], Ent.blk b163m [.string ⟨⟨[10]⟩⟩, .int .i64 8, .string ⟨⟨[]⟩⟩, .pointer none, .slice none 0 0], Ent.mix .u8 b3m [.string ⟨⟨[]⟩⟩, .int .i64 0, .string ⟨⟨[]⟩⟩, .pointer none, .slice (some ⟨b146m, 0, none⟩) 4 4, .int .i64 4] gmap (256 : Int)] w := by rw [hX]; exact hS0
   refine Stp.mono (o_evs [(.slice (some ⟨b146m, 0, none⟩) 4 4)] (.slice (some ⟨b146m, 0, none⟩) 4 4) (some (fun wz => V.at1 ⟨b3m, 4, none⟩ (.slice (some ⟨b146m, 0, none⟩) 4 4) wz)) [] H rfl (by kernel_rfl) (fun q e => by cases e; exact ((hS.mix 5 rfl).1.at1 rfl))) ?_
   rintro v w2 ⟨rfl, hq⟩
   replace hS : SH M X w [Ent.blk b146m [.pointer (some ⟨b13n, 0, none⟩), .pointer none, .pointer (some ⟨b182m, 0, none⟩), .pointer (some ⟨b164m, 0, none⟩)], Ent.blk b13n [.string ⟨⟨[]⟩⟩, .int .i64 0, .string ⟨⟨[]⟩⟩, .pointer none, .slice none 0 0], Ent.blk b182m [.string ⟨⟨[10]⟩⟩, .int .i64 4, .string ⟨⟨[]⟩⟩, .pointer none, .slice none 0 0], Ent.blk b164m [.string ⟨⟨[10]⟩⟩, .int .i64 6, .string ⟨⟨[10]⟩⟩, .pointer (some ⟨b163m, 0, none⟩), .slice none 0 0], Ent.blk b163m [.string ⟨⟨[10]⟩⟩, .int .i64 8, .string ⟨⟨[]⟩⟩, .pointer none, .slice none 0 0], Ent.mix .u8 b3m [.string ⟨⟨[]⟩⟩, .int .i64 0, .string ⟨⟨[]⟩⟩, .pointer none, .slice (some ⟨b146m, 0, none⟩) 4 4, .int .i64 4] gmap (256 : Int)] _ := hS.below hq.below
   rw [hX] at hS
   exact ⟨gL [], fun _ _ => rfl, hS.sel [0, 1, 2, 3, 4, 5] rfl⟩
  ·intro o ho a w yg20n M Hb hv hO hS0
   obtain rfl := Option.some.inj ho
   have H : Fr 241 ([] ++ [(0, [], .pointer (some ⟨b3m, 0, none⟩)), (1, [], .string ⟨⟨[0]⟩⟩), (2, [], .string ⟨⟨[239, 191, 189]⟩⟩), (3, [], .int .i64 2), (4, [], .pointer (some ⟨b3m, 0, none⟩)), (14, [], .int .u8 0)]) _ := Hb
   obtain ⟨X, hX⟩ : ∃ X, X = fpl [] := ⟨_, rfl⟩
   have hS : SH M X w [] w := by rw [hX]; exact hS0
   refine Stp.mono (o_evs [] (.int .u8 0) none [] H rfl (by kernel_rfl) (fun q e => by cases e)) ?_
   rintro v w2 ⟨rfl, hq⟩
   replace hS : SH M X w [] _ := hS.below hq.below
   rw [hX] at hS
   exact ⟨gL [], fun _ _ => rfl, hS.sel [] rfl⟩
  ·intro o ho a w yg20n M Hb hv hO hS0
   obtain rfl := Option.some.inj ho
   have H : Fr 241 ([(216, [], .int .u8 0), (215, [], .slice (some ⟨b146m, 0, none⟩) 4 4)] ++ [(0, [], .pointer (some ⟨b3m, 0, none⟩)), (1, [], .string ⟨⟨[0]⟩⟩), (2, [], .string ⟨⟨[239, 191, 189]⟩⟩), (3, [], .int .i64 2), (4, [], .pointer (some ⟨b3m, 0, none⟩)), (14, [], .int .u8 0)]) _ := ((Hb).add (hv 3 (by decide) (by decide) 215 rfl)).add (hv 4 (by decide) (by decide) 216 rfl)
   obtain ⟨X, hX⟩ : ∃ X, X = fpl [Ent.blk b146m [.pointer (some ⟨b13n, 0, none⟩), .pointer none, .pointer (some ⟨b182m, 0, none⟩), .pointer (some ⟨b164m, 0, none⟩)], Ent.blk b13n [.string ⟨⟨[]⟩⟩, .int .i64 0, .string ⟨⟨[]⟩⟩, .pointer none, .slice none 0 0], Ent.blk b182m [.string ⟨⟨[10]⟩⟩, .int .i64 4, .string ⟨⟨[]⟩⟩, .pointer none, .slice none 0 0], Ent.blk b164m [.string ⟨⟨[10]⟩⟩, .int .i64 6, .string ⟨⟨[10]⟩⟩, .pointer (some ⟨b163m, 0, none⟩), .slice none 0 0], Ent.blk b163m [.string ⟨⟨[10]⟩⟩, .int .i64 8, .string ⟨⟨[]⟩⟩, .pointer none, .slice none 0 0]] := ⟨_, rfl⟩
   have hS : SH M X w [Ent.blk b146m [.pointer (some ⟨b13n, 0, none⟩), .pointer none, .pointer (some ⟨b182m, 0, none⟩), .pointer (some ⟨b164m, 0, none⟩)], Ent.blk b13n [.string ⟨⟨[]⟩⟩, .int .i64 0, .string ⟨⟨[]⟩⟩, .pointer none, .slice none 0 0], Ent.blk b182m [.string ⟨⟨[10]⟩⟩, .int .i64 4, .string ⟨⟨[]⟩⟩, .pointer none, .slice none 0 0], Ent.blk b164m [.string ⟨⟨[10]⟩⟩, .int .i64 6, .string ⟨⟨[10]⟩⟩, .pointer (some ⟨b163m, 0, none⟩), .slice none 0 0], Ent.blk b163m [.string ⟨⟨[10]⟩⟩, .int .i64 8, .string ⟨⟨[]⟩⟩, .pointer none, .slice none 0 0]] w := by rw [hX]; exact hS0
   refine Stp.mono (o_evs [] (.pointer (some ⟨b146m, 0, none⟩)) (some (fun _ => oka (some ⟨b146m, 0, none⟩) ∧ 0 ≤ (0 : Int) ∧ (0 : Int) < 4)) [] H rfl (by kernel_rfl) (fun q e => by cases e; exact (⟨rfl, (show 0 ≤ (0 : Int) ∧ (0 : Int) < 4 from by decide)⟩))) ?_
   rintro v w2 ⟨rfl, hq⟩
   replace hS : SH M X w [Ent.blk b146m [.pointer (some ⟨b13n, 0, none⟩), .pointer none, .pointer (some ⟨b182m, 0, none⟩), .pointer (some ⟨b164m, 0, none⟩)], Ent.blk b13n [.string ⟨⟨[]⟩⟩, .int .i64 0, .string ⟨⟨[]⟩⟩, .pointer none, .slice none 0 0], Ent.blk b182m [.string ⟨⟨[10]⟩⟩, .int .i64 4, .string ⟨⟨[]⟩⟩, .pointer none, .slice none 0 0], Ent.blk b164m [.string ⟨⟨[10]⟩⟩, .int .i64 6, .string ⟨⟨[10]⟩⟩, .pointer (some ⟨b163m, 0, none⟩), .slice none 0 0], Ent.blk b163m [.string ⟨⟨[10]⟩⟩, .int .i64 8, .string ⟨⟨[]⟩⟩, .pointer none, .slice none 0 0]] _ := hS.below hq.below
   rw [hX] at hS
   exact ⟨gL [], fun _ _ => rfl, hS.sel [0, 1, 2, 3, 4] rfl⟩
  ·intro o ho a w yg20n M Hb hv hO hS0
   obtain rfl := Option.some.inj ho
   have H : Fr 241 ([(217, [], .pointer (some ⟨b146m, 0, none⟩))] ++ [(0, [], .pointer (some ⟨b3m, 0, none⟩)), (1, [], .string ⟨⟨[0]⟩⟩), (2, [], .string ⟨⟨[239, 191, 189]⟩⟩), (3, [], .int .i64 2), (4, [], .pointer (some ⟨b3m, 0, none⟩)), (14, [], .int .u8 0)]) _ := (Hb).add (hv 5 (by decide) (by decide) 217 rfl)
   obtain ⟨X, hX⟩ : ∃ X, X = fpl [Ent.blk b146m [.pointer (some ⟨b13n, 0, none⟩), .pointer none, .pointer (some ⟨b182m, 0, none⟩), .pointer (some ⟨b164m, 0, none⟩)], Ent.blk b13n [.string ⟨⟨[]⟩⟩, .int .i64 0, .string ⟨⟨[]⟩⟩, .pointer none, .slice none 0 0], Ent.blk b182m [.string ⟨⟨[10]⟩⟩, .int .i64 4, .string ⟨⟨[]⟩⟩, .pointer none, .slice none 0 0], Ent.blk b164m [.string ⟨⟨[10]⟩⟩, .int .i64 6, .string ⟨⟨[10]⟩⟩, .pointer (some ⟨b163m, 0, none⟩), .slice none 0 0], Ent.blk b163m [.string ⟨⟨[10]⟩⟩, .int .i64 8, .string ⟨⟨[]⟩⟩, .pointer none, .slice none 0 0]] := ⟨_, rfl⟩
   have hS : SH M X w [Ent.blk b146m [.pointer (some ⟨b13n, 0, none⟩), .pointer none, .pointer (some ⟨b182m, 0, none⟩), .pointer (some ⟨b164m, 0, none⟩)], Ent.blk b13n [.string ⟨⟨[]⟩⟩, .int .i64 0, .string ⟨⟨[]⟩⟩, .pointer none, .slice none 0 0], Ent.blk b182m [.string ⟨⟨[10]⟩⟩, .int .i64 4, .string ⟨⟨[]⟩⟩, .pointer none, .slice none 0 0], Ent.blk b164m [.string ⟨⟨[10]⟩⟩, .int .i64 6, .string ⟨⟨[10]⟩⟩, .pointer (some ⟨b163m, 0, none⟩), .slice none 0 0], Ent.blk b163m [.string ⟨⟨[10]⟩⟩, .int .i64 8, .string ⟨⟨[]⟩⟩, .pointer none, .slice none 0 0]] w := by rw [hX]; exact hS0
   refine Stp.mono (o_evs [(.pointer (some ⟨b13n, 0, none⟩))] (.pointer (some ⟨b13n, 0, none⟩)) (some (fun wz => V.at1 ⟨b146m, 0, none⟩ (.pointer (some ⟨b13n, 0, none⟩)) wz)) [] H rfl (by kernel_rfl) (fun q e => by cases e; exact ((hS.bk 0 rfl).at1 rfl))) ?_
   rintro v w2 ⟨rfl, hq⟩
   replace hS : SH M X w [Ent.blk b146m [.pointer (some ⟨b13n, 0, none⟩), .pointer none, .pointer (some ⟨b182m, 0, none⟩), .pointer (some ⟨b164m, 0, none⟩)], Ent.blk b13n [.string ⟨⟨[]⟩⟩, .int .i64 0, .string ⟨⟨[]⟩⟩, .pointer none, .slice none 0 0], Ent.blk b182m [.string ⟨⟨[10]⟩⟩, .int .i64 4, .string ⟨⟨[]⟩⟩, .pointer none, .slice none 0 0], Ent.blk b164m [.string ⟨⟨[10]⟩⟩, .int .i64 6, .string ⟨⟨[10]⟩⟩, .pointer (some ⟨b163m, 0, none⟩), .slice none 0 0], Ent.blk b163m [.string ⟨⟨[10]⟩⟩, .int .i64 8, .string ⟨⟨[]⟩⟩, .pointer none, .slice none 0 0]] _ := hS.below hq.below
   rw [hX] at hS
   exact ⟨gL [], fun _ _ => rfl, hS.sel [0, 1, 2, 3, 4] rfl⟩
  ·intro o ho a w yg20n M Hb hv hO hS0
   obtain rfl := Option.some.inj ho
   have H : Fr 241 ([] ++ [(0, [], .pointer (some ⟨b3m, 0, none⟩)), (1, [], .string ⟨⟨[0]⟩⟩), (2, [], .string ⟨⟨[239, 191, 189]⟩⟩), (3, [], .int .i64 2), (4, [], .pointer (some ⟨b3m, 0, none⟩)), (14, [], .int .u8 0)]) _ := Hb
   obtain ⟨X, hX⟩ : ∃ X, X = fpl [] := ⟨_, rfl⟩
   have hS : SH M X w [] w := by rw [hX]; exact hS0
   refine Stp.mono (o_evs [] (.string ⟨⟨[0]⟩⟩) none [] H rfl (by kernel_rfl) (fun q e => by cases e)) ?_
   rintro v w2 ⟨rfl, hq⟩
   replace hS : SH M X w [] _ := hS.below hq.below
   rw [hX] at hS
   exact ⟨gL [], fun _ _ => rfl, hS.sel [] rfl⟩
  ·intro o ho a w yg20n M Hb hv hO hS0
   obtain rfl := Option.some.inj ho
   have H : Fr 241 ([(219, [], .string ⟨⟨[0]⟩⟩)] ++ [(0, [], .pointer (some ⟨b3m, 0, none⟩)), (1, [], .string ⟨⟨[0]⟩⟩), (2, [], .string ⟨⟨[239, 191, 189]⟩⟩), (3, [], .int .i64 2), (4, [], .pointer (some ⟨b3m, 0, none⟩)), (14, [], .int .u8 0)]) _ := (Hb).add (hv 7 (by decide) (by decide) 219 rfl)
   obtain ⟨X, hX⟩ : ∃ X, X = fpl [] := ⟨_, rfl⟩
   have hS : SH M X w [] w := by rw [hX]; exact hS0
   refine Stp.mono (o_evs [] (.string ⟨⟨[]⟩⟩) (some (fun _ => 0 ≤ (1 : Int) ∧ (1 : Int) ≤ ln ([0] : Str))) [] H rfl (by kernel_rfl) (fun q e => by cases e; exact (show 0 ≤ (1 : Int) ∧ (1 : Int) ≤ ln ([0] : Str) from by decide))) ?_
   rintro v w2 ⟨rfl, hq⟩
   replace hS : SH M X w [] _ := hS.below hq.below
   rw [hX] at hS
   exact ⟨gL [], fun _ _ => rfl, hS.sel [] rfl⟩
  ·intro o ho a w yg20n M Hb hv hO hS0
   obtain rfl := Option.some.inj ho
   have H : Fr 241 ([] ++ [(0, [], .pointer (some ⟨b3m, 0, none⟩)), (1, [], .string ⟨⟨[0]⟩⟩), (2, [], .string ⟨⟨[239, 191, 189]⟩⟩), (3, [], .int .i64 2), (4, [], .pointer (some ⟨b3m, 0, none⟩)), (14, [], .int .u8 0)]) _ := Hb
   obtain ⟨X, hX⟩ : ∃ X, X = fpl [] := ⟨_, rfl⟩
   have hS : SH M X w [] w := by rw [hX]; exact hS0
   refine Stp.mono (o_evs [] (.string ⟨⟨[239, 191, 189]⟩⟩) none [] H rfl (by kernel_rfl) (fun q e => by cases e)) ?_
   rintro v w2 ⟨rfl, hq⟩
   replace hS : SH M X w [] _ := hS.below hq.below
   rw [hX] at hS
   exact ⟨gL [], fun _ _ => rfl, hS.sel [] rfl⟩
  ·intro o ho a w yg20n M Hb hv hO hS0
   obtain rfl := Option.some.inj ho
   have H : Fr 241 ([] ++ [(0, [], .pointer (some ⟨b3m, 0, none⟩)), (1, [], .string ⟨⟨[0]⟩⟩), (2, [], .string ⟨⟨[239, 191, 189]⟩⟩), (3, [], .int .i64 2), (4, [], .pointer (some ⟨b3m, 0, none⟩)), (14, [], .int .u8 0)]) _ := Hb
   obtain ⟨X, hX⟩ : ∃ X, X = fpl [] := ⟨_, rfl⟩
   have hS : SH M X w [] w := by rw [hX]; exact hS0
   refine Stp.mono (o_evs [] (.int .i64 2) none [] H rfl (by kernel_rfl) (fun q e => by cases e)) ?_
   rintro v w2 ⟨rfl, hq⟩
   replace hS : SH M X w [] _ := hS.below hq.below
   rw [hX] at hS
   exact ⟨gL [], fun _ _ => rfl, hS.sel [] rfl⟩
  ·intro o ho a w yg20n M Hb hv hO hS0
   obtain rfl := Option.some.inj ho
   have H : Fr 241 ([] ++ [(0, [], .pointer (some ⟨b3m, 0, none⟩)), (1, [], .string ⟨⟨[0]⟩⟩), (2, [], .string ⟨⟨[239, 191, 189]⟩⟩), (3, [], .int .i64 2), (4, [], .pointer (some ⟨b3m, 0, none⟩)), (14, [], .int .u8 0)]) _ := Hb
   obtain ⟨X, hX⟩ : ∃ X, X = fpl [Ent.blk b146m [.pointer (some ⟨b13n, 0, none⟩), .pointer none, .pointer (some ⟨b182m, 0, none⟩), .pointer (some ⟨b164m, 0, none⟩)], Ent.blk b13n [.string ⟨⟨[]⟩⟩, .int .i64 0, .string ⟨⟨[]⟩⟩, .pointer none, .slice none 0 0], Ent.blk b182m [.string ⟨⟨[10]⟩⟩, .int .i64 4, .string ⟨⟨[]⟩⟩, .pointer none, .slice none 0 0], Ent.blk b164m [.string ⟨⟨[10]⟩⟩, .int .i64 6, .string ⟨⟨[10]⟩⟩, .pointer (some ⟨b163m, 0, none⟩), .slice none 0 0], Ent.blk b163m [.string ⟨⟨[10]⟩⟩, .int .i64 8, .string ⟨⟨[]⟩⟩, .pointer none, .slice none 0 0], Ent.mix .u8 b3m [.string ⟨⟨[]⟩⟩, .int .i64 0, .string ⟨⟨[]⟩⟩, .pointer none, .slice (some ⟨b146m, 0, none⟩) 4 4, .int .i64 4] gmap (256 : Int)] := ⟨_, rfl⟩
   have hS : SH M X w [Ent.blk b146m [.pointer (some ⟨b13n, 0, none⟩), .pointer none, .pointer (some ⟨b182m, 0, none⟩), .pointer (some ⟨b164m, 0, none⟩)], Ent.blk b13n [.string ⟨⟨[]⟩⟩, .int .i64 0, .string ⟨⟨[]⟩⟩, .pointer none, .slice none 0 0], Ent.blk b182m [.string ⟨⟨[10]⟩⟩, .int .i64 4, .string ⟨⟨[]⟩⟩, .pointer none, .slice none 0 0], Ent.blk b164m [.string ⟨⟨[10]⟩⟩, .int .i64 6, .string ⟨⟨[10]⟩⟩, .pointer (some ⟨b163m, 0, none⟩), .slice none 0 0], Ent.blk b163m [.string ⟨⟨[10]⟩⟩, .int .i64 8, .string ⟨⟨[]⟩⟩, .pointer none, .slice none 0 0], Ent.mix .u8 b3m [.string ⟨⟨[]⟩⟩, .int .i64 0, .string ⟨⟨[]⟩⟩, .pointer none, .slice (some ⟨b146m, 0, none⟩) 4 4, .int .i64 4] gmap (256 : Int)] w := by rw [hX]; exact hS0
   refine Stp.mono (o_evs [] (.pointer (some ⟨b3m, 0, none⟩)) none [] H rfl (by kernel_rfl) (fun q e => by cases e)) ?_
   rintro v w2 ⟨rfl, hq⟩
   replace hS : SH M X w [Ent.blk b146m [.pointer (some ⟨b13n, 0, none⟩), .pointer none, .pointer (some ⟨b182m, 0, none⟩), .pointer (some ⟨b164m, 0, none⟩)], Ent.blk b13n [.string ⟨⟨[]⟩⟩, .int .i64 0, .string ⟨⟨[]⟩⟩, .pointer none, .slice none 0 0], Ent.blk b182m [.string ⟨⟨[10]⟩⟩, .int .i64 4, .string ⟨⟨[]⟩⟩, .pointer none, .slice none 0 0], Ent.blk b164m [.string ⟨⟨[10]⟩⟩, .int .i64 6, .string ⟨⟨[10]⟩⟩, .pointer (some ⟨b163m, 0, none⟩), .slice none 0 0], Ent.blk b163m [.string ⟨⟨[10]⟩⟩, .int .i64 8, .string ⟨⟨[]⟩⟩, .pointer none, .slice none 0 0], Ent.mix .u8 b3m [.string ⟨⟨[]⟩⟩, .int .i64 0, .string ⟨⟨[]⟩⟩, .pointer none, .slice (some ⟨b146m, 0, none⟩) 4 4, .int .i64 4] gmap (256 : Int)] _ := hS.below hq.below
   rw [hX] at hS
   exact ⟨gL [], fun _ _ => rfl, hS.sel [0, 1, 2, 3, 4, 5] rfl⟩
  ·intro o ho a w yg20n M Hb hv hO hS0
   obtain rfl := Option.some.inj ho
   have H : Fr 241 ([(223, [], .pointer (some ⟨b3m, 0, none⟩)), (222, [], .int .i64 2), (221, [], .string ⟨⟨[239, 191, 189]⟩⟩), (220, [], .string ⟨⟨[]⟩⟩), (218, [], .pointer (some ⟨b13n, 0, none⟩))] ++ [(0, [], .pointer (some ⟨b3m, 0, none⟩)), (1, [], .string ⟨⟨[0]⟩⟩), (2, [], .string ⟨⟨[239, 191, 189]⟩⟩), (3, [], .int .i64 2), (4, [], .pointer (some ⟨b3m, 0, none⟩)), (14, [], .int .u8 0)]) _ := (((((Hb).add (hv 6 (by decide) (by decide) 218 rfl)).add (hv 8 (by decide) (by decide) 220 rfl)).add (hv 9 (by decide) (by decide) 221 rfl)).add (hv 10 (by decide) (by decide) 222 rfl)).add (hv 11 (by decide) (by decide) 223 rfl)
   obtain ⟨X, hX⟩ : ∃ X, X = fpl [Ent.blk b146m [.pointer (some ⟨b13n, 0, none⟩), .pointer none, .pointer (some ⟨b182m, 0, none⟩), .pointer (some ⟨b164m, 0, none⟩)], Ent.blk b13n [.string ⟨⟨[]⟩⟩, .int .i64 0, .string ⟨⟨[]⟩⟩, .pointer none, .slice none 0 0], Ent.blk b182m [.string ⟨⟨[10]⟩⟩, .int .i64 4, .string ⟨⟨[]⟩⟩, .pointer none, .slice none 0 0], Ent.blk b164m [.string ⟨⟨[10]⟩⟩, .int .i64 6, .string ⟨⟨[10]⟩⟩, .pointer (some ⟨b163m, 0, none⟩), .slice none 0 0], Ent.blk b163m [.string ⟨⟨[10]⟩⟩, .int .i64 8, .string ⟨⟨[]⟩⟩, .pointer none, .slice none 0 0], Ent.mix .u8 b3m [.string ⟨⟨[]⟩⟩, .int .i64 0, .string ⟨⟨[]⟩⟩, .pointer none, .slice (some ⟨b146m, 0, none⟩) 4 4, .int .i64 4] gmap (256 : Int)] := ⟨_, rfl⟩
   have hS : SH M X w [Ent.blk b146m [.pointer (some ⟨b13n, 0, none⟩), .pointer none, .pointer (some ⟨b182m, 0, none⟩), .pointer (some ⟨b164m, 0, none⟩)], Ent.blk b13n [.string ⟨⟨[]⟩⟩, .int .i64 0, .string ⟨⟨[]⟩⟩, .pointer none, .slice none 0 0], Ent.blk b182m [.string ⟨⟨[10]⟩⟩, .int .i64 4, .string ⟨⟨[]⟩⟩, .pointer none, .slice none 0 0], Ent.blk b164m [.string ⟨⟨[10]⟩⟩, .int .i64 6, .string ⟨⟨[10]⟩⟩, .pointer (some ⟨b163m, 0, none⟩), .slice none 0 0], Ent.blk b163m [.string ⟨⟨[10]⟩⟩, .int .i64 8, .string ⟨⟨[]⟩⟩, .pointer none, .slice none 0 0], Ent.mix .u8 b3m [.string ⟨⟨[]⟩⟩, .int .i64 0, .string ⟨⟨[]⟩⟩, .pointer none, .slice (some ⟨b146m, 0, none⟩) 4 4, .int .i64 4] gmap (256 : Int)] w := by rw [hX]; exact hS0
   have hd := hS.hand [0, 1, 2, 3, 4, 5] [] rfl rfl
   refine Stp.mono (o_callx H rfl rfl (strings_trieNode_add_cs9 _ _ hd)) ?_
   rintro v w2 hq
   obtain ⟨rfl, hq⟩ := hq
   replace hS : SH M X w [Ent.blk b13n [.string ⟨⟨[239, 191, 189]⟩⟩, .int .i64 2, .string ⟨⟨[]⟩⟩, .pointer none, .slice none 0 0], Ent.blk b146m [.pointer (some ⟨b13n, 0, none⟩), .pointer none, .pointer (some ⟨b182m, 0, none⟩), .pointer (some ⟨b164m, 0, none⟩)], Ent.blk b182m [.string ⟨⟨[10]⟩⟩, .int .i64 4, .string ⟨⟨[]⟩⟩, .pointer none, .slice none 0 0], Ent.blk b164m [.string ⟨⟨[10]⟩⟩, .int .i64 6, .string ⟨⟨[10]⟩⟩, .pointer (some ⟨b163m, 0, none⟩), .slice none 0 0], Ent.blk b163m [.string ⟨⟨[10]⟩⟩, .int .i64 8, .string ⟨⟨[]⟩⟩, .pointer none, .slice none 0 0], Ent.mix .u8 b3m [.string ⟨⟨[]⟩⟩, .int .i64 0, .string ⟨⟨[]⟩⟩, .pointer none, .slice (some ⟨b146m, 0, none⟩) 4 4, .int .i64 4] gmap (256 : Int)] _ := hS.join [0, 1, 2, 3, 4, 5] [] rfl rfl hq
   clear hq
   rw [hX] at hS
   exact ⟨gL [], fun _ _ => rfl, hS.sel [0, 1, 2, 3, 4, 5] rfl⟩
 have H23n : Fr 241 [] _ := (FrG.keep (ks := []) H22n (by kernel_rfl))
 replace hS : SH M X w [Ent.blk b13n [.string ⟨⟨[239, 191, 189]⟩⟩, .int .i64 2, .string ⟨⟨[]⟩⟩, .pointer none, .slice none 0 0], Ent.blk b146m [.pointer (some ⟨b13n, 0, none⟩), .pointer none, .pointer (some ⟨b182m, 0, none⟩), .pointer (some ⟨b164m, 0, none⟩)], Ent.blk b182m [.string ⟨⟨[10]⟩⟩, .int .i64 4, .string ⟨⟨[]⟩⟩, .pointer none, .slice none 0 0], Ent.blk b164m [.string ⟨⟨[10]⟩⟩, .int .i64 6, .string ⟨⟨[10]⟩⟩, .pointer (some ⟨b163m, 0, none⟩), .slice none 0 0], Ent.blk b163m [.string ⟨⟨[10]⟩⟩, .int .i64 8, .string ⟨⟨[]⟩⟩, .pointer none, .slice none 0 0], Ent.mix .u8 b3m [.string ⟨⟨[]⟩⟩, .int .i64 0, .string ⟨⟨[]⟩⟩, .pointer none, .slice (some ⟨b146m, 0, none⟩) 4 4, .int .i64 4] gmap (256 : Int)] _ := hS
 clear hv H22n
 try dsimp only
 exact retR0 H23n rfl ⟨_, rfl, b13n, rfl, (hS.sel [0, 1, 2, 3, 4, 5] rfl)⟩

def strings_makeGenericReplacer_cs_L1 (m : Nat)  : Nat → Int → Int → Option (Int)
  | 0, _, _ => none
  | kk + 1, v95m, v96m =>
    cond (decide (v95m < 256)) (
    chk (0 ≤ v95m ∧ v95m < (256 : Int)) <|
    strings_makeGenericReplacer_cs_L1 m  kk (w64 (v95m + 1)) (w64 (v96m + (w64 (gi (agi (seti (seti (seti (seti (seti (List.replicate 256 (0 : Int)) (13 : Int) 1) (10 : Int) 1) (13 : Int) 1) (12 : Int) 1) (0 : Int) 1) 256) v95m))))) (
    some v96m)
def strings_makeGenericReplacer_cs_L2 (m : Nat)  : Nat → Int → Int → (List Int) → Option (List Int)
  | 0, _, _, _ => none
  | kk + 1, v115m, v116m, v117m =>
    cond (decide (v116m < 256)) (
    Option.bind (
    chk (0 ≤ v116m ∧ v116m < (256 : Int)) <|
    cond ((gi (agi (seti (seti (seti (seti (seti (List.replicate 256 (0 : Int)) (13 : Int) 1) (10 : Int) 1) (13 : Int) 1) (12 : Int) 1) (0 : Int) 1) 256) v116m) == 0) (
    lt (seti v117m v116m 4) fun q127m =>
    some (v115m, q127m)) (
    lt (seti v117m v116m v115m) fun q135m =>
    some (wu8 (v115m + 1), q135m))) fun (z120m : Int × (List Int)) =>
    strings_makeGenericReplacer_cs_L2 m  kk z120m.1 (w64 (v116m + 1)) z120m.2) (
    some v117m)
end Go.Proofs.Ytihckkbhieblkaa
