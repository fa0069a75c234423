/-
  What the Go functions compute, as Lean functions, and that a call returns just that. Printed by a program.
-/
import Derived.Test.YtfcnkhiohnjepaaDoorRows
import Derived.Test.YtfcnkhiohnjepaaDoorD
import Derived.Test.YtfcnkhiohnjepaaDoorW25a
set_option linter.unusedVariables false
set_option maxRecDepth 20000
set_option maxHeartbeats 4000000
namespace Go.Proofs.YtfcnkhiohnjepaaDoor
open Go.V Go.RowKit

theorem r25_Table_w  (M : Av)  (r : List TProp) (hm : r25_Table = some r) (w : World) (hS : S0 M [] w) : Calls Tryd.prog 23 ⟨[]⟩ w (fun e w' => ∃ v, e = .returned v ∧ ∃ (g901 : Gh), v = .slice g901.a r.length g901.c ∧ SH M (fpl []) w [Ent.own 51 tyProp r g901] w') := by
  rw [r25_Table] at hm
  have hS0 : SH M (fpl []) w [] w := hS
  generalize hX : fpl [] = X at hS0 ⊢
  clear hS hX
  have hS := hS0
  clear hS0
  refine calls_entryP Tryd.func23 rfl Tryd.ntmps23 rfl fun _ H => ?_
  refine s_reg [] [] [] [] H (by kernel_rfl) trivial fun _ wd1 H2 hb => ?_
  clear H
  replace hS := hS.below hb
  clear hb
  refine w_seq ?_
  refine wl_start ?_
  refine wl_batch 0 1 [] [5] [(5, [], .agg ⟨[.int .u8 8, .string ⟨⟨[]⟩⟩, .int .i64 0, .int .u8 0, .int .u8 0, .int .u8 0, .int .u8 0]⟩)] [] H2 (by decide) (by kernel_rfl) trivial fun _ wd3 H4 hb => ?_
  clear H2
  replace hS := hS.below hb
  clear hb
  have hd : S0 (AvL M []) [] _ := hS.hand [] [] rfl rfl
  refine m_stp [1, 5] [(5, [], .agg ⟨[.int .u8 8, .string ⟨⟨[]⟩⟩, .int .i64 0, .int .u8 0, .int .u8 0, .int .u8 0, .int .u8 0]⟩)] H4 rfl rfl rfl rfl (o_alloc [.int .u8 0, .string ⟨⟨[]⟩⟩, .int .i64 0, .int .u8 0, .int .u8 0, .int .u8 0, .int .u8 0] (z := .agg ⟨[.int .u8 0, .string ⟨⟨[]⟩⟩, .int .i64 0, .int .u8 0, .int .u8 0, .int .u8 0, .int .u8 0]⟩) hd (by kernel_rfl) rfl) (fun _ => rfl) fun _ wd6 v H7 hq => ?_
  clear H4 hd
  obtain ⟨b5, rfl, hq⟩ := hq
  replace hS : SH M X w [Ent.blk b5 [.int .u8 0, .string ⟨⟨[]⟩⟩, .int .i64 0, .int .u8 0, .int .u8 0, .int .u8 0, .int .u8 0]] _ := hS.join [] [] rfl rfl hq
  clear hq
  have hd : S0 (AvL M []) [Ent.blk b5 [.int .u8 0, .string ⟨⟨[]⟩⟩, .int .i64 0, .int .u8 0, .int .u8 0, .int .u8 0, .int .u8 0]] _ := hS.hand [0] [] rfl rfl
  refine m_stp0 [1] [(1, [], .pointer (some ⟨b5, 0, none⟩))] H7 rfl rfl rfl (o_store [.int .u8 8, .string ⟨⟨[]⟩⟩, .int .i64 0, .int .u8 0, .int .u8 0, .int .u8 0, .int .u8 0] H7 hd rfl rfl (by kernel_rfl) rfl rfl rfl) rfl fun _ wd8 H9 hq => ?_
  clear H7 hd
  obtain ⟨_, hq⟩ := hq
  replace hS : SH M X w [Ent.blk b5 [.int .u8 8, .string ⟨⟨[]⟩⟩, .int .i64 0, .int .u8 0, .int .u8 0, .int .u8 0, .int .u8 0]] _ := hS.join [0] [] rfl rfl hq
  clear hq
  refine wl_end rfl ?_
  refine w_seq ?_
  refine wl_start ?_
  have hd : S0 (AvL M [Ent.blk b5 [.int .u8 8, .string ⟨⟨[]⟩⟩, .int .i64 0, .int .u8 0, .int .u8 0, .int .u8 0, .int .u8 0]]) [] _ := hS.hand [] [0] rfl rfl
  refine m_stp [6, 1] [(1, [], .pointer (some ⟨b5, 0, none⟩))] H9 rfl rfl rfl rfl (o_lit (T := (tI .u8)) (E := 5) (zv := .int .u8 0) [.int .u8 7, .int .u8 8] ([7, 8] : List Int) [gL [], gL []] _ H9 hd rfl (by kernel_rfl) (by kernel_rfl) (by kernel_rfl) (by kernel_rfl) (by kernel_rfl) (by kernel_rfl) (by kernel_rfl) rfl (InnL.cons trivial (InnL.cons trivial InnL.nil))) (fun _ => rfl) fun _ wd12 v H13 hq => ?_
  clear H9 hd
  obtain ⟨g10, rfl, hq⟩ := hq
  replace hS : SH M X w [Ent.own 5 (tI .u8) ([7, 8] : List Int) g10, Ent.blk b5 [.int .u8 8, .string ⟨⟨[]⟩⟩, .int .i64 0, .int .u8 0, .int .u8 0, .int .u8 0, .int .u8 0]] _ := hS.join [] [0] rfl rfl hq
  clear hq
  refine wl_batch 1 2 [] [1, 2] [(1, [], .pointer (some ⟨b5, 0, none⟩)), (2, [], .slice g10.a 2 g10.c)] [] H13 (by decide) (by kernel_rfl) trivial fun _ wd14 H15 hb => ?_
  clear H13
  replace hS := hS.below hb
  clear hb
  refine wl_end rfl ?_
  refine w_seq ?_
  refine wl_start ?_
  have hd : S0 (AvL M [Ent.own 5 (tI .u8) ([7, 8] : List Int) g10, Ent.blk b5 [.int .u8 8, .string ⟨⟨[]⟩⟩, .int .i64 0, .int .u8 0, .int .u8 0, .int .u8 0, .int .u8 0]]) [] _ := hS.hand [] [0, 1] rfl rfl
  refine m_stp [7, 1, 2] [(1, [], .pointer (some ⟨b5, 0, none⟩)), (2, [], .slice g10.a 2 g10.c)] H15 rfl rfl rfl rfl (o_lit (T := (tI .u8)) (E := 5) (zv := .int .u8 0) [.int .u8 2, .int .u8 3, .int .u8 4] ([2, 3, 4] : List Int) [gL [], gL [], gL []] _ H15 hd rfl (by kernel_rfl) (by kernel_rfl) (by kernel_rfl) (by kernel_rfl) (by kernel_rfl) (by kernel_rfl) (by kernel_rfl) rfl (InnL.cons trivial (InnL.cons trivial (InnL.cons trivial InnL.nil)))) (fun _ => rfl) fun _ wd18 v H19 hq => ?_
  clear H15 hd
  obtain ⟨g16, rfl, hq⟩ := hq
  replace hS : SH M X w [Ent.own 5 (tI .u8) ([2, 3, 4] : List Int) g16, Ent.own 5 (tI .u8) ([7, 8] : List Int) g10, Ent.blk b5 [.int .u8 8, .string ⟨⟨[]⟩⟩, .int .i64 0, .int .u8 0, .int .u8 0, .int .u8 0, .int .u8 0]] _ := hS.join [] [0, 1] rfl rfl hq
  clear hq
  refine wl_batch 1 2 [] [1, 2, 3] [(1, [], .pointer (some ⟨b5, 0, none⟩)), (2, [], .slice g10.a 2 g10.c), (3, [], .slice g16.a 3 g16.c)] [] H19 (by decide) (by kernel_rfl) trivial fun _ wd20 H21 hb => ?_
  clear H19
  replace hS := hS.below hb
  clear hb
  refine wl_end rfl ?_
  refine w_seq ?_
  refine wl_start ?_
  refine wl_batch 0 1 [] [1, 2, 3, 8] [(1, [], .pointer (some ⟨b5, 0, none⟩)), (2, [], .slice g10.a 2 g10.c), (3, [], .slice g16.a 3 g16.c), (8, [], .agg ⟨[.int .u8 1, .string ⟨⟨[97, 117, 116, 111]⟩⟩, .int .i64 0, .int .u8 0, .int .u8 0, .int .u8 0, .int .u8 0]⟩)] [] H21 (by decide) (by kernel_rfl) trivial fun _ wd22 H23 hb => ?_
  clear H21
  replace hS := hS.below hb
  clear hb
  have hd : S0 (AvL M [Ent.own 5 (tI .u8) ([2, 3, 4] : List Int) g16, Ent.own 5 (tI .u8) ([7, 8] : List Int) g10, Ent.blk b5 [.int .u8 8, .string ⟨⟨[]⟩⟩, .int .i64 0, .int .u8 0, .int .u8 0, .int .u8 0, .int .u8 0]]) [] _ := hS.hand [] [0, 1, 2] rfl rfl
  refine m_stp [4, 1, 2, 3, 8] [(1, [], .pointer (some ⟨b5, 0, none⟩)), (2, [], .slice g10.a 2 g10.c), (3, [], .slice g16.a 3 g16.c), (8, [], .agg ⟨[.int .u8 1, .string ⟨⟨[97, 117, 116, 111]⟩⟩, .int .i64 0, .int .u8 0, .int .u8 0, .int .u8 0, .int .u8 0]⟩)] H23 rfl rfl rfl rfl (o_alloc [.int .u8 0, .string ⟨⟨[]⟩⟩, .int .i64 0, .int .u8 0, .int .u8 0, .int .u8 0, .int .u8 0] (z := .agg ⟨[.int .u8 0, .string ⟨⟨[]⟩⟩, .int .i64 0, .int .u8 0, .int .u8 0, .int .u8 0, .int .u8 0]⟩) hd (by kernel_rfl) rfl) (fun _ => rfl) fun _ wd25 v H26 hq => ?_
  clear H23 hd
  obtain ⟨b24, rfl, hq⟩ := hq
  replace hS : SH M X w [Ent.blk b24 [.int .u8 0, .string ⟨⟨[]⟩⟩, .int .i64 0, .int .u8 0, .int .u8 0, .int .u8 0, .int .u8 0], Ent.own 5 (tI .u8) ([2, 3, 4] : List Int) g16, Ent.own 5 (tI .u8) ([7, 8] : List Int) g10, Ent.blk b5 [.int .u8 8, .string ⟨⟨[]⟩⟩, .int .i64 0, .int .u8 0, .int .u8 0, .int .u8 0, .int .u8 0]] _ := hS.join [] [0, 1, 2] rfl rfl hq
  clear hq
  have hd : S0 (AvL M [Ent.own 5 (tI .u8) ([2, 3, 4] : List Int) g16, Ent.own 5 (tI .u8) ([7, 8] : List Int) g10, Ent.blk b5 [.int .u8 8, .string ⟨⟨[]⟩⟩, .int .i64 0, .int .u8 0, .int .u8 0, .int .u8 0, .int .u8 0]]) [Ent.blk b24 [.int .u8 0, .string ⟨⟨[]⟩⟩, .int .i64 0, .int .u8 0, .int .u8 0, .int .u8 0, .int .u8 0]] _ := hS.hand [0] [1, 2, 3] rfl rfl
  refine m_stp0 [1, 2, 3, 4] [(1, [], .pointer (some ⟨b5, 0, none⟩)), (2, [], .slice g10.a 2 g10.c), (3, [], .slice g16.a 3 g16.c), (4, [], .pointer (some ⟨b24, 0, none⟩))] H26 rfl rfl rfl (o_store [.int .u8 1, .string ⟨⟨[97, 117, 116, 111]⟩⟩, .int .i64 0, .int .u8 0, .int .u8 0, .int .u8 0, .int .u8 0] H26 hd rfl rfl (by kernel_rfl) rfl rfl rfl) rfl fun _ wd27 H28 hq => ?_
  clear H26 hd
  obtain ⟨_, hq⟩ := hq
  replace hS : SH M X w [Ent.blk b24 [.int .u8 1, .string ⟨⟨[97, 117, 116, 111]⟩⟩, .int .i64 0, .int .u8 0, .int .u8 0, .int .u8 0, .int .u8 0], Ent.own 5 (tI .u8) ([2, 3, 4] : List Int) g16, Ent.own 5 (tI .u8) ([7, 8] : List Int) g10, Ent.blk b5 [.int .u8 8, .string ⟨⟨[]⟩⟩, .int .i64 0, .int .u8 0, .int .u8 0, .int .u8 0, .int .u8 0]] _ := hS.join [0] [1, 2, 3] rfl rfl hq
  clear hq
  refine wl_end rfl ?_
  obtain ⟨y30, hy30, hm⟩ := letE hm
  obtain ⟨y33, hy33, hm⟩ := letE hm
  obtain ⟨y40, hy40, hm⟩ := letE hm
  obtain ⟨y43, hy43, hm⟩ := letE hm
  obtain ⟨y46, hy46, hm⟩ := letE hm
  obtain ⟨y49, hy49, hm⟩ := letE hm
  obtain ⟨y52, hy52, hm⟩ := letE hm
  obtain ⟨y53, hy53, hm⟩ := letE hm
  obtain ⟨ho58, hm⟩ := chkE hm
  obtain ⟨q59, hq59, hm⟩ := letE hm
  obtain ⟨ho63, hm⟩ := chkE hm
  obtain ⟨q64, hq64, hm⟩ := letE hm
  obtain ⟨y66, hy66, hm⟩ := letE hm
  refine s_drawS (base := [(1, [], .pointer (some ⟨b5, 0, none⟩)), (2, [], .slice g10.a 2 g10.c), (3, [], .slice g16.a 3 g16.c), (4, [], .pointer (some ⟨b24, 0, none⟩))]) (L := [Ent.blk b24 [.int .u8 1, .string ⟨⟨[97, 117, 116, 111]⟩⟩, .int .i64 0, .int .u8 0, .int .u8 0, .int .u8 0, .int .u8 0], Ent.own 5 (tI .u8) ([2, 3, 4] : List Int) g16, Ent.own 5 (tI .u8) ([7, 8] : List Int) g10, Ent.blk b5 [.int .u8 8, .string ⟨⟨[]⟩⟩, .int .i64 0, .int .u8 0, .int .u8 0, .int .u8 0, .int .u8 0]]) 69 4 (fun yg29 => [.agg ⟨[.int .u8 0, .int .u8 0, .int .u8 0, .int .u8 255]⟩, .agg ⟨[.int .u8 7, .string ⟨⟨[]⟩⟩, .int .i64 0, .int .u8 0, .int .u8 0, .int .u8 0, .int .u8 255]⟩, .slice g10.a 2 g10.c, .agg ⟨[.string ⟨⟨[99, 111, 108, 111, 114]⟩⟩, .bool true, .int .u8 7, .string ⟨⟨[]⟩⟩, .int .i64 0, .int .u8 0, .int .u8 0, .int .u8 0, .int .u8 255, .slice none 0 0, .slice g10.a 2 g10.c, .bool false]⟩, .agg ⟨[.int .u8 7, .string ⟨⟨[]⟩⟩, .int .i64 0, .int .u8 0, .int .u8 0, .int .u8 0, .int .u8 0]⟩, .slice g10.a 2 g10.c, .agg ⟨[.string ⟨⟨[98, 97, 99, 107, 103, 114, 111, 117, 110, 100, 45, 99, 111, 108, 111, 114]⟩⟩, .bool false, .int .u8 7, .string ⟨⟨[]⟩⟩, .int .i64 0, .int .u8 0, .int .u8 0, .int .u8 0, .int .u8 0, .slice none 0 0, .slice g10.a 2 g10.c, .bool false]⟩, .agg ⟨[.int .u8 8, .string ⟨⟨[]⟩⟩, .int .i64 0, .int .u8 0, .int .u8 0, .int .u8 0, .int .u8 0]⟩, .slice g10.a 2 g10.c, .agg ⟨[.string ⟨⟨[98, 111, 114, 100, 101, 114, 45, 99, 111, 108, 111, 114]⟩⟩, .bool false, .int .u8 8, .string ⟨⟨[]⟩⟩, .int .i64 0, .int .u8 0, .int .u8 0, .int .u8 0, .int .u8 0, .slice none 0 0, .slice g10.a 2 g10.c, .bool false]⟩, .agg ⟨[.int .u8 8, .string ⟨⟨[]⟩⟩, .int .i64 0, .int .u8 0, .int .u8 0, .int .u8 0, .int .u8 0]⟩, .slice g10.a 2 g10.c, .agg ⟨[.string ⟨⟨[111, 117, 116, 108, 105, 110, 101, 45, 99, 111, 108, 111, 114]⟩⟩, .bool false, .int .u8 8, .string ⟨⟨[]⟩⟩, .int .i64 0, .int .u8 0, .int .u8 0, .int .u8 0, .int .u8 0, .slice none 0 0, .slice g10.a 2 g10.c, .bool false]⟩, .agg ⟨[.int .u8 y30.Kind, .string ⟨⟨y30.Word⟩⟩, .int .i64 y30.Num, .int .u8 y30.Color.Red, .int .u8 y30.Color.Green, .int .u8 y30.Color.Blue, .int .u8 y30.Color.Alpha]⟩, .slice (yg29 14 0).a 5 (yg29 14 0).c, .agg ⟨[.string ⟨⟨[100, 105, 115, 112, 108, 97, 121]⟩⟩, .bool false, .int .u8 y30.Kind, .string ⟨⟨y30.Word⟩⟩, .int .i64 y30.Num, .int .u8 y30.Color.Red, .int .u8 y30.Color.Green, .int .u8 y30.Color.Blue, .int .u8 y30.Color.Alpha, .slice (yg29 14 0).a 5 (yg29 14 0).c, .slice none 0 0, .bool false]⟩, .agg ⟨[.int .u8 y33.Kind, .string ⟨⟨y33.Word⟩⟩, .int .i64 y33.Num, .int .u8 y33.Color.Red, .int .u8 y33.Color.Green, .int .u8 y33.Color.Blue, .int .u8 y33.Color.Alpha]⟩, .slice (yg29 17 0).a 3 (yg29 17 0).c, .agg ⟨[.string ⟨⟨[118, 105, 115, 105, 98, 105, 108, 105, 116, 121]⟩⟩, .bool true, .int .u8 y33.Kind, .string ⟨⟨y33.Word⟩⟩, .int .i64 y33.Num, .int .u8 y33.Color.Red, .int .u8 y33.Color.Green, .int .u8 y33.Color.Blue, .int .u8 y33.Color.Alpha, .slice (yg29 17 0).a 3 (yg29 17 0).c, .slice none 0 0, .bool false]⟩, .agg ⟨[.int .u8 1, .string ⟨⟨[97, 117, 116, 111]⟩⟩, .int .i64 0, .int .u8 0, .int .u8 0, .int .u8 0, .int .u8 0]⟩, .slice (yg29 20 0).a 1 (yg29 20 0).c, .slice g16.a 3 g16.c, .agg ⟨[.string ⟨⟨[119, 105, 100, 116, 104]⟩⟩, .bool false, .int .u8 1, .string ⟨⟨[97, 117, 116, 111]⟩⟩, .int .i64 0, .int .u8 0, .int .u8 0, .int .u8 0, .int .u8 0, .slice (yg29 20 0).a 1 (yg29 20 0).c, .slice g16.a 3 g16.c, .bool true]⟩, .agg ⟨[.int .u8 1, .string ⟨⟨[97, 117, 116, 111]⟩⟩, .int .i64 0, .int .u8 0, .int .u8 0, .int .u8 0, .int .u8 0]⟩, .slice (yg29 24 0).a 1 (yg29 24 0).c, .slice g16.a 3 g16.c, .agg ⟨[.string ⟨⟨[104, 101, 105, 103, 104, 116]⟩⟩, .bool false, .int .u8 1, .string ⟨⟨[97, 117, 116, 111]⟩⟩, .int .i64 0, .int .u8 0, .int .u8 0, .int .u8 0, .int .u8 0, .slice (yg29 24 0).a 1 (yg29 24 0).c, .slice g16.a 3 g16.c, .bool true]⟩, .agg ⟨[.int .u8 y40.Kind, .string ⟨⟨y40.Word⟩⟩, .int .i64 y40.Num, .int .u8 y40.Color.Red, .int .u8 y40.Color.Green, .int .u8 y40.Color.Blue, .int .u8 y40.Color.Alpha]⟩, .slice (yg29 28 0).a 1 (yg29 28 0).c, .slice g16.a 3 g16.c, .agg ⟨[.string ⟨⟨[109, 97, 114, 103, 105, 110, 45, 116, 111, 112]⟩⟩, .bool false, .int .u8 y40.Kind, .string ⟨⟨y40.Word⟩⟩, .int .i64 y40.Num, .int .u8 y40.Color.Red, .int .u8 y40.Color.Green, .int .u8 y40.Color.Blue, .int .u8 y40.Color.Alpha, .slice (yg29 28 0).a 1 (yg29 28 0).c, .slice g16.a 3 g16.c, .bool false]⟩, .agg ⟨[.int .u8 y43.Kind, .string ⟨⟨y43.Word⟩⟩, .int .i64 y43.Num, .int .u8 y43.Color.Red, .int .u8 y43.Color.Green, .int .u8 y43.Color.Blue, .int .u8 y43.Color.Alpha]⟩, .slice (yg29 32 0).a 1 (yg29 32 0).c, .slice g16.a 3 g16.c, .agg ⟨[.string ⟨⟨[109, 97, 114, 103, 105, 110, 45, 114, 105, 103, 104, 116]⟩⟩, .bool false, .int .u8 y43.Kind, .string ⟨⟨y43.Word⟩⟩, .int .i64 y43.Num, .int .u8 y43.Color.Red, .int .u8 y43.Color.Green, .int .u8 y43.Color.Blue, .int .u8 y43.Color.Alpha, .slice (yg29 32 0).a 1 (yg29 32 0).c, .slice g16.a 3 g16.c, .bool false]⟩, .agg ⟨[.int .u8 y46.Kind, .string ⟨⟨y46.Word⟩⟩, .int .i64 y46.Num, .int .u8 y46.Color.Red, .int .u8 y46.Color.Green, .int .u8 y46.Color.Blue, .int .u8 y46.Color.Alpha]⟩, .slice (yg29 36 0).a 1 (yg29 36 0).c, .slice g16.a 3 g16.c, .agg ⟨[.string ⟨⟨[109, 97, 114, 103, 105, 110, 45, 98, 111, 116, 116, 111, 109]⟩⟩, .bool false, .int .u8 y46.Kind, .string ⟨⟨y46.Word⟩⟩, .int .i64 y46.Num, .int .u8 y46.Color.Red, .int .u8 y46.Color.Green, .int .u8 y46.Color.Blue, .int .u8 y46.Color.Alpha, .slice (yg29 36 0).a 1 (yg29 36 0).c, .slice g16.a 3 g16.c, .bool false]⟩, .agg ⟨[.int .u8 y49.Kind, .string ⟨⟨y49.Word⟩⟩, .int .i64 y49.Num, .int .u8 y49.Color.Red, .int .u8 y49.Color.Green, .int .u8 y49.Color.Blue, .int .u8 y49.Color.Alpha]⟩, .slice (yg29 40 0).a 1 (yg29 40 0).c, .slice g16.a 3 g16.c, .agg ⟨[.string ⟨⟨[109, 97, 114, 103, 105, 110, 45, 108, 101, 102, 116]⟩⟩, .bool false, .int .u8 y49.Kind, .string ⟨⟨y49.Word⟩⟩, .int .i64 y49.Num, .int .u8 y49.Color.Red, .int .u8 y49.Color.Green, .int .u8 y49.Color.Blue, .int .u8 y49.Color.Alpha, .slice (yg29 40 0).a 1 (yg29 40 0).c, .slice g16.a 3 g16.c, .bool false]⟩, .agg ⟨[.int .u8 y52.Kind, .string ⟨⟨y52.Word⟩⟩, .int .i64 y52.Num, .int .u8 y52.Color.Red, .int .u8 y52.Color.Green, .int .u8 y52.Color.Blue, .int .u8 y52.Color.Alpha]⟩, .slice g16.a 3 g16.c, .agg ⟨[.string ⟨⟨[102, 111, 110, 116, 45, 115, 105, 122, 101]⟩⟩, .bool true, .int .u8 y52.Kind, .string ⟨⟨y52.Word⟩⟩, .int .i64 y52.Num, .int .u8 y52.Color.Red, .int .u8 y52.Color.Green, .int .u8 y52.Color.Blue, .int .u8 y52.Color.Alpha, .slice none 0 0, .slice g16.a 3 g16.c, .bool true]⟩, .agg ⟨[.int .u8 y53.Kind, .string ⟨⟨y53.Word⟩⟩, .int .i64 y53.Num, .int .u8 y53.Color.Red, .int .u8 y53.Color.Green, .int .u8 y53.Color.Blue, .int .u8 y53.Color.Alpha]⟩, .slice (yg29 47 0).a 1 (yg29 47 0).c, .slice (yg29 48 0).a 0 (yg29 48 0).c, .slice g16.a 3 g16.c, .slice (yg29 50 0).a q59.length (yg29 50 0).c, .slice (yg29 51 0).a 1 (yg29 51 0).c, .slice (yg29 52 0).a q64.length (yg29 52 0).c, .agg ⟨[.string ⟨⟨[108, 105, 110, 101, 45, 104, 101, 105, 103, 104, 116]⟩⟩, .bool true, .int .u8 y53.Kind, .string ⟨⟨y53.Word⟩⟩, .int .i64 y53.Num, .int .u8 y53.Color.Red, .int .u8 y53.Color.Green, .int .u8 y53.Color.Blue, .int .u8 y53.Color.Alpha, .slice (yg29 47 0).a 1 (yg29 47 0).c, .slice (yg29 52 0).a q64.length (yg29 52 0).c, .bool true]⟩, .agg ⟨[.int .u8 y66.Kind, .string ⟨⟨y66.Word⟩⟩, .int .i64 y66.Num, .int .u8 y66.Color.Red, .int .u8 y66.Color.Green, .int .u8 y66.Color.Blue, .int .u8 y66.Color.Alpha]⟩, .slice (yg29 55 0).a 4 (yg29 55 0).c, .agg ⟨[.string ⟨⟨[116, 101, 120, 116, 45, 97, 108, 105, 103, 110]⟩⟩, .bool true, .int .u8 y66.Kind, .string ⟨⟨y66.Word⟩⟩, .int .i64 y66.Num, .int .u8 y66.Color.Red, .int .u8 y66.Color.Green, .int .u8 y66.Color.Blue, .int .u8 y66.Color.Alpha, .slice (yg29 55 0).a 4 (yg29 55 0).c, .slice none 0 0, .bool false]⟩, .agg ⟨[.int .u8 5, .string ⟨⟨[]⟩⟩, .int .i64 1000, .int .u8 0, .int .u8 0, .int .u8 0, .int .u8 0]⟩, .slice (yg29 58 0).a 1 (yg29 58 0).c, .agg ⟨[.string ⟨⟨[111, 112, 97, 99, 105, 116, 121]⟩⟩, .bool false, .int .u8 5, .string ⟨⟨[]⟩⟩, .int .i64 1000, .int .u8 0, .int .u8 0, .int .u8 0, .int .u8 0, .slice none 0 0, .slice (yg29 58 0).a 1 (yg29 58 0).c, .bool false]⟩, .agg ⟨[.int .u8 1, .string ⟨⟨[97, 117, 116, 111]⟩⟩, .int .i64 0, .int .u8 0, .int .u8 0, .int .u8 0, .int .u8 0]⟩, .slice (yg29 61 0).a 1 (yg29 61 0).c, .slice (yg29 62 0).a 1 (yg29 62 0).c, .agg ⟨[.string ⟨⟨[122, 45, 105, 110, 100, 101, 120]⟩⟩, .bool false, .int .u8 1, .string ⟨⟨[97, 117, 116, 111]⟩⟩, .int .i64 0, .int .u8 0, .int .u8 0, .int .u8 0, .int .u8 0, .slice (yg29 61 0).a 1 (yg29 61 0).c, .slice (yg29 62 0).a 1 (yg29 62 0).c, .bool false]⟩, .agg ⟨[.int .u8 6, .string ⟨⟨[]⟩⟩, .int .i64 0, .int .u8 0, .int .u8 0, .int .u8 0, .int .u8 0]⟩, .slice (yg29 65 0).a 1 (yg29 65 0).c, .agg ⟨[.string ⟨⟨[111, 114, 100, 101, 114]⟩⟩, .bool false, .int .u8 6, .string ⟨⟨[]⟩⟩, .int .i64 0, .int .u8 0, .int .u8 0, .int .u8 0, .int .u8 0, .slice none 0 0, .slice (yg29 65 0).a 1 (yg29 65 0).c, .bool false]⟩, .slice (yg29 67 0).a 18 (yg29 67 0).c, .slice (yg29 67 0).a 18 (yg29 67 0).c]) (fun yg29 => [[], [], [], [], [], [], [], [], [], [], [], [], [], [], [Ent.own 9 tS ([[98, 108, 111, 99, 107], [102, 108, 101, 120], [105, 110, 108, 105, 110, 101], [105, 110, 108, 105, 110, 101, 45, 98, 108, 111, 99, 107], [110, 111, 110, 101]] : List Str) (yg29 14 0)], [], [], [Ent.own 9 tS ([[99, 111, 108, 108, 97, 112, 115, 101], [104, 105, 100, 100, 101, 110], [118, 105, 115, 105, 98, 108, 101]] : List Str) (yg29 17 0)], [], [], [Ent.own 9 tS ([[97, 117, 116, 111]] : List Str) (yg29 20 0)], [], [], [], [Ent.own 9 tS ([[97, 117, 116, 111]] : List Str) (yg29 24 0)], [], [], [], [Ent.own 9 tS ([[97, 117, 116, 111]] : List Str) (yg29 28 0)], [], [], [], [Ent.own 9 tS ([[97, 117, 116, 111]] : List Str) (yg29 32 0)], [], [], [], [Ent.own 9 tS ([[97, 117, 116, 111]] : List Str) (yg29 36 0)], [], [], [], [Ent.own 9 tS ([[97, 117, 116, 111]] : List Str) (yg29 40 0)], [], [], [], [], [], [], [Ent.own 9 tS ([[110, 111, 114, 109, 97, 108]] : List Str) (yg29 47 0)], [Ent.own 5 (tI .u8) ([] : List Int) (yg29 48 0)], [], [Ent.own 5 (tI .u8) q59 (yg29 50 0)], [Ent.own 5 (tI .u8) ([5] : List Int) (yg29 51 0)], [Ent.own 5 (tI .u8) q64 (yg29 52 0)], [], [], [Ent.own 9 tS ([[99, 101, 110, 116, 101, 114], [106, 117, 115, 116, 105, 102, 121], [108, 101, 102, 116], [114, 105, 103, 104, 116]] : List Str) (yg29 55 0)], [], [], [Ent.own 5 (tI .u8) ([5] : List Int) (yg29 58 0)], [], [], [Ent.own 9 tS ([[97, 117, 116, 111]] : List Str) (yg29 61 0)], [Ent.own 5 (tI .u8) ([6] : List Int) (yg29 62 0)], [], [], [Ent.own 5 (tI .u8) ([6] : List Int) (yg29 65 0)], [], [Ent.own 51 tyProp ([(TProp.mk [99, 111, 108, 111, 114] true (TVal.mk 7 [] 0 (TColor.mk 0 0 0 255)) [] ([7, 8] : List Int) false), (TProp.mk [98, 97, 99, 107, 103, 114, 111, 117, 110, 100, 45, 99, 111, 108, 111, 114] false (TVal.mk 7 [] 0 (TColor.mk 0 0 0 0)) [] ([7, 8] : List Int) false), (TProp.mk [98, 111, 114, 100, 101, 114, 45, 99, 111, 108, 111, 114] false (TVal.mk 8 [] 0 (TColor.mk 0 0 0 0)) [] ([7, 8] : List Int) false), (TProp.mk [111, 117, 116, 108, 105, 110, 101, 45, 99, 111, 108, 111, 114] false (TVal.mk 8 [] 0 (TColor.mk 0 0 0 0)) [] ([7, 8] : List Int) false), (TProp.mk [100, 105, 115, 112, 108, 97, 121] false y30 ([[98, 108, 111, 99, 107], [102, 108, 101, 120], [105, 110, 108, 105, 110, 101], [105, 110, 108, 105, 110, 101, 45, 98, 108, 111, 99, 107], [110, 111, 110, 101]] : List Str) [] false), (TProp.mk [118, 105, 115, 105, 98, 105, 108, 105, 116, 121] true y33 ([[99, 111, 108, 108, 97, 112, 115, 101], [104, 105, 100, 100, 101, 110], [118, 105, 115, 105, 98, 108, 101]] : List Str) [] false), (TProp.mk [119, 105, 100, 116, 104] false (TVal.mk 1 [97, 117, 116, 111] 0 (TColor.mk 0 0 0 0)) ([[97, 117, 116, 111]] : List Str) ([2, 3, 4] : List Int) true), (TProp.mk [104, 101, 105, 103, 104, 116] false (TVal.mk 1 [97, 117, 116, 111] 0 (TColor.mk 0 0 0 0)) ([[97, 117, 116, 111]] : List Str) ([2, 3, 4] : List Int) true), (TProp.mk [109, 97, 114, 103, 105, 110, 45, 116, 111, 112] false y40 ([[97, 117, 116, 111]] : List Str) ([2, 3, 4] : List Int) false), (TProp.mk [109, 97, 114, 103, 105, 110, 45, 114, 105, 103, 104, 116] false y43 ([[97, 117, 116, 111]] : List Str) ([2, 3, 4] : List Int) false), (TProp.mk [109, 97, 114, 103, 105, 110, 45, 98, 111, 116, 116, 111, 109] false y46 ([[97, 117, 116, 111]] : List Str) ([2, 3, 4] : List Int) false), (TProp.mk [109, 97, 114, 103, 105, 110, 45, 108, 101, 102, 116] false y49 ([[97, 117, 116, 111]] : List Str) ([2, 3, 4] : List Int) false), (TProp.mk [102, 111, 110, 116, 45, 115, 105, 122, 101] true y52 [] ([2, 3, 4] : List Int) true), (TProp.mk [108, 105, 110, 101, 45, 104, 101, 105, 103, 104, 116] true y53 ([[110, 111, 114, 109, 97, 108]] : List Str) q64 true), (TProp.mk [116, 101, 120, 116, 45, 97, 108, 105, 103, 110] true y66 ([[99, 101, 110, 116, 101, 114], [106, 117, 115, 116, 105, 102, 121], [108, 101, 102, 116], [114, 105, 103, 104, 116]] : List Str) [] false), (TProp.mk [111, 112, 97, 99, 105, 116, 121] false (TVal.mk 5 [] 1000 (TColor.mk 0 0 0 0)) [] ([5] : List Int) false), (TProp.mk [122, 45, 105, 110, 100, 101, 120] false (TVal.mk 1 [97, 117, 116, 111] 0 (TColor.mk 0 0 0 0)) ([[97, 117, 116, 111]] : List Str) ([6] : List Int) false), (TProp.mk [111, 114, 100, 101, 114] false (TVal.mk 6 [] 0 (TColor.mk 0 0 0 0)) [] ([6] : List Int) false)] : List TProp) (yg29 67 0), Ent.im (tI .u8) ([6] : List Int) (yg29 65 0), Ent.im (tI .u8) ([6] : List Int) (yg29 62 0), Ent.im tS ([[97, 117, 116, 111]] : List Str) (yg29 61 0), Ent.im (tI .u8) ([5] : List Int) (yg29 58 0), Ent.im tS ([[99, 101, 110, 116, 101, 114], [106, 117, 115, 116, 105, 102, 121], [108, 101, 102, 116], [114, 105, 103, 104, 116]] : List Str) (yg29 55 0), Ent.im (tI .u8) q64 (yg29 52 0), Ent.im tS ([[110, 111, 114, 109, 97, 108]] : List Str) (yg29 47 0), Ent.im tS ([[97, 117, 116, 111]] : List Str) (yg29 40 0), Ent.im tS ([[97, 117, 116, 111]] : List Str) (yg29 36 0), Ent.im tS ([[97, 117, 116, 111]] : List Str) (yg29 32 0), Ent.im tS ([[97, 117, 116, 111]] : List Str) (yg29 28 0), Ent.im tS ([[97, 117, 116, 111]] : List Str) (yg29 24 0), Ent.im (tI .u8) ([2, 3, 4] : List Int) (yg29 67 1), Ent.im tS ([[97, 117, 116, 111]] : List Str) (yg29 20 0), Ent.im tS ([[99, 111, 108, 108, 97, 112, 115, 101], [104, 105, 100, 100, 101, 110], [118, 105, 115, 105, 98, 108, 101]] : List Str) (yg29 17 0), Ent.im tS ([[98, 108, 111, 99, 107], [102, 108, 101, 120], [105, 110, 108, 105, 110, 101], [105, 110, 108, 105, 110, 101, 45, 98, 108, 111, 99, 107], [110, 111, 110, 101]] : List Str) (yg29 14 0), Ent.im (tI .u8) ([7, 8] : List Int) (yg29 67 2)], []]) [[], [], [71], [71], [], [71], [71], [72], [71], [71], [72], [71], [71], [], [], [14], [], [], [17], [69], [], [70], [20, 70], [69], [], [70], [24, 70], [], [], [70], [28, 70], [], [], [70], [32, 70], [], [], [70], [36, 70], [], [], [70], [40, 70], [], [70], [70], [], [], [], [70], [48, 70], [], [50, 51], [47, 52], [], [], [55], [], [], [58], [69], [], [], [61, 62], [], [], [65], [14, 17, 20, 24, 28, 32, 36, 40, 47, 52, 55, 58, 61, 62, 65, 70, 71], [67]] [[], [], [], [], [], [], [], [], [], [], [], [], [], [], [], [], [], [], [], [], [], [], [], [], [], [], [], [], [], [], [], [], [], [], [], [], [], [], [], [], [], [], [], [], [], [], [], [], [], [], [48], [], [50], [], [], [], [], [], [], [], [], [], [], [], [], [], [], [14, 17, 20, 24, 28, 32, 36, 40, 47, 52, 55, 58, 61, 62, 65, 70, 71], []] [[0], [0, 1], [2], [0, 1, 2, 3], [4], [5], [4, 5, 6], [7], [8], [7, 8, 9], [10], [11], [10, 11, 12], [13], [14], [13, 14, 15], [16], [17], [16, 17, 18], [19], [20], [21], [19, 20, 21, 22], [23], [24], [25], [23, 24, 25, 26], [27], [28], [29], [27, 28, 29, 30], [31], [32], [33], [31, 32, 33, 34], [35], [36], [37], [35, 36, 37, 38], [39], [40], [41], [39, 40, 41, 42], [43], [44], [43, 44, 45], [46], [47], [48], [49], [48, 49, 50], [51], [48, 49, 50, 51, 52], [46, 47, 48, 49, 50, 51, 52, 53], [54], [55], [54, 55, 56], [57], [58], [57, 58, 59], [60], [61], [62], [60, 61, 62, 63], [64], [65], [64, 65, 66], [0, 1, 2, 3, 4, 5, 6, 7, 8, 9, 10, 11, 12, 13, 14, 15, 16, 17, 18, 19, 20, 21, 22, 23, 24, 25, 26, 27, 28, 29, 30, 31, 32, 33, 34, 35, 36, 37, 38, 39, 40, 41, 42, 43, 44, 45, 46, 47, 48, 49, 50, 51, 52, 53, 54, 55, 56, 57, 58, 59, 60, 61, 62, 63, 64, 65, 66, 67], [0, 1, 2, 3, 4, 5, 6, 7, 8, 9, 10, 11, 12, 13, 14, 15, 16, 17, 18, 19, 20, 21, 22, 23, 24, 25, 26, 27, 28, 29, 30, 31, 32, 33, 34, 35, 36, 37, 38, 39, 40, 41, 42, 43, 44, 45, 46, 47, 48, 49, 50, 51, 52, 53, 54, 55, 56, 57, 58, 59, 60, 61, 62, 63, 64, 65, 66, 67, 68]] [] (Fr.keep (ks := [1, 2, 3, 4]) H28 (by kernel_rfl)) (fun _ _ h => by cases h) (by kernel_rfl) hS (by kernel_rfl) rfl rfl (by kernel_rfl) (by kernel_rfl) (by kernel_rfl) ?hloc_yg29 ?hstep_yg29 fun _ wd79 yg29 H80 hv hS => ?hK_yg29
  case hloc_yg29 => exact ⟨(fun _ _ _ _ => ⟨rfl, rfl⟩), (fun _ _ _ _ => ⟨rfl, rfl⟩), (fun _ _ _ _ => ⟨rfl, rfl⟩), (fun _ _ _ _ => ⟨rfl, rfl⟩), (fun _ _ _ _ => ⟨rfl, rfl⟩), (fun _ _ _ _ => ⟨rfl, rfl⟩), (fun _ _ _ _ => ⟨rfl, rfl⟩), (fun _ _ _ _ => ⟨rfl, rfl⟩), (fun _ _ _ _ => ⟨rfl, rfl⟩), (fun _ _ _ _ => ⟨rfl, rfl⟩), (fun _ _ _ _ => ⟨rfl, rfl⟩), (fun _ _ _ _ => ⟨rfl, rfl⟩), (fun _ _ _ _ => ⟨rfl, rfl⟩), (fun _ _ _ _ => ⟨rfl, rfl⟩), (fun yg29 i g hi => by have h14 : updC yg29 i g 14 = yg29 14 := updC_out hi rfl; exact ⟨(show (.slice ((updC yg29 i g) 14 0).a 5 ((updC yg29 i g) 14 0).c : Value) = .slice (yg29 14 0).a 5 (yg29 14 0).c by simp only [h14]), (show ([Ent.own 9 tS ([[98, 108, 111, 99, 107], [102, 108, 101, 120], [105, 110, 108, 105, 110, 101], [105, 110, 108, 105, 110, 101, 45, 98, 108, 111, 99, 107], [110, 111, 110, 101]] : List Str) ((updC yg29 i g) 14 0)] : List Ent) = [Ent.own 9 tS ([[98, 108, 111, 99, 107], [102, 108, 101, 120], [105, 110, 108, 105, 110, 101], [105, 110, 108, 105, 110, 101, 45, 98, 108, 111, 99, 107], [110, 111, 110, 101]] : List Str) (yg29 14 0)] by simp only [h14])⟩), (fun yg29 i g hi => by have h14 : updC yg29 i g 14 = yg29 14 := updC_out hi rfl; exact ⟨(show (.agg ⟨[.string ⟨⟨[100, 105, 115, 112, 108, 97, 121]⟩⟩, .bool false, .int .u8 y30.Kind, .string ⟨⟨y30.Word⟩⟩, .int .i64 y30.Num, .int .u8 y30.Color.Red, .int .u8 y30.Color.Green, .int .u8 y30.Color.Blue, .int .u8 y30.Color.Alpha, .slice ((updC yg29 i g) 14 0).a 5 ((updC yg29 i g) 14 0).c, .slice none 0 0, .bool false]⟩ : Value) = .agg ⟨[.string ⟨⟨[100, 105, 115, 112, 108, 97, 121]⟩⟩, .bool false, .int .u8 y30.Kind, .string ⟨⟨y30.Word⟩⟩, .int .i64 y30.Num, .int .u8 y30.Color.Red, .int .u8 y30.Color.Green, .int .u8 y30.Color.Blue, .int .u8 y30.Color.Alpha, .slice (yg29 14 0).a 5 (yg29 14 0).c, .slice none 0 0, .bool false]⟩ by simp only [h14]), (show ([] : List Ent) = [] by simp only [])⟩), (fun _ _ _ _ => ⟨rfl, rfl⟩), (fun yg29 i g hi => by have h17 : updC yg29 i g 17 = yg29 17 := updC_out hi rfl; exact ⟨(show (.slice ((updC yg29 i g) 17 0).a 3 ((updC yg29 i g) 17 0).c : Value) = .slice (yg29 17 0).a 3 (yg29 17 0).c by simp only [h17]), (show ([Ent.own 9 tS ([[99, 111, 108, 108, 97, 112, 115, 101], [104, 105, 100, 100, 101, 110], [118, 105, 115, 105, 98, 108, 101]] : List Str) ((updC yg29 i g) 17 0)] : List Ent) = [Ent.own 9 tS ([[99, 111, 108, 108, 97, 112, 115, 101], [104, 105, 100, 100, 101, 110], [118, 105, 115, 105, 98, 108, 101]] : List Str) (yg29 17 0)] by simp only [h17])⟩), (fun yg29 i g hi => by have h17 : updC yg29 i g 17 = yg29 17 := updC_out hi rfl; exact ⟨(show (.agg ⟨[.string ⟨⟨[118, 105, 115, 105, 98, 105, 108, 105, 116, 121]⟩⟩, .bool true, .int .u8 y33.Kind, .string ⟨⟨y33.Word⟩⟩, .int .i64 y33.Num, .int .u8 y33.Color.Red, .int .u8 y33.Color.Green, .int .u8 y33.Color.Blue, .int .u8 y33.Color.Alpha, .slice ((updC yg29 i g) 17 0).a 3 ((updC yg29 i g) 17 0).c, .slice none 0 0, .bool false]⟩ : Value) = .agg ⟨[.string ⟨⟨[118, 105, 115, 105, 98, 105, 108, 105, 116, 121]⟩⟩, .bool true, .int .u8 y33.Kind, .string ⟨⟨y33.Word⟩⟩, .int .i64 y33.Num, .int .u8 y33.Color.Red, .int .u8 y33.Color.Green, .int .u8 y33.Color.Blue, .int .u8 y33.Color.Alpha, .slice (yg29 17 0).a 3 (yg29 17 0).c, .slice none 0 0, .bool false]⟩ by simp only [h17]), (show ([] : List Ent) = [] by simp only [])⟩), (fun _ _ _ _ => ⟨rfl, rfl⟩), (fun yg29 i g hi => by have h20 : updC yg29 i g 20 = yg29 20 := updC_out hi rfl; exact ⟨(show (.slice ((updC yg29 i g) 20 0).a 1 ((updC yg29 i g) 20 0).c : Value) = .slice (yg29 20 0).a 1 (yg29 20 0).c by simp only [h20]), (show ([Ent.own 9 tS ([[97, 117, 116, 111]] : List Str) ((updC yg29 i g) 20 0)] : List Ent) = [Ent.own 9 tS ([[97, 117, 116, 111]] : List Str) (yg29 20 0)] by simp only [h20])⟩), (fun _ _ _ _ => ⟨rfl, rfl⟩), (fun yg29 i g hi => by have h20 : updC yg29 i g 20 = yg29 20 := updC_out hi rfl; exact ⟨(show (.agg ⟨[.string ⟨⟨[119, 105, 100, 116, 104]⟩⟩, .bool false, .int .u8 1, .string ⟨⟨[97, 117, 116, 111]⟩⟩, .int .i64 0, .int .u8 0, .int .u8 0, .int .u8 0, .int .u8 0, .slice ((updC yg29 i g) 20 0).a 1 ((updC yg29 i g) 20 0).c, .slice g16.a 3 g16.c, .bool true]⟩ : Value) = .agg ⟨[.string ⟨⟨[119, 105, 100, 116, 104]⟩⟩, .bool false, .int .u8 1, .string ⟨⟨[97, 117, 116, 111]⟩⟩, .int .i64 0, .int .u8 0, .int .u8 0, .int .u8 0, .int .u8 0, .slice (yg29 20 0).a 1 (yg29 20 0).c, .slice g16.a 3 g16.c, .bool true]⟩ by simp only [h20]), (show ([] : List Ent) = [] by simp only [])⟩), (fun _ _ _ _ => ⟨rfl, rfl⟩), (fun yg29 i g hi => by have h24 : updC yg29 i g 24 = yg29 24 := updC_out hi rfl; exact ⟨(show (.slice ((updC yg29 i g) 24 0).a 1 ((updC yg29 i g) 24 0).c : Value) = .slice (yg29 24 0).a 1 (yg29 24 0).c by simp only [h24]), (show ([Ent.own 9 tS ([[97, 117, 116, 111]] : List Str) ((updC yg29 i g) 24 0)] : List Ent) = [Ent.own 9 tS ([[97, 117, 116, 111]] : List Str) (yg29 24 0)] by simp only [h24])⟩), (fun _ _ _ _ => ⟨rfl, rfl⟩), (fun yg29 i g hi => by have h24 : updC yg29 i g 24 = yg29 24 := updC_out hi rfl; exact ⟨(show (.agg ⟨[.string ⟨⟨[104, 101, 105, 103, 104, 116]⟩⟩, .bool false, .int .u8 1, .string ⟨⟨[97, 117, 116, 111]⟩⟩, .int .i64 0, .int .u8 0, .int .u8 0, .int .u8 0, .int .u8 0, .slice ((updC yg29 i g) 24 0).a 1 ((updC yg29 i g) 24 0).c, .slice g16.a 3 g16.c, .bool true]⟩ : Value) = .agg ⟨[.string ⟨⟨[104, 101, 105, 103, 104, 116]⟩⟩, .bool false, .int .u8 1, .string ⟨⟨[97, 117, 116, 111]⟩⟩, .int .i64 0, .int .u8 0, .int .u8 0, .int .u8 0, .int .u8 0, .slice (yg29 24 0).a 1 (yg29 24 0).c, .slice g16.a 3 g16.c, .bool true]⟩ by simp only [h24]), (show ([] : List Ent) = [] by simp only [])⟩), (fun _ _ _ _ => ⟨rfl, rfl⟩), (fun yg29 i g hi => by have h28 : updC yg29 i g 28 = yg29 28 := updC_out hi rfl; exact ⟨(show (.slice ((updC yg29 i g) 28 0).a 1 ((updC yg29 i g) 28 0).c : Value) = .slice (yg29 28 0).a 1 (yg29 28 0).c by simp only [h28]), (show ([Ent.own 9 tS ([[97, 117, 116, 111]] : List Str) ((updC yg29 i g) 28 0)] : List Ent) = [Ent.own 9 tS ([[97, 117, 116, 111]] : List Str) (yg29 28 0)] by simp only [h28])⟩), (fun _ _ _ _ => ⟨rfl, rfl⟩), (fun yg29 i g hi => by have h28 : updC yg29 i g 28 = yg29 28 := updC_out hi rfl; exact ⟨(show (.agg ⟨[.string ⟨⟨[109, 97, 114, 103, 105, 110, 45, 116, 111, 112]⟩⟩, .bool false, .int .u8 y40.Kind, .string ⟨⟨y40.Word⟩⟩, .int .i64 y40.Num, .int .u8 y40.Color.Red, .int .u8 y40.Color.Green, .int .u8 y40.Color.Blue, .int .u8 y40.Color.Alpha, .slice ((updC yg29 i g) 28 0).a 1 ((updC yg29 i g) 28 0).c, .slice g16.a 3 g16.c, .bool false]⟩ : Value) = .agg ⟨[.string ⟨⟨[109, 97, 114, 103, 105, 110, 45, 116, 111, 112]⟩⟩, .bool false, .int .u8 y40.Kind, .string ⟨⟨y40.Word⟩⟩, .int .i64 y40.Num, .int .u8 y40.Color.Red, .int .u8 y40.Color.Green, .int .u8 y40.Color.Blue, .int .u8 y40.Color.Alpha, .slice (yg29 28 0).a 1 (yg29 28 0).c, .slice g16.a 3 g16.c, .bool false]⟩ by simp only [h28]), (show ([] : List Ent) = [] by simp only [])⟩), (fun _ _ _ _ => ⟨rfl, rfl⟩), (fun yg29 i g hi => by have h32 : updC yg29 i g 32 = yg29 32 := updC_out hi rfl; exact ⟨(show (.slice ((updC yg29 i g) 32 0).a 1 ((updC yg29 i g) 32 0).c : Value) = .slice (yg29 32 0).a 1 (yg29 32 0).c by simp only [h32]), (show ([Ent.own 9 tS ([[97, 117, 116, 111]] : List Str) ((updC yg29 i g) 32 0)] : List Ent) = [Ent.own 9 tS ([[97, 117, 116, 111]] : List Str) (yg29 32 0)] by simp only [h32])⟩), (fun _ _ _ _ => ⟨rfl, rfl⟩), (fun yg29 i g hi => by have h32 : updC yg29 i g 32 = yg29 32 := updC_out hi rfl; exact ⟨(show (.agg ⟨[.string ⟨⟨[109, 97, 114, 103, 105, 110, 45, 114, 105, 103, 104, 116]⟩⟩, .bool false, .int .u8 y43.Kind, .string ⟨⟨y43.Word⟩⟩, .int .i64 y43.Num, .int .u8 y43.Color.Red, .int .u8 y43.Color.Green, .int .u8 y43.Color.Blue, .int .u8 y43.Color.Alpha, .slice ((updC yg29 i g) 32 0).a 1 ((updC yg29 i g) 32 0).c, .slice g16.a 3 g16.c, .bool false]⟩ : Value) = .agg ⟨[.string ⟨⟨[109, 97, 114, 103, 105, 110, 45, 114, 105, 103, 104, 116]⟩⟩, .bool false, .int .u8 y43.Kind, .string ⟨⟨y43.Word⟩⟩, .int .i64 y43.Num, .int .u8 y43.Color.Red, .int .u8 y43.Color.Green, .int .u8 y43.Color.Blue, .int .u8 y43.Color.Alpha, .slice (yg29 32 0).a 1 (yg29 32 0).c, .slice g16.a 3 g16.c, .bool false]⟩ by simp only [h32]), (show ([] : List Ent) = [] by simp only [])⟩), (fun _ _ _ _ => ⟨rfl, rfl⟩), (fun yg29 i g hi => by have h36 : updC yg29 i g 36 = yg29 36 := updC_out hi rfl; exact ⟨(show (.slice ((updC yg29 i g) 36 0).a 1 ((updC yg29 i g) 36 0).c : Value) = .slice (yg29 36 0).a 1 (yg29 36 0).c by simp only [h36]), (show ([Ent.own 9 tS ([[97, 117, 116, 111]] : List Str) ((updC yg29 i g) 36 0)] : List Ent) = [Ent.own 9 tS ([[97, 117, 116, 111]] : List Str) (yg29 36 0)] by simp only [h36])⟩), (fun _ _ _ _ => ⟨rfl, rfl⟩), (fun yg29 i g hi => by have h36 : updC yg29 i g 36 = yg29 36 := updC_out hi rfl; exact ⟨(show (.agg ⟨[.string ⟨⟨[109, 97, 114, 103, 105, 110, 45, 98, 111, 116, 116, 111, 109]⟩⟩, .bool false, .int .u8 y46.Kind, .string ⟨⟨y46.Word⟩⟩, .int .i64 y46.Num, .int .u8 y46.Color.Red, .int .u8 y46.Color.Green, .int .u8 y46.Color.Blue, .int .u8 y46.Color.Alpha, .slice ((updC yg29 i g) 36 0).a 1 ((updC yg29 i g) 36 0).c, .slice g16.a 3 g16.c, .bool false]⟩ : Value) = .agg ⟨[.string ⟨⟨[109, 97, 114, 103, 105, 110, 45, 98, 111, 116, 116, 111, 109]⟩⟩, .bool false, .int .u8 y46.Kind, .string ⟨⟨y46.Word⟩⟩, .int .i64 y46.Num, .int .u8 y46.Color.Red, .int .u8 y46.Color.Green, .int .u8 y46.Color.Blue, .int .u8 y46.Color.Alpha, .slice (yg29 36 0).a 1 (yg29 36 0).c, .slice g16.a 3 g16.c, .bool false]⟩ by simp only [h36]), (show ([] : List Ent) = [] by simp only [])⟩), (fun _ _ _ _ => ⟨rfl, rfl⟩), (fun yg29 i g hi => by have h40 : updC yg29 i g 40 = yg29 40 := updC_out hi rfl; exact ⟨(show (.slice ((updC yg29 i g) 40 0).a 1 ((updC yg29 i g) 40 0).c : Value) = .slice (yg29 40 0).a 1 (yg29 40 0).c by simp only [h40]), (show ([Ent.own 9 tS ([[97, 117, 116, 111]] : List Str) ((updC yg29 i g) 40 0)] : List Ent) = [Ent.own 9 tS ([[97, 117, 116, 111]] : List Str) (yg29 40 0)] by simp only [h40])⟩), (fun _ _ _ _ => ⟨rfl, rfl⟩), (fun yg29 i g hi => by have h40 : updC yg29 i g 40 = yg29 40 := updC_out hi rfl; exact ⟨(show (.agg ⟨[.string ⟨⟨[109, 97, 114, 103, 105, 110, 45, 108, 101, 102, 116]⟩⟩, .bool false, .int .u8 y49.Kind, .string ⟨⟨y49.Word⟩⟩, .int .i64 y49.Num, .int .u8 y49.Color.Red, .int .u8 y49.Color.Green, .int .u8 y49.Color.Blue, .int .u8 y49.Color.Alpha, .slice ((updC yg29 i g) 40 0).a 1 ((updC yg29 i g) 40 0).c, .slice g16.a 3 g16.c, .bool false]⟩ : Value) = .agg ⟨[.string ⟨⟨[109, 97, 114, 103, 105, 110, 45, 108, 101, 102, 116]⟩⟩, .bool false, .int .u8 y49.Kind, .string ⟨⟨y49.Word⟩⟩, .int .i64 y49.Num, .int .u8 y49.Color.Red, .int .u8 y49.Color.Green, .int .u8 y49.Color.Blue, .int .u8 y49.Color.Alpha, .slice (yg29 40 0).a 1 (yg29 40 0).c, .slice g16.a 3 g16.c, .bool false]⟩ by simp only [h40]), (show ([] : List Ent) = [] by simp only [])⟩), (fun _ _ _ _ => ⟨rfl, rfl⟩), (fun _ _ _ _ => ⟨rfl, rfl⟩), (fun _ _ _ _ => ⟨rfl, rfl⟩), (fun _ _ _ _ => ⟨rfl, rfl⟩), (fun yg29 i g hi => by have h47 : updC yg29 i g 47 = yg29 47 := updC_out hi rfl; exact ⟨(show (.slice ((updC yg29 i g) 47 0).a 1 ((updC yg29 i g) 47 0).c : Value) = .slice (yg29 47 0).a 1 (yg29 47 0).c by simp only [h47]), (show ([Ent.own 9 tS ([[110, 111, 114, 109, 97, 108]] : List Str) ((updC yg29 i g) 47 0)] : List Ent) = [Ent.own 9 tS ([[110, 111, 114, 109, 97, 108]] : List Str) (yg29 47 0)] by simp only [h47])⟩), (fun yg29 i g hi => by have h48 : updC yg29 i g 48 = yg29 48 := updC_out hi rfl; exact ⟨(show (.slice ((updC yg29 i g) 48 0).a 0 ((updC yg29 i g) 48 0).c : Value) = .slice (yg29 48 0).a 0 (yg29 48 0).c by simp only [h48]), (show ([Ent.own 5 (tI .u8) ([] : List Int) ((updC yg29 i g) 48 0)] : List Ent) = [Ent.own 5 (tI .u8) ([] : List Int) (yg29 48 0)] by simp only [h48])⟩), (fun _ _ _ _ => ⟨rfl, rfl⟩), (fun yg29 i g hi => by have h50 : updC yg29 i g 50 = yg29 50 := updC_out hi rfl; exact ⟨(show (.slice ((updC yg29 i g) 50 0).a q59.length ((updC yg29 i g) 50 0).c : Value) = .slice (yg29 50 0).a q59.length (yg29 50 0).c by simp only [h50]), (show ([Ent.own 5 (tI .u8) q59 ((updC yg29 i g) 50 0)] : List Ent) = [Ent.own 5 (tI .u8) q59 (yg29 50 0)] by simp only [h50])⟩), (fun yg29 i g hi => by have h51 : updC yg29 i g 51 = yg29 51 := updC_out hi rfl; exact ⟨(show (.slice ((updC yg29 i g) 51 0).a 1 ((updC yg29 i g) 51 0).c : Value) = .slice (yg29 51 0).a 1 (yg29 51 0).c by simp only [h51]), (show ([Ent.own 5 (tI .u8) ([5] : List Int) ((updC yg29 i g) 51 0)] : List Ent) = [Ent.own 5 (tI .u8) ([5] : List Int) (yg29 51 0)] by simp only [h51])⟩), (fun yg29 i g hi => by have h52 : updC yg29 i g 52 = yg29 52 := updC_out hi rfl; exact ⟨(show (.slice ((updC yg29 i g) 52 0).a q64.length ((updC yg29 i g) 52 0).c : Value) = .slice (yg29 52 0).a q64.length (yg29 52 0).c by simp only [h52]), (show ([Ent.own 5 (tI .u8) q64 ((updC yg29 i g) 52 0)] : List Ent) = [Ent.own 5 (tI .u8) q64 (yg29 52 0)] by simp only [h52])⟩), (fun yg29 i g hi => by have h47 : updC yg29 i g 47 = yg29 47 := updC_out hi rfl; have h52 : updC yg29 i g 52 = yg29 52 := updC_out hi rfl; exact ⟨(show (.agg ⟨[.string ⟨⟨[108, 105, 110, 101, 45, 104, 101, 105, 103, 104, 116]⟩⟩, .bool true, .int .u8 y53.Kind, .string ⟨⟨y53.Word⟩⟩, .int .i64 y53.Num, .int .u8 y53.Color.Red, .int .u8 y53.Color.Green, .int .u8 y53.Color.Blue, .int .u8 y53.Color.Alpha, .slice ((updC yg29 i g) 47 0).a 1 ((updC yg29 i g) 47 0).c, .slice ((updC yg29 i g) 52 0).a q64.length ((updC yg29 i g) 52 0).c, .bool true]⟩ : Value) = .agg ⟨[.string ⟨⟨[108, 105, 110, 101, 45, 104, 101, 105, 103, 104, 116]⟩⟩, .bool true, .int .u8 y53.Kind, .string ⟨⟨y53.Word⟩⟩, .int .i64 y53.Num, .int .u8 y53.Color.Red, .int .u8 y53.Color.Green, .int .u8 y53.Color.Blue, .int .u8 y53.Color.Alpha, .slice (yg29 47 0).a 1 (yg29 47 0).c, .slice (yg29 52 0).a q64.length (yg29 52 0).c, .bool true]⟩ by simp only [h47, h52]), (show ([] : List Ent) = [] by simp only [])⟩), (fun _ _ _ _ => ⟨rfl, rfl⟩), (fun yg29 i g hi => by have h55 : updC yg29 i g 55 = yg29 55 := updC_out hi rfl; exact ⟨(show (.slice ((updC yg29 i g) 55 0).a 4 ((updC yg29 i g) 55 0).c : Value) = .slice (yg29 55 0).a 4 (yg29 55 0).c by simp only [h55]), (show ([Ent.own 9 tS ([[99, 101, 110, 116, 101, 114], [106, 117, 115, 116, 105, 102, 121], [108, 101, 102, 116], [114, 105, 103, 104, 116]] : List Str) ((updC yg29 i g) 55 0)] : List Ent) = [Ent.own 9 tS ([[99, 101, 110, 116, 101, 114], [106, 117, 115, 116, 105, 102, 121], [108, 101, 102, 116], [114, 105, 103, 104, 116]] : List Str) (yg29 55 0)] by simp only [h55])⟩), (fun yg29 i g hi => by have h55 : updC yg29 i g 55 = yg29 55 := updC_out hi rfl; exact ⟨(show (.agg ⟨[.string ⟨⟨[116, 101, 120, 116, 45, 97, 108, 105, 103, 110]⟩⟩, .bool true, .int .u8 y66.Kind, .string ⟨⟨y66.Word⟩⟩, .int .i64 y66.Num, .int .u8 y66.Color.Red, .int .u8 y66.Color.Green, .int .u8 y66.Color.Blue, .int .u8 y66.Color.Alpha, .slice ((updC yg29 i g) 55 0).a 4 ((updC yg29 i g) 55 0).c, .slice none 0 0, .bool false]⟩ : Value) = .agg ⟨[.string ⟨⟨[116, 101, 120, 116, 45, 97, 108, 105, 103, 110]⟩⟩, .bool true, .int .u8 y66.Kind, .string ⟨⟨y66.Word⟩⟩, .int .i64 y66.Num, .int .u8 y66.Color.Red, .int .u8 y66.Color.Green, .int .u8 y66.Color.Blue, .int .u8 y66.Color.Alpha, .slice (yg29 55 0).a 4 (yg29 55 0).c, .slice none 0 0, .bool false]⟩ by simp only [h55]), (show ([] : List Ent) = [] by simp only [])⟩), (fun _ _ _ _ => ⟨rfl, rfl⟩), (fun yg29 i g hi => by have h58 : updC yg29 i g 58 = yg29 58 := updC_out hi rfl; exact ⟨(show (.slice ((updC yg29 i g) 58 0).a 1 ((updC yg29 i g) 58 0).c : Value) = .slice (yg29 58 0).a 1 (yg29 58 0).c by simp only [h58]), (show ([Ent.own 5 (tI .u8) ([5] : List Int) ((updC yg29 i g) 58 0)] : List Ent) = [Ent.own 5 (tI .u8) ([5] : List Int) (yg29 58 0)] by simp only [h58])⟩), (fun yg29 i g hi => by have h58 : updC yg29 i g 58 = yg29 58 := updC_out hi rfl; exact ⟨(show (.agg ⟨[.string ⟨⟨[111, 112, 97, 99, 105, 116, 121]⟩⟩, .bool false, .int .u8 5, .string ⟨⟨[]⟩⟩, .int .i64 1000, .int .u8 0, .int .u8 0, .int .u8 0, .int .u8 0, .slice none 0 0, .slice ((updC yg29 i g) 58 0).a 1 ((updC yg29 i g) 58 0).c, .bool false]⟩ : Value) = .agg ⟨[.string ⟨⟨[111, 112, 97, 99, 105, 116, 121]⟩⟩, .bool false, .int .u8 5, .string ⟨⟨[]⟩⟩, .int .i64 1000, .int .u8 0, .int .u8 0, .int .u8 0, .int .u8 0, .slice none 0 0, .slice (yg29 58 0).a 1 (yg29 58 0).c, .bool false]⟩ by simp only [h58]), (show ([] : List Ent) = [] by simp only [])⟩), (fun _ _ _ _ => ⟨rfl, rfl⟩), (fun yg29 i g hi => by have h61 : updC yg29 i g 61 = yg29 61 := updC_out hi rfl; exact ⟨(show (.slice ((updC yg29 i g) 61 0).a 1 ((updC yg29 i g) 61 0).c : Value) = .slice (yg29 61 0).a 1 (yg29 61 0).c by simp only [h61]), (show ([Ent.own 9 tS ([[97, 117, 116, 111]] : List Str) ((updC yg29 i g) 61 0)] : List Ent) = [Ent.own 9 tS ([[97, 117, 116, 111]] : List Str) (yg29 61 0)] by simp only [h61])⟩), (fun yg29 i g hi => by have h62 : updC yg29 i g 62 = yg29 62 := updC_out hi rfl; exact ⟨(show (.slice ((updC yg29 i g) 62 0).a 1 ((updC yg29 i g) 62 0).c : Value) = .slice (yg29 62 0).a 1 (yg29 62 0).c by simp only [h62]), (show ([Ent.own 5 (tI .u8) ([6] : List Int) ((updC yg29 i g) 62 0)] : List Ent) = [Ent.own 5 (tI .u8) ([6] : List Int) (yg29 62 0)] by simp only [h62])⟩), (fun yg29 i g hi => by have h61 : updC yg29 i g 61 = yg29 61 := updC_out hi rfl; have h62 : updC yg29 i g 62 = yg29 62 := updC_out hi rfl; exact ⟨(show (.agg ⟨[.string ⟨⟨[122, 45, 105, 110, 100, 101, 120]⟩⟩, .bool false, .int .u8 1, .string ⟨⟨[97, 117, 116, 111]⟩⟩, .int .i64 0, .int .u8 0, .int .u8 0, .int .u8 0, .int .u8 0, .slice ((updC yg29 i g) 61 0).a 1 ((updC yg29 i g) 61 0).c, .slice ((updC yg29 i g) 62 0).a 1 ((updC yg29 i g) 62 0).c, .bool false]⟩ : Value) = .agg ⟨[.string ⟨⟨[122, 45, 105, 110, 100, 101, 120]⟩⟩, .bool false, .int .u8 1, .string ⟨⟨[97, 117, 116, 111]⟩⟩, .int .i64 0, .int .u8 0, .int .u8 0, .int .u8 0, .int .u8 0, .slice (yg29 61 0).a 1 (yg29 61 0).c, .slice (yg29 62 0).a 1 (yg29 62 0).c, .bool false]⟩ by simp only [h61, h62]), (show ([] : List Ent) = [] by simp only [])⟩), (fun _ _ _ _ => ⟨rfl, rfl⟩), (fun yg29 i g hi => by have h65 : updC yg29 i g 65 = yg29 65 := updC_out hi rfl; exact ⟨(show (.slice ((updC yg29 i g) 65 0).a 1 ((updC yg29 i g) 65 0).c : Value) = .slice (yg29 65 0).a 1 (yg29 65 0).c by simp only [h65]), (show ([Ent.own 5 (tI .u8) ([6] : List Int) ((updC yg29 i g) 65 0)] : List Ent) = [Ent.own 5 (tI .u8) ([6] : List Int) (yg29 65 0)] by simp only [h65])⟩), (fun yg29 i g hi => by have h65 : updC yg29 i g 65 = yg29 65 := updC_out hi rfl; exact ⟨(show (.agg ⟨[.string ⟨⟨[111, 114, 100, 101, 114]⟩⟩, .bool false, .int .u8 6, .string ⟨⟨[]⟩⟩, .int .i64 0, .int .u8 0, .int .u8 0, .int .u8 0, .int .u8 0, .slice none 0 0, .slice ((updC yg29 i g) 65 0).a 1 ((updC yg29 i g) 65 0).c, .bool false]⟩ : Value) = .agg ⟨[.string ⟨⟨[111, 114, 100, 101, 114]⟩⟩, .bool false, .int .u8 6, .string ⟨⟨[]⟩⟩, .int .i64 0, .int .u8 0, .int .u8 0, .int .u8 0, .int .u8 0, .slice none 0 0, .slice (yg29 65 0).a 1 (yg29 65 0).c, .bool false]⟩ by simp only [h65]), (show ([] : List Ent) = [] by simp only [])⟩), (fun yg29 i g hi => by have h14 : updC yg29 i g 14 = yg29 14 := updC_out hi rfl; have h17 : updC yg29 i g 17 = yg29 17 := updC_out hi rfl; have h20 : updC yg29 i g 20 = yg29 20 := updC_out hi rfl; have h24 : updC yg29 i g 24 = yg29 24 := updC_out hi rfl; have h28 : updC yg29 i g 28 = yg29 28 := updC_out hi rfl; have h32 : updC yg29 i g 32 = yg29 32 := updC_out hi rfl; have h36 : updC yg29 i g 36 = yg29 36 := updC_out hi rfl; have h40 : updC yg29 i g 40 = yg29 40 := updC_out hi rfl; have h47 : updC yg29 i g 47 = yg29 47 := updC_out hi rfl; have h52 : updC yg29 i g 52 = yg29 52 := updC_out hi rfl; have h55 : updC yg29 i g 55 = yg29 55 := updC_out hi rfl; have h58 : updC yg29 i g 58 = yg29 58 := updC_out hi rfl; have h61 : updC yg29 i g 61 = yg29 61 := updC_out hi rfl; have h62 : updC yg29 i g 62 = yg29 62 := updC_out hi rfl; have h65 : updC yg29 i g 65 = yg29 65 := updC_out hi rfl; have h67 : updC yg29 i g 67 = yg29 67 := updC_out hi rfl; exact ⟨(show (.slice ((updC yg29 i g) 67 0).a 18 ((updC yg29 i g) 67 0).c : Value) = .slice (yg29 67 0).a 18 (yg29 67 0).c by simp only [h67]), (show ([Ent.own 51 tyProp ([(TProp.mk [99, 111, 108, 111, 114] true (TVal.mk 7 [] 0 (TColor.mk 0 0 0 255)) [] ([7, 8] : List Int) false), (TProp.mk [98, 97, 99, 107, 103, 114, 111, 117, 110, 100, 45, 99, 111, 108, 111, 114] false (TVal.mk 7 [] 0 (TColor.mk 0 0 0 0)) [] ([7, 8] : List Int) false), (TProp.mk [98, 111, 114, 100, 101, 114, 45, 99, 111, 108, 111, 114] false (TVal.mk 8 [] 0 (TColor.mk 0 0 0 0)) [] ([7, 8] : List Int) false), (TProp.mk [111, 117, 116, 108, 105, 110, 101, 45, 99, 111, 108, 111, 114] false (TVal.mk 8 [] 0 (TColor.mk 0 0 0 0)) [] ([7, 8] : List Int) false), (TProp.mk [100, 105, 115, 112, 108, 97, 121] false y30 ([[98, 108, 111, 99, 107], [102, 108, 101, 120], [105, 110, 108, 105, 110, 101], [105, 110, 108, 105, 110, 101, 45, 98, 108, 111, 99, 107], [110, 111, 110, 101]] : List Str) [] false), (TProp.mk [118, 105, 115, 105, 98, 105, 108, 105, 116, 121] true y33 ([[99, 111, 108, 108, 97, 112, 115, 101], [104, 105, 100, 100, 101, 110], [118, 105, 115, 105, 98, 108, 101]] : List Str) [] false), (TProp.mk [119, 105, 100, 116, 104] false (TVal.mk 1 [97, 117, 116, 111] 0 (TColor.mk 0 0 0 0)) ([[97, 117, 116, 111]] : List Str) ([2, 3, 4] : List Int) true), (TProp.mk [104, 101, 105, 103, 104, 116] false (TVal.mk 1 [97, 117, 116, 111] 0 (TColor.mk 0 0 0 0)) ([[97, 117, 116, 111]] : List Str) ([2, 3, 4] : List Int) true), (TProp.mk [109, 97, 114, 103, 105, 110, 45, 116, 111, 112] false y40 ([[97, 117, 116, 111]] : List Str) ([2, 3, 4] : List Int) false), (TProp.mk [109, 97, 114, 103, 105, 110, 45, 114, 105, 103, 104, 116] false y43 ([[97, 117, 116, 111]] : List Str) ([2, 3, 4] : List Int) false), (TProp.mk [109, 97, 114, 103, 105, 110, 45, 98, 111, 116, 116, 111, 109] false y46 ([[97, 117, 116, 111]] : List Str) ([2, 3, 4] : List Int) false), (TProp.mk [109, 97, 114, 103, 105, 110, 45, 108, 101, 102, 116] false y49 ([[97, 117, 116, 111]] : List Str) ([2, 3, 4] : List Int) false), (TProp.mk [102, 111, 110, 116, 45, 115, 105, 122, 101] true y52 [] ([2, 3, 4] : List Int) true), (TProp.mk [108, 105, 110, 101, 45, 104, 101, 105, 103, 104, 116] true y53 ([[110, 111, 114, 109, 97, 108]] : List Str) q64 true), (TProp.mk [116, 101, 120, 116, 45, 97, 108, 105, 103, 110] true y66 ([[99, 101, 110, 116, 101, 114], [106, 117, 115, 116, 105, 102, 121], [108, 101, 102, 116], [114, 105, 103, 104, 116]] : List Str) [] false), (TProp.mk [111, 112, 97, 99, 105, 116, 121] false (TVal.mk 5 [] 1000 (TColor.mk 0 0 0 0)) [] ([5] : List Int) false), (TProp.mk [122, 45, 105, 110, 100, 101, 120] false (TVal.mk 1 [97, 117, 116, 111] 0 (TColor.mk 0 0 0 0)) ([[97, 117, 116, 111]] : List Str) ([6] : List Int) false), (TProp.mk [111, 114, 100, 101, 114] false (TVal.mk 6 [] 0 (TColor.mk 0 0 0 0)) [] ([6] : List Int) false)] : List TProp) ((updC yg29 i g) 67 0), Ent.im (tI .u8) ([6] : List Int) ((updC yg29 i g) 65 0), Ent.im (tI .u8) ([6] : List Int) ((updC yg29 i g) 62 0), Ent.im tS ([[97, 117, 116, 111]] : List Str) ((updC yg29 i g) 61 0), Ent.im (tI .u8) ([5] : List Int) ((updC yg29 i g) 58 0), Ent.im tS ([[99, 101, 110, 116, 101, 114], [106, 117, 115, 116, 105, 102, 121], [108, 101, 102, 116], [114, 105, 103, 104, 116]] : List Str) ((updC yg29 i g) 55 0), Ent.im (tI .u8) q64 ((updC yg29 i g) 52 0), Ent.im tS ([[110, 111, 114, 109, 97, 108]] : List Str) ((updC yg29 i g) 47 0), Ent.im tS ([[97, 117, 116, 111]] : List Str) ((updC yg29 i g) 40 0), Ent.im tS ([[97, 117, 116, 111]] : List Str) ((updC yg29 i g) 36 0), Ent.im tS ([[97, 117, 116, 111]] : List Str) ((updC yg29 i g) 32 0), Ent.im tS ([[97, 117, 116, 111]] : List Str) ((updC yg29 i g) 28 0), Ent.im tS ([[97, 117, 116, 111]] : List Str) ((updC yg29 i g) 24 0), Ent.im (tI .u8) ([2, 3, 4] : List Int) ((updC yg29 i g) 67 1), Ent.im tS ([[97, 117, 116, 111]] : List Str) ((updC yg29 i g) 20 0), Ent.im tS ([[99, 111, 108, 108, 97, 112, 115, 101], [104, 105, 100, 100, 101, 110], [118, 105, 115, 105, 98, 108, 101]] : List Str) ((updC yg29 i g) 17 0), Ent.im tS ([[98, 108, 111, 99, 107], [102, 108, 101, 120], [105, 110, 108, 105, 110, 101], [105, 110, 108, 105, 110, 101, 45, 98, 108, 111, 99, 107], [110, 111, 110, 101]] : List Str) ((updC yg29 i g) 14 0), Ent.im (tI .u8) ([7, 8] : List Int) ((updC yg29 i g) 67 2)] : List Ent) = [Ent.own 51 tyProp ([(TProp.mk [99, 111, 108, 111, 114] true (TVal.mk 7 [] 0 (TColor.mk 0 0 0 255)) [] ([7, 8] : List Int) false), (TProp.mk [98, 97, 99, 107, 103, 114, 111, 117, 110, 100, 45, 99, 111, 108, 111, 114] false (TVal.mk 7 [] 0 (TColor.mk 0 0 0 0)) [] ([7, 8] : List Int) false), (TProp.mk [98, 111, 114, 100, 101, 114, 45, 99, 111, 108, 111, 114] false (TVal.mk 8 [] 0 (TColor.mk 0 0 0 0)) [] ([7, 8] : List Int) false), (TProp.mk [111, 117, 116, 108, 105, 110, 101, 45, 99, 111, 108, 111, 114] false (TVal.mk 8 [] 0 (TColor.mk 0 0 0 0)) [] ([7, 8] : List Int) false), (TProp.mk [100, 105, 115, 112, 108, 97, 121] false y30 ([[98, 108, 111, 99, 107], [102, 108, 101, 120], [105, 110, 108, 105, 110, 101], [105, 110, 108, 105, 110, 101, 45, 98, 108, 111, 99, 107], [110, 111, 110, 101]] : List Str) [] false), (TProp.mk [118, 105, 115, 105, 98, 105, 108, 105, 116, 121] true y33 ([[99, 111, 108, 108, 97, 112, 115, 101], [104, 105, 100, 100, 101, 110], [118, 105, 115, 105, 98, 108, 101]] : List Str) [] false), (TProp.mk [119, 105, 100, 116, 104] false (TVal.mk 1 [97, 117, 116, 111] 0 (TColor.mk 0 0 0 0)) ([[97, 117, 116, 111]] : List Str) ([2, 3, 4] : List Int) true), (TProp.mk [104, 101, 105, 103, 104, 116] false (TVal.mk 1 [97, 117, 116, 111] 0 (TColor.mk 0 0 0 0)) ([[97, 117, 116, 111]] : List Str) ([2, 3, 4] : List Int) true), (TProp.mk [109, 97, 114, 103, 105, 110, 45, 116, 111, 112] false y40 ([[97, 117, 116, 111]] : List Str) ([2, 3, 4] : List Int) false), (TProp.mk [109, 97, 114, 103, 105, 110, 45, 114, 105, 103, 104, 116] false y43 ([[97, 117, 116, 111]] : List Str) ([2, 3, 4] : List Int) false), (TProp.mk [109, 97, 114, 103, 105, 110, 45, 98, 111, 116, 116, 111, 109] false y46 ([[97, 117, 116, 111]] : List Str) ([2, 3, 4] : List Int) false), (TProp.mk [109, 97, 114, 103, 105, 110, 45, 108, 101, 102, 116] false y49 ([[97, 117, 116, 111]] : List Str) ([2, 3, 4] : List Int) false), (TProp.mk [102, 111, 110, 116, 45, 115, 105, 122, 101] true y52 [] ([2, 3, 4] : List Int) true), (TProp.mk [108, 105, 110, 101, 45, 104, 101, 105, 103, 104, 116] true y53 ([[110, 111, 114, 109, 97, 108]] : List Str) q64 true), (TProp.mk [116, 101, 120, 116, 45, 97, 108, 105, 103, 110] true y66 ([[99, 101, 110, 116, 101, 114], [106, 117, 115, 116, 105, 102, 121], [108, 101, 102, 116], [114, 105, 103, 104, 116]] : List Str) [] false), (TProp.mk [111, 112, 97, 99, 105, 116, 121] false (TVal.mk 5 [] 1000 (TColor.mk 0 0 0 0)) [] ([5] : List Int) false), (TProp.mk [122, 45, 105, 110, 100, 101, 120] false (TVal.mk 1 [97, 117, 116, 111] 0 (TColor.mk 0 0 0 0)) ([[97, 117, 116, 111]] : List Str) ([6] : List Int) false), (TProp.mk [111, 114, 100, 101, 114] false (TVal.mk 6 [] 0 (TColor.mk 0 0 0 0)) [] ([6] : List Int) false)] : List TProp) (yg29 67 0), Ent.im (tI .u8) ([6] : List Int) (yg29 65 0), Ent.im (tI .u8) ([6] : List Int) (yg29 62 0), Ent.im tS ([[97, 117, 116, 111]] : List Str) (yg29 61 0), Ent.im (tI .u8) ([5] : List Int) (yg29 58 0), Ent.im tS ([[99, 101, 110, 116, 101, 114], [106, 117, 115, 116, 105, 102, 121], [108, 101, 102, 116], [114, 105, 103, 104, 116]] : List Str) (yg29 55 0), Ent.im (tI .u8) q64 (yg29 52 0), Ent.im tS ([[110, 111, 114, 109, 97, 108]] : List Str) (yg29 47 0), Ent.im tS ([[97, 117, 116, 111]] : List Str) (yg29 40 0), Ent.im tS ([[97, 117, 116, 111]] : List Str) (yg29 36 0), Ent.im tS ([[97, 117, 116, 111]] : List Str) (yg29 32 0), Ent.im tS ([[97, 117, 116, 111]] : List Str) (yg29 28 0), Ent.im tS ([[97, 117, 116, 111]] : List Str) (yg29 24 0), Ent.im (tI .u8) ([2, 3, 4] : List Int) (yg29 67 1), Ent.im tS ([[97, 117, 116, 111]] : List Str) (yg29 20 0), Ent.im tS ([[99, 111, 108, 108, 97, 112, 115, 101], [104, 105, 100, 100, 101, 110], [118, 105, 115, 105, 98, 108, 101]] : List Str) (yg29 17 0), Ent.im tS ([[98, 108, 111, 99, 107], [102, 108, 101, 120], [105, 110, 108, 105, 110, 101], [105, 110, 108, 105, 110, 101, 45, 98, 108, 111, 99, 107], [110, 111, 110, 101]] : List Str) (yg29 14 0), Ent.im (tI .u8) ([7, 8] : List Int) (yg29 67 2)] by simp only [h14, h17, h20, h24, h28, h32, h36, h40, h47, h52, h55, h58, h61, h62, h65, h67])⟩), (fun yg29 i g hi => by have h67 : updC yg29 i g 67 = yg29 67 := updC_out hi rfl; exact ⟨(show (.slice ((updC yg29 i g) 67 0).a 18 ((updC yg29 i g) 67 0).c : Value) = .slice (yg29 67 0).a 18 (yg29 67 0).c by simp only [h67]), (show ([] : List Ent) = [] by simp only [])⟩), trivial⟩
  case hstep_yg29 =>
    refine ⟨?_, ?_, ?_, ?_, ?_, ?_, ?_, ?_, ?_, ?_, ?_, ?_, ?_, ?_, ?_, ?_, ?_, ?_, ?_, ?_, ?_, ?_, ?_, ?_, ?_, ?_, ?_, ?_, ?_, ?_, ?_, ?_, ?_, ?_, ?_, ?_, ?_, ?_, ?_, ?_, ?_, ?_, ?_, ?_, ?_, ?_, ?_, ?_, ?_, ?_, ?_, ?_, ?_, ?_, ?_, ?_, ?_, ?_, ?_, ?_, ?_, ?_, ?_, ?_, ?_, ?_, ?_, ?_, ?_, trivial⟩
    · intro o ho a w yg29 M Hb hv hO hS0
      obtain rfl := Option.some.inj ho
      have H : Fr 77 ([] ++ [(1, [], .pointer (some ⟨b5, 0, none⟩)), (2, [], .slice g10.a 2 g10.c), (3, [], .slice g16.a 3 g16.c), (4, [], .pointer (some ⟨b24, 0, none⟩))]) _ := Hb
      obtain ⟨X, hX⟩ : ∃ X, X = fpl [] := ⟨_, rfl⟩
      have hS : SH M X w [] w := by rw [hX]; exact hS0
      refine Stp.mono (o_evs [] (.agg ⟨[.int .u8 0, .int .u8 0, .int .u8 0, .int .u8 255]⟩) none [] H rfl (by kernel_rfl) (fun q e => by cases e)) ?_
      rintro v w2 ⟨rfl, hq⟩
      replace hS : SH M X w [] _ := hS.below hq.below
      rw [hX] at hS
      exact ⟨gL [], fun _ _ => rfl, hS.sel [] rfl⟩
    · intro o ho a w yg29 M Hb hv hO hS0
      obtain rfl := Option.some.inj ho
      have H : Fr 77 ([(9, [], .agg ⟨[.int .u8 0, .int .u8 0, .int .u8 0, .int .u8 255]⟩)] ++ [(1, [], .pointer (some ⟨b5, 0, none⟩)), (2, [], .slice g10.a 2 g10.c), (3, [], .slice g16.a 3 g16.c), (4, [], .pointer (some ⟨b24, 0, none⟩))]) _ := (Hb).add (hv 0 (by decide) (by decide) 9 rfl)
      obtain ⟨X, hX⟩ : ∃ X, X = fpl [] := ⟨_, rfl⟩
      have hS : SH M X w [] w := by rw [hX]; exact hS0
      refine Stp.mono (o_evs [] (.agg ⟨[.int .u8 7, .string ⟨⟨[]⟩⟩, .int .i64 0, .int .u8 0, .int .u8 0, .int .u8 0, .int .u8 255]⟩) none [] H rfl (by kernel_rfl) (fun q e => by cases e)) ?_
      rintro v w2 ⟨rfl, hq⟩
      replace hS : SH M X w [] _ := hS.below hq.below
      rw [hX] at hS
      exact ⟨gL [], fun _ _ => rfl, hS.sel [] rfl⟩
    · intro o ho a w yg29 M Hb hv hO hS0
      obtain rfl := Option.some.inj ho
      have H : Fr 77 ([] ++ [(1, [], .pointer (some ⟨b5, 0, none⟩)), (2, [], .slice g10.a 2 g10.c), (3, [], .slice g16.a 3 g16.c), (4, [], .pointer (some ⟨b24, 0, none⟩))]) _ := Hb
      obtain ⟨X, hX⟩ : ∃ X, X = fpl [Ent.own 5 (tI .u8) ([7, 8] : List Int) g10] := ⟨_, rfl⟩
      have hS : SH M X w [Ent.own 5 (tI .u8) ([7, 8] : List Int) g10] w := by rw [hX]; exact hS0
      refine Stp.mono (o_evs [] (.slice g10.a 2 g10.c) none [] H rfl (by kernel_rfl) (fun q e => by cases e)) ?_
      rintro v w2 ⟨rfl, hq⟩
      replace hS : SH M X w [Ent.own 5 (tI .u8) ([7, 8] : List Int) g10] _ := hS.below hq.below
      rw [hX] at hS
      exact ⟨gL [], fun _ _ => rfl, hS.sel [0] rfl⟩
    · intro o ho a w yg29 M Hb hv hO hS0
      obtain rfl := Option.some.inj ho
      have H : Fr 77 ([(11, [], .slice g10.a 2 g10.c), (10, [], .agg ⟨[.int .u8 7, .string ⟨⟨[]⟩⟩, .int .i64 0, .int .u8 0, .int .u8 0, .int .u8 0, .int .u8 255]⟩)] ++ [(1, [], .pointer (some ⟨b5, 0, none⟩)), (2, [], .slice g10.a 2 g10.c), (3, [], .slice g16.a 3 g16.c), (4, [], .pointer (some ⟨b24, 0, none⟩))]) _ := ((Hb).add (hv 1 (by decide) (by decide) 10 rfl)).add (hv 2 (by decide) (by decide) 11 rfl)
      obtain ⟨X, hX⟩ : ∃ X, X = fpl [Ent.own 5 (tI .u8) ([7, 8] : List Int) g10] := ⟨_, rfl⟩
      have hS : SH M X w [Ent.own 5 (tI .u8) ([7, 8] : List Int) g10] w := by rw [hX]; exact hS0
      refine Stp.mono (o_evs [] (.agg ⟨[.string ⟨⟨[99, 111, 108, 111, 114]⟩⟩, .bool true, .int .u8 7, .string ⟨⟨[]⟩⟩, .int .i64 0, .int .u8 0, .int .u8 0, .int .u8 0, .int .u8 255, .slice none 0 0, .slice g10.a 2 g10.c, .bool false]⟩) none [] H rfl (by kernel_rfl) (fun q e => by cases e)) ?_
      rintro v w2 ⟨rfl, hq⟩
      replace hS : SH M X w [Ent.own 5 (tI .u8) ([7, 8] : List Int) g10] _ := hS.below hq.below
      rw [hX] at hS
      exact ⟨gL [], fun _ _ => rfl, hS.sel [0] rfl⟩
    · intro o ho a w yg29 M Hb hv hO hS0
      obtain rfl := Option.some.inj ho
      have H : Fr 77 ([] ++ [(1, [], .pointer (some ⟨b5, 0, none⟩)), (2, [], .slice g10.a 2 g10.c), (3, [], .slice g16.a 3 g16.c), (4, [], .pointer (some ⟨b24, 0, none⟩))]) _ := Hb
      obtain ⟨X, hX⟩ : ∃ X, X = fpl [] := ⟨_, rfl⟩
      have hS : SH M X w [] w := by rw [hX]; exact hS0
      refine Stp.mono (o_evs [] (.agg ⟨[.int .u8 7, .string ⟨⟨[]⟩⟩, .int .i64 0, .int .u8 0, .int .u8 0, .int .u8 0, .int .u8 0]⟩) none [] H rfl (by kernel_rfl) (fun q e => by cases e)) ?_
      rintro v w2 ⟨rfl, hq⟩
      replace hS : SH M X w [] _ := hS.below hq.below
      rw [hX] at hS
      exact ⟨gL [], fun _ _ => rfl, hS.sel [] rfl⟩
    · intro o ho a w yg29 M Hb hv hO hS0
      obtain rfl := Option.some.inj ho
      have H : Fr 77 ([] ++ [(1, [], .pointer (some ⟨b5, 0, none⟩)), (2, [], .slice g10.a 2 g10.c), (3, [], .slice g16.a 3 g16.c), (4, [], .pointer (some ⟨b24, 0, none⟩))]) _ := Hb
      obtain ⟨X, hX⟩ : ∃ X, X = fpl [Ent.own 5 (tI .u8) ([7, 8] : List Int) g10] := ⟨_, rfl⟩
      have hS : SH M X w [Ent.own 5 (tI .u8) ([7, 8] : List Int) g10] w := by rw [hX]; exact hS0
      refine Stp.mono (o_evs [] (.slice g10.a 2 g10.c) none [] H rfl (by kernel_rfl) (fun q e => by cases e)) ?_
      rintro v w2 ⟨rfl, hq⟩
      replace hS : SH M X w [Ent.own 5 (tI .u8) ([7, 8] : List Int) g10] _ := hS.below hq.below
      rw [hX] at hS
      exact ⟨gL [], fun _ _ => rfl, hS.sel [0] rfl⟩
    · intro o ho a w yg29 M Hb hv hO hS0
      obtain rfl := Option.some.inj ho
      have H : Fr 77 ([(14, [], .slice g10.a 2 g10.c), (13, [], .agg ⟨[.int .u8 7, .string ⟨⟨[]⟩⟩, .int .i64 0, .int .u8 0, .int .u8 0, .int .u8 0, .int .u8 0]⟩)] ++ [(1, [], .pointer (some ⟨b5, 0, none⟩)), (2, [], .slice g10.a 2 g10.c), (3, [], .slice g16.a 3 g16.c), (4, [], .pointer (some ⟨b24, 0, none⟩))]) _ := ((Hb).add (hv 4 (by decide) (by decide) 13 rfl)).add (hv 5 (by decide) (by decide) 14 rfl)
      obtain ⟨X, hX⟩ : ∃ X, X = fpl [Ent.own 5 (tI .u8) ([7, 8] : List Int) g10] := ⟨_, rfl⟩
      have hS : SH M X w [Ent.own 5 (tI .u8) ([7, 8] : List Int) g10] w := by rw [hX]; exact hS0
      refine Stp.mono (o_evs [] (.agg ⟨[.string ⟨⟨[98, 97, 99, 107, 103, 114, 111, 117, 110, 100, 45, 99, 111, 108, 111, 114]⟩⟩, .bool false, .int .u8 7, .string ⟨⟨[]⟩⟩, .int .i64 0, .int .u8 0, .int .u8 0, .int .u8 0, .int .u8 0, .slice none 0 0, .slice g10.a 2 g10.c, .bool false]⟩) none [] H rfl (by kernel_rfl) (fun q e => by cases e)) ?_
      rintro v w2 ⟨rfl, hq⟩
      replace hS : SH M X w [Ent.own 5 (tI .u8) ([7, 8] : List Int) g10] _ := hS.below hq.below
      rw [hX] at hS
      exact ⟨gL [], fun _ _ => rfl, hS.sel [0] rfl⟩
    · intro o ho a w yg29 M Hb hv hO hS0
      obtain rfl := Option.some.inj ho
      have H : Fr 77 ([] ++ [(1, [], .pointer (some ⟨b5, 0, none⟩)), (2, [], .slice g10.a 2 g10.c), (3, [], .slice g16.a 3 g16.c), (4, [], .pointer (some ⟨b24, 0, none⟩))]) _ := Hb
      obtain ⟨X, hX⟩ : ∃ X, X = fpl [Ent.blk b5 [.int .u8 8, .string ⟨⟨[]⟩⟩, .int .i64 0, .int .u8 0, .int .u8 0, .int .u8 0, .int .u8 0]] := ⟨_, rfl⟩
      have hS : SH M X w [Ent.blk b5 [.int .u8 8, .string ⟨⟨[]⟩⟩, .int .i64 0, .int .u8 0, .int .u8 0, .int .u8 0, .int .u8 0]] w := by rw [hX]; exact hS0
      refine Stp.mono (o_evs [(.agg ⟨[.int .u8 8, .string ⟨⟨[]⟩⟩, .int .i64 0, .int .u8 0, .int .u8 0, .int .u8 0, .int .u8 0]⟩)] (.agg ⟨[.int .u8 8, .string ⟨⟨[]⟩⟩, .int .i64 0, .int .u8 0, .int .u8 0, .int .u8 0, .int .u8 0]⟩) (some (fun wz => V.atN b5 0 [.int .u8 8, .string ⟨⟨[]⟩⟩, .int .i64 0, .int .u8 0, .int .u8 0, .int .u8 0, .int .u8 0] 0 wz)) [] H rfl (by kernel_rfl) (fun q e => by cases e; exact ((hS.bk 0 rfl).atD rfl))) ?_
      rintro v w2 ⟨rfl, hq⟩
      replace hS : SH M X w [Ent.blk b5 [.int .u8 8, .string ⟨⟨[]⟩⟩, .int .i64 0, .int .u8 0, .int .u8 0, .int .u8 0, .int .u8 0]] _ := hS.below hq.below
      rw [hX] at hS
      exact ⟨gL [], fun _ _ => rfl, hS.sel [0] rfl⟩
    · intro o ho a w yg29 M Hb hv hO hS0
      obtain rfl := Option.some.inj ho
      have H : Fr 77 ([] ++ [(1, [], .pointer (some ⟨b5, 0, none⟩)), (2, [], .slice g10.a 2 g10.c), (3, [], .slice g16.a 3 g16.c), (4, [], .pointer (some ⟨b24, 0, none⟩))]) _ := Hb
      obtain ⟨X, hX⟩ : ∃ X, X = fpl [Ent.own 5 (tI .u8) ([7, 8] : List Int) g10] := ⟨_, rfl⟩
      have hS : SH M X w [Ent.own 5 (tI .u8) ([7, 8] : List Int) g10] w := by rw [hX]; exact hS0
      refine Stp.mono (o_evs [] (.slice g10.a 2 g10.c) none [] H rfl (by kernel_rfl) (fun q e => by cases e)) ?_
      rintro v w2 ⟨rfl, hq⟩
      replace hS : SH M X w [Ent.own 5 (tI .u8) ([7, 8] : List Int) g10] _ := hS.below hq.below
      rw [hX] at hS
      exact ⟨gL [], fun _ _ => rfl, hS.sel [0] rfl⟩
    · intro o ho a w yg29 M Hb hv hO hS0
      obtain rfl := Option.some.inj ho
      have H : Fr 77 ([(17, [], .slice g10.a 2 g10.c), (16, [], .agg ⟨[.int .u8 8, .string ⟨⟨[]⟩⟩, .int .i64 0, .int .u8 0, .int .u8 0, .int .u8 0, .int .u8 0]⟩)] ++ [(1, [], .pointer (some ⟨b5, 0, none⟩)), (2, [], .slice g10.a 2 g10.c), (3, [], .slice g16.a 3 g16.c), (4, [], .pointer (some ⟨b24, 0, none⟩))]) _ := ((Hb).add (hv 7 (by decide) (by decide) 16 rfl)).add (hv 8 (by decide) (by decide) 17 rfl)
      obtain ⟨X, hX⟩ : ∃ X, X = fpl [Ent.own 5 (tI .u8) ([7, 8] : List Int) g10] := ⟨_, rfl⟩
      have hS : SH M X w [Ent.own 5 (tI .u8) ([7, 8] : List Int) g10] w := by rw [hX]; exact hS0
      refine Stp.mono (o_evs [] (.agg ⟨[.string ⟨⟨[98, 111, 114, 100, 101, 114, 45, 99, 111, 108, 111, 114]⟩⟩, .bool false, .int .u8 8, .string ⟨⟨[]⟩⟩, .int .i64 0, .int .u8 0, .int .u8 0, .int .u8 0, .int .u8 0, .slice none 0 0, .slice g10.a 2 g10.c, .bool false]⟩) none [] H rfl (by kernel_rfl) (fun q e => by cases e)) ?_
      rintro v w2 ⟨rfl, hq⟩
      replace hS : SH M X w [Ent.own 5 (tI .u8) ([7, 8] : List Int) g10] _ := hS.below hq.below
      rw [hX] at hS
      exact ⟨gL [], fun _ _ => rfl, hS.sel [0] rfl⟩
    · intro o ho a w yg29 M Hb hv hO hS0
      obtain rfl := Option.some.inj ho
      have H : Fr 77 ([] ++ [(1, [], .pointer (some ⟨b5, 0, none⟩)), (2, [], .slice g10.a 2 g10.c), (3, [], .slice g16.a 3 g16.c), (4, [], .pointer (some ⟨b24, 0, none⟩))]) _ := Hb
      obtain ⟨X, hX⟩ : ∃ X, X = fpl [Ent.blk b5 [.int .u8 8, .string ⟨⟨[]⟩⟩, .int .i64 0, .int .u8 0, .int .u8 0, .int .u8 0, .int .u8 0]] := ⟨_, rfl⟩
      have hS : SH M X w [Ent.blk b5 [.int .u8 8, .string ⟨⟨[]⟩⟩, .int .i64 0, .int .u8 0, .int .u8 0, .int .u8 0, .int .u8 0]] w := by rw [hX]; exact hS0
      refine Stp.mono (o_evs [(.agg ⟨[.int .u8 8, .string ⟨⟨[]⟩⟩, .int .i64 0, .int .u8 0, .int .u8 0, .int .u8 0, .int .u8 0]⟩)] (.agg ⟨[.int .u8 8, .string ⟨⟨[]⟩⟩, .int .i64 0, .int .u8 0, .int .u8 0, .int .u8 0, .int .u8 0]⟩) (some (fun wz => V.atN b5 0 [.int .u8 8, .string ⟨⟨[]⟩⟩, .int .i64 0, .int .u8 0, .int .u8 0, .int .u8 0, .int .u8 0] 0 wz)) [] H rfl (by kernel_rfl) (fun q e => by cases e; exact ((hS.bk 0 rfl).atD rfl))) ?_
      rintro v w2 ⟨rfl, hq⟩
      replace hS : SH M X w [Ent.blk b5 [.int .u8 8, .string ⟨⟨[]⟩⟩, .int .i64 0, .int .u8 0, .int .u8 0, .int .u8 0, .int .u8 0]] _ := hS.below hq.below
      rw [hX] at hS
      exact ⟨gL [], fun _ _ => rfl, hS.sel [0] rfl⟩
    · intro o ho a w yg29 M Hb hv hO hS0
      obtain rfl := Option.some.inj ho
      have H : Fr 77 ([] ++ [(1, [], .pointer (some ⟨b5, 0, none⟩)), (2, [], .slice g10.a 2 g10.c), (3, [], .slice g16.a 3 g16.c), (4, [], .pointer (some ⟨b24, 0, none⟩))]) _ := Hb
      obtain ⟨X, hX⟩ : ∃ X, X = fpl [Ent.own 5 (tI .u8) ([7, 8] : List Int) g10] := ⟨_, rfl⟩
      have hS : SH M X w [Ent.own 5 (tI .u8) ([7, 8] : List Int) g10] w := by rw [hX]; exact hS0
      refine Stp.mono (o_evs [] (.slice g10.a 2 g10.c) none [] H rfl (by kernel_rfl) (fun q e => by cases e)) ?_
      rintro v w2 ⟨rfl, hq⟩
      replace hS : SH M X w [Ent.own 5 (tI .u8) ([7, 8] : List Int) g10] _ := hS.below hq.below
      rw [hX] at hS
      exact ⟨gL [], fun _ _ => rfl, hS.sel [0] rfl⟩
    · intro o ho a w yg29 M Hb hv hO hS0
      obtain rfl := Option.some.inj ho
      have H : Fr 77 ([(20, [], .slice g10.a 2 g10.c), (19, [], .agg ⟨[.int .u8 8, .string ⟨⟨[]⟩⟩, .int .i64 0, .int .u8 0, .int .u8 0, .int .u8 0, .int .u8 0]⟩)] ++ [(1, [], .pointer (some ⟨b5, 0, none⟩)), (2, [], .slice g10.a 2 g10.c), (3, [], .slice g16.a 3 g16.c), (4, [], .pointer (some ⟨b24, 0, none⟩))]) _ := ((Hb).add (hv 10 (by decide) (by decide) 19 rfl)).add (hv 11 (by decide) (by decide) 20 rfl)
      obtain ⟨X, hX⟩ : ∃ X, X = fpl [Ent.own 5 (tI .u8) ([7, 8] : List Int) g10] := ⟨_, rfl⟩
      have hS : SH M X w [Ent.own 5 (tI .u8) ([7, 8] : List Int) g10] w := by rw [hX]; exact hS0
      refine Stp.mono (o_evs [] (.agg ⟨[.string ⟨⟨[111, 117, 116, 108, 105, 110, 101, 45, 99, 111, 108, 111, 114]⟩⟩, .bool false, .int .u8 8, .string ⟨⟨[]⟩⟩, .int .i64 0, .int .u8 0, .int .u8 0, .int .u8 0, .int .u8 0, .slice none 0 0, .slice g10.a 2 g10.c, .bool false]⟩) none [] H rfl (by kernel_rfl) (fun q e => by cases e)) ?_
      rintro v w2 ⟨rfl, hq⟩
      replace hS : SH M X w [Ent.own 5 (tI .u8) ([7, 8] : List Int) g10] _ := hS.below hq.below
      rw [hX] at hS
      exact ⟨gL [], fun _ _ => rfl, hS.sel [0] rfl⟩
    · intro o ho a w yg29 M Hb hv hO hS0
      obtain rfl := Option.some.inj ho
      have H : Fr 77 ([] ++ [(1, [], .pointer (some ⟨b5, 0, none⟩)), (2, [], .slice g10.a 2 g10.c), (3, [], .slice g16.a 3 g16.c), (4, [], .pointer (some ⟨b24, 0, none⟩))]) _ := Hb
      obtain ⟨X, hX⟩ : ∃ X, X = fpl [] := ⟨_, rfl⟩
      have hS : SH M X w [] w := by rw [hX]; exact hS0
      refine Stp.mono (o_evs [(.agg ⟨[.int .u8 y30.Kind, .string ⟨⟨y30.Word⟩⟩, .int .i64 y30.Num, .int .u8 y30.Color.Red, .int .u8 y30.Color.Green, .int .u8 y30.Color.Blue, .int .u8 y30.Color.Alpha]⟩)] (.agg ⟨[.int .u8 y30.Kind, .string ⟨⟨y30.Word⟩⟩, .int .i64 y30.Num, .int .u8 y30.Color.Red, .int .u8 y30.Color.Green, .int .u8 y30.Color.Blue, .int .u8 y30.Color.Alpha]⟩) (some (fun wz => RetB Tryd.prog 35 ⟨[.string ⟨⟨[105, 110, 108, 105, 110, 101]⟩⟩]⟩ (.agg ⟨[.int .u8 y30.Kind, .string ⟨⟨y30.Word⟩⟩, .int .i64 y30.Num, .int .u8 y30.Color.Red, .int .u8 y30.Color.Green, .int .u8 y30.Color.Blue, .int .u8 y30.Color.Alpha]⟩) wz)) [] H rfl (by subst hy30; kernel_rfl) (fun q e => by cases e; exact ((by rw [hy30]; exact (r25_word_ok _).b)))) ?_
      rintro v w2 ⟨rfl, hq⟩
      replace hS : SH M X w [] _ := hS.below hq.below
      rw [hX] at hS
      exact ⟨gL [], fun _ _ => rfl, hS.sel [] rfl⟩
    · intro o ho a w yg29 M Hb hv hO hS0
      obtain rfl := Option.some.inj ho
      have H : Fr 77 ([] ++ [(1, [], .pointer (some ⟨b5, 0, none⟩)), (2, [], .slice g10.a 2 g10.c), (3, [], .slice g16.a 3 g16.c), (4, [], .pointer (some ⟨b24, 0, none⟩))]) _ := Hb
      obtain ⟨X, hX⟩ : ∃ X, X = fpl [] := ⟨_, rfl⟩
      have hS : SH M X w [] w := by rw [hX]; exact hS0
      have hd : S0 (AvL M []) [] _ := hS.hand [] [] rfl rfl
      refine Stp.mono (o_lit (T := tS) (E := 9) (zv := .string ⟨⟨[]⟩⟩) [.string ⟨⟨[98, 108, 111, 99, 107]⟩⟩, .string ⟨⟨[102, 108, 101, 120]⟩⟩, .string ⟨⟨[105, 110, 108, 105, 110, 101]⟩⟩, .string ⟨⟨[105, 110, 108, 105, 110, 101, 45, 98, 108, 111, 99, 107]⟩⟩, .string ⟨⟨[110, 111, 110, 101]⟩⟩] ([[98, 108, 111, 99, 107], [102, 108, 101, 120], [105, 110, 108, 105, 110, 101], [105, 110, 108, 105, 110, 101, 45, 98, 108, 111, 99, 107], [110, 111, 110, 101]] : List Str) [gL [], gL [], gL [], gL [], gL []] _ H hd rfl (by kernel_rfl) (by kernel_rfl) (by kernel_rfl) (by kernel_rfl) (by kernel_rfl) (by kernel_rfl) (by kernel_rfl) rfl (InnL.cons trivial (InnL.cons trivial (InnL.cons trivial (InnL.cons trivial (InnL.cons trivial InnL.nil)))))) ?_
      rintro v w2 hq
      obtain ⟨g31, rfl, hq⟩ := hq
      replace hS : SH M X w [Ent.own 9 tS ([[98, 108, 111, 99, 107], [102, 108, 101, 120], [105, 110, 108, 105, 110, 101], [105, 110, 108, 105, 110, 101, 45, 98, 108, 111, 99, 107], [110, 111, 110, 101]] : List Str) g31] _ := hS.join [] [] rfl rfl hq
      clear hq
      rw [hX] at hS
      exact ⟨gL [g31], fun _ _ => rfl, hS.sel [0] rfl⟩
    · intro o ho a w yg29 M Hb hv hO hS0
      obtain rfl := Option.some.inj ho
      have H : Fr 77 ([(23, [], .slice (yg29 14 0).a 5 (yg29 14 0).c), (22, [], .agg ⟨[.int .u8 y30.Kind, .string ⟨⟨y30.Word⟩⟩, .int .i64 y30.Num, .int .u8 y30.Color.Red, .int .u8 y30.Color.Green, .int .u8 y30.Color.Blue, .int .u8 y30.Color.Alpha]⟩)] ++ [(1, [], .pointer (some ⟨b5, 0, none⟩)), (2, [], .slice g10.a 2 g10.c), (3, [], .slice g16.a 3 g16.c), (4, [], .pointer (some ⟨b24, 0, none⟩))]) _ := ((Hb).add (hv 13 (by decide) (by decide) 22 rfl)).add (hv 14 (by decide) (by decide) 23 rfl)
      obtain ⟨X, hX⟩ : ∃ X, X = fpl [Ent.own 9 tS ([[98, 108, 111, 99, 107], [102, 108, 101, 120], [105, 110, 108, 105, 110, 101], [105, 110, 108, 105, 110, 101, 45, 98, 108, 111, 99, 107], [110, 111, 110, 101]] : List Str) (yg29 14 0)] := ⟨_, rfl⟩
      have hS : SH M X w [Ent.own 9 tS ([[98, 108, 111, 99, 107], [102, 108, 101, 120], [105, 110, 108, 105, 110, 101], [105, 110, 108, 105, 110, 101, 45, 98, 108, 111, 99, 107], [110, 111, 110, 101]] : List Str) (yg29 14 0)] w := by rw [hX]; exact hS0
      refine Stp.mono (o_evs [] (.agg ⟨[.string ⟨⟨[100, 105, 115, 112, 108, 97, 121]⟩⟩, .bool false, .int .u8 y30.Kind, .string ⟨⟨y30.Word⟩⟩, .int .i64 y30.Num, .int .u8 y30.Color.Red, .int .u8 y30.Color.Green, .int .u8 y30.Color.Blue, .int .u8 y30.Color.Alpha, .slice (yg29 14 0).a 5 (yg29 14 0).c, .slice none 0 0, .bool false]⟩) none [] H rfl (by kernel_rfl) (fun q e => by cases e)) ?_
      rintro v w2 ⟨rfl, hq⟩
      replace hS : SH M X w [Ent.own 9 tS ([[98, 108, 111, 99, 107], [102, 108, 101, 120], [105, 110, 108, 105, 110, 101], [105, 110, 108, 105, 110, 101, 45, 98, 108, 111, 99, 107], [110, 111, 110, 101]] : List Str) (yg29 14 0)] _ := hS.below hq.below
      rw [hX] at hS
      exact ⟨gL [], fun _ _ => rfl, hS.sel [0] rfl⟩
    · intro o ho a w yg29 M Hb hv hO hS0
      obtain rfl := Option.some.inj ho
      have H : Fr 77 ([] ++ [(1, [], .pointer (some ⟨b5, 0, none⟩)), (2, [], .slice g10.a 2 g10.c), (3, [], .slice g16.a 3 g16.c), (4, [], .pointer (some ⟨b24, 0, none⟩))]) _ := Hb
      obtain ⟨X, hX⟩ : ∃ X, X = fpl [] := ⟨_, rfl⟩
      have hS : SH M X w [] w := by rw [hX]; exact hS0
      refine Stp.mono (o_evs [(.agg ⟨[.int .u8 y33.Kind, .string ⟨⟨y33.Word⟩⟩, .int .i64 y33.Num, .int .u8 y33.Color.Red, .int .u8 y33.Color.Green, .int .u8 y33.Color.Blue, .int .u8 y33.Color.Alpha]⟩)] (.agg ⟨[.int .u8 y33.Kind, .string ⟨⟨y33.Word⟩⟩, .int .i64 y33.Num, .int .u8 y33.Color.Red, .int .u8 y33.Color.Green, .int .u8 y33.Color.Blue, .int .u8 y33.Color.Alpha]⟩) (some (fun wz => RetB Tryd.prog 35 ⟨[.string ⟨⟨[118, 105, 115, 105, 98, 108, 101]⟩⟩]⟩ (.agg ⟨[.int .u8 y33.Kind, .string ⟨⟨y33.Word⟩⟩, .int .i64 y33.Num, .int .u8 y33.Color.Red, .int .u8 y33.Color.Green, .int .u8 y33.Color.Blue, .int .u8 y33.Color.Alpha]⟩) wz)) [] H rfl (by subst hy33; kernel_rfl) (fun q e => by cases e; exact ((by rw [hy33]; exact (r25_word_ok _).b)))) ?_
      rintro v w2 ⟨rfl, hq⟩
      replace hS : SH M X w [] _ := hS.below hq.below
      rw [hX] at hS
      exact ⟨gL [], fun _ _ => rfl, hS.sel [] rfl⟩
    · intro o ho a w yg29 M Hb hv hO hS0
      obtain rfl := Option.some.inj ho
      have H : Fr 77 ([] ++ [(1, [], .pointer (some ⟨b5, 0, none⟩)), (2, [], .slice g10.a 2 g10.c), (3, [], .slice g16.a 3 g16.c), (4, [], .pointer (some ⟨b24, 0, none⟩))]) _ := Hb
      obtain ⟨X, hX⟩ : ∃ X, X = fpl [] := ⟨_, rfl⟩
      have hS : SH M X w [] w := by rw [hX]; exact hS0
      have hd : S0 (AvL M []) [] _ := hS.hand [] [] rfl rfl
      refine Stp.mono (o_lit (T := tS) (E := 9) (zv := .string ⟨⟨[]⟩⟩) [.string ⟨⟨[99, 111, 108, 108, 97, 112, 115, 101]⟩⟩, .string ⟨⟨[104, 105, 100, 100, 101, 110]⟩⟩, .string ⟨⟨[118, 105, 115, 105, 98, 108, 101]⟩⟩] ([[99, 111, 108, 108, 97, 112, 115, 101], [104, 105, 100, 100, 101, 110], [118, 105, 115, 105, 98, 108, 101]] : List Str) [gL [], gL [], gL []] _ H hd rfl (by kernel_rfl) (by kernel_rfl) (by kernel_rfl) (by kernel_rfl) (by kernel_rfl) (by kernel_rfl) (by kernel_rfl) rfl (InnL.cons trivial (InnL.cons trivial (InnL.cons trivial InnL.nil)))) ?_
      rintro v w2 hq
      obtain ⟨g34, rfl, hq⟩ := hq
      replace hS : SH M X w [Ent.own 9 tS ([[99, 111, 108, 108, 97, 112, 115, 101], [104, 105, 100, 100, 101, 110], [118, 105, 115, 105, 98, 108, 101]] : List Str) g34] _ := hS.join [] [] rfl rfl hq
      clear hq
      rw [hX] at hS
      exact ⟨gL [g34], fun _ _ => rfl, hS.sel [0] rfl⟩
    · intro o ho a w yg29 M Hb hv hO hS0
      obtain rfl := Option.some.inj ho
      have H : Fr 77 ([(26, [], .slice (yg29 17 0).a 3 (yg29 17 0).c), (25, [], .agg ⟨[.int .u8 y33.Kind, .string ⟨⟨y33.Word⟩⟩, .int .i64 y33.Num, .int .u8 y33.Color.Red, .int .u8 y33.Color.Green, .int .u8 y33.Color.Blue, .int .u8 y33.Color.Alpha]⟩)] ++ [(1, [], .pointer (some ⟨b5, 0, none⟩)), (2, [], .slice g10.a 2 g10.c), (3, [], .slice g16.a 3 g16.c), (4, [], .pointer (some ⟨b24, 0, none⟩))]) _ := ((Hb).add (hv 16 (by decide) (by decide) 25 rfl)).add (hv 17 (by decide) (by decide) 26 rfl)
      obtain ⟨X, hX⟩ : ∃ X, X = fpl [Ent.own 9 tS ([[99, 111, 108, 108, 97, 112, 115, 101], [104, 105, 100, 100, 101, 110], [118, 105, 115, 105, 98, 108, 101]] : List Str) (yg29 17 0)] := ⟨_, rfl⟩
      have hS : SH M X w [Ent.own 9 tS ([[99, 111, 108, 108, 97, 112, 115, 101], [104, 105, 100, 100, 101, 110], [118, 105, 115, 105, 98, 108, 101]] : List Str) (yg29 17 0)] w := by rw [hX]; exact hS0
      refine Stp.mono (o_evs [] (.agg ⟨[.string ⟨⟨[118, 105, 115, 105, 98, 105, 108, 105, 116, 121]⟩⟩, .bool true, .int .u8 y33.Kind, .string ⟨⟨y33.Word⟩⟩, .int .i64 y33.Num, .int .u8 y33.Color.Red, .int .u8 y33.Color.Green, .int .u8 y33.Color.Blue, .int .u8 y33.Color.Alpha, .slice (yg29 17 0).a 3 (yg29 17 0).c, .slice none 0 0, .bool false]⟩) none [] H rfl (by kernel_rfl) (fun q e => by cases e)) ?_
      rintro v w2 ⟨rfl, hq⟩
      replace hS : SH M X w [Ent.own 9 tS ([[99, 111, 108, 108, 97, 112, 115, 101], [104, 105, 100, 100, 101, 110], [118, 105, 115, 105, 98, 108, 101]] : List Str) (yg29 17 0)] _ := hS.below hq.below
      rw [hX] at hS
      exact ⟨gL [], fun _ _ => rfl, hS.sel [0] rfl⟩
    · intro o ho a w yg29 M Hb hv hO hS0
      obtain rfl := Option.some.inj ho
      have H : Fr 77 ([] ++ [(1, [], .pointer (some ⟨b5, 0, none⟩)), (2, [], .slice g10.a 2 g10.c), (3, [], .slice g16.a 3 g16.c), (4, [], .pointer (some ⟨b24, 0, none⟩))]) _ := Hb
      obtain ⟨X, hX⟩ : ∃ X, X = fpl [Ent.blk b24 [.int .u8 1, .string ⟨⟨[97, 117, 116, 111]⟩⟩, .int .i64 0, .int .u8 0, .int .u8 0, .int .u8 0, .int .u8 0]] := ⟨_, rfl⟩
      have hS : SH M X w [Ent.blk b24 [.int .u8 1, .string ⟨⟨[97, 117, 116, 111]⟩⟩, .int .i64 0, .int .u8 0, .int .u8 0, .int .u8 0, .int .u8 0]] w := by rw [hX]; exact hS0
      refine Stp.mono (o_evs [(.agg ⟨[.int .u8 1, .string ⟨⟨[97, 117, 116, 111]⟩⟩, .int .i64 0, .int .u8 0, .int .u8 0, .int .u8 0, .int .u8 0]⟩)] (.agg ⟨[.int .u8 1, .string ⟨⟨[97, 117, 116, 111]⟩⟩, .int .i64 0, .int .u8 0, .int .u8 0, .int .u8 0, .int .u8 0]⟩) (some (fun wz => V.atN b24 0 [.int .u8 1, .string ⟨⟨[97, 117, 116, 111]⟩⟩, .int .i64 0, .int .u8 0, .int .u8 0, .int .u8 0, .int .u8 0] 0 wz)) [] H rfl (by kernel_rfl) (fun q e => by cases e; exact ((hS.bk 0 rfl).atD rfl))) ?_
      rintro v w2 ⟨rfl, hq⟩
      replace hS : SH M X w [Ent.blk b24 [.int .u8 1, .string ⟨⟨[97, 117, 116, 111]⟩⟩, .int .i64 0, .int .u8 0, .int .u8 0, .int .u8 0, .int .u8 0]] _ := hS.below hq.below
      rw [hX] at hS
      exact ⟨gL [], fun _ _ => rfl, hS.sel [0] rfl⟩
    · intro o ho a w yg29 M Hb hv hO hS0
      obtain rfl := Option.some.inj ho
      have H : Fr 77 ([] ++ [(1, [], .pointer (some ⟨b5, 0, none⟩)), (2, [], .slice g10.a 2 g10.c), (3, [], .slice g16.a 3 g16.c), (4, [], .pointer (some ⟨b24, 0, none⟩))]) _ := Hb
      obtain ⟨X, hX⟩ : ∃ X, X = fpl [] := ⟨_, rfl⟩
      have hS : SH M X w [] w := by rw [hX]; exact hS0
      have hd : S0 (AvL M []) [] _ := hS.hand [] [] rfl rfl
      refine Stp.mono (o_lit (T := tS) (E := 9) (zv := .string ⟨⟨[]⟩⟩) [.string ⟨⟨[97, 117, 116, 111]⟩⟩] ([[97, 117, 116, 111]] : List Str) [gL []] _ H hd rfl (by kernel_rfl) (by kernel_rfl) (by kernel_rfl) (by kernel_rfl) (by kernel_rfl) (by kernel_rfl) (by kernel_rfl) rfl (InnL.cons trivial InnL.nil)) ?_
      rintro v w2 hq
      obtain ⟨g36, rfl, hq⟩ := hq
      replace hS : SH M X w [Ent.own 9 tS ([[97, 117, 116, 111]] : List Str) g36] _ := hS.join [] [] rfl rfl hq
      clear hq
      rw [hX] at hS
      exact ⟨gL [g36], fun _ _ => rfl, hS.sel [0] rfl⟩
    · intro o ho a w yg29 M Hb hv hO hS0
      obtain rfl := Option.some.inj ho
      have H : Fr 77 ([] ++ [(1, [], .pointer (some ⟨b5, 0, none⟩)), (2, [], .slice g10.a 2 g10.c), (3, [], .slice g16.a 3 g16.c), (4, [], .pointer (some ⟨b24, 0, none⟩))]) _ := Hb
      obtain ⟨X, hX⟩ : ∃ X, X = fpl [Ent.own 5 (tI .u8) ([2, 3, 4] : List Int) g16] := ⟨_, rfl⟩
      have hS : SH M X w [Ent.own 5 (tI .u8) ([2, 3, 4] : List Int) g16] w := by rw [hX]; exact hS0
      refine Stp.mono (o_evs [] (.slice g16.a 3 g16.c) none [] H rfl (by kernel_rfl) (fun q e => by cases e)) ?_
      rintro v w2 ⟨rfl, hq⟩
      replace hS : SH M X w [Ent.own 5 (tI .u8) ([2, 3, 4] : List Int) g16] _ := hS.below hq.below
      rw [hX] at hS
      exact ⟨gL [], fun _ _ => rfl, hS.sel [0] rfl⟩
    · intro o ho a w yg29 M Hb hv hO hS0
      obtain rfl := Option.some.inj ho
      have H : Fr 77 ([(30, [], .slice g16.a 3 g16.c), (29, [], .slice (yg29 20 0).a 1 (yg29 20 0).c), (28, [], .agg ⟨[.int .u8 1, .string ⟨⟨[97, 117, 116, 111]⟩⟩, .int .i64 0, .int .u8 0, .int .u8 0, .int .u8 0, .int .u8 0]⟩)] ++ [(1, [], .pointer (some ⟨b5, 0, none⟩)), (2, [], .slice g10.a 2 g10.c), (3, [], .slice g16.a 3 g16.c), (4, [], .pointer (some ⟨b24, 0, none⟩))]) _ := (((Hb).add (hv 19 (by decide) (by decide) 28 rfl)).add (hv 20 (by decide) (by decide) 29 rfl)).add (hv 21 (by decide) (by decide) 30 rfl)
      obtain ⟨X, hX⟩ : ∃ X, X = fpl [Ent.own 9 tS ([[97, 117, 116, 111]] : List Str) (yg29 20 0), Ent.own 5 (tI .u8) ([2, 3, 4] : List Int) g16] := ⟨_, rfl⟩
      have hS : SH M X w [Ent.own 9 tS ([[97, 117, 116, 111]] : List Str) (yg29 20 0), Ent.own 5 (tI .u8) ([2, 3, 4] : List Int) g16] w := by rw [hX]; exact hS0
      refine Stp.mono (o_evs [] (.agg ⟨[.string ⟨⟨[119, 105, 100, 116, 104]⟩⟩, .bool false, .int .u8 1, .string ⟨⟨[97, 117, 116, 111]⟩⟩, .int .i64 0, .int .u8 0, .int .u8 0, .int .u8 0, .int .u8 0, .slice (yg29 20 0).a 1 (yg29 20 0).c, .slice g16.a 3 g16.c, .bool true]⟩) none [] H rfl (by kernel_rfl) (fun q e => by cases e)) ?_
      rintro v w2 ⟨rfl, hq⟩
      replace hS : SH M X w [Ent.own 9 tS ([[97, 117, 116, 111]] : List Str) (yg29 20 0), Ent.own 5 (tI .u8) ([2, 3, 4] : List Int) g16] _ := hS.below hq.below
      rw [hX] at hS
      exact ⟨gL [], fun _ _ => rfl, hS.sel [0, 1] rfl⟩
    · intro o ho a w yg29 M Hb hv hO hS0
      obtain rfl := Option.some.inj ho
      have H : Fr 77 ([] ++ [(1, [], .pointer (some ⟨b5, 0, none⟩)), (2, [], .slice g10.a 2 g10.c), (3, [], .slice g16.a 3 g16.c), (4, [], .pointer (some ⟨b24, 0, none⟩))]) _ := Hb
      obtain ⟨X, hX⟩ : ∃ X, X = fpl [Ent.blk b24 [.int .u8 1, .string ⟨⟨[97, 117, 116, 111]⟩⟩, .int .i64 0, .int .u8 0, .int .u8 0, .int .u8 0, .int .u8 0]] := ⟨_, rfl⟩
      have hS : SH M X w [Ent.blk b24 [.int .u8 1, .string ⟨⟨[97, 117, 116, 111]⟩⟩, .int .i64 0, .int .u8 0, .int .u8 0, .int .u8 0, .int .u8 0]] w := by rw [hX]; exact hS0
      refine Stp.mono (o_evs [(.agg ⟨[.int .u8 1, .string ⟨⟨[97, 117, 116, 111]⟩⟩, .int .i64 0, .int .u8 0, .int .u8 0, .int .u8 0, .int .u8 0]⟩)] (.agg ⟨[.int .u8 1, .string ⟨⟨[97, 117, 116, 111]⟩⟩, .int .i64 0, .int .u8 0, .int .u8 0, .int .u8 0, .int .u8 0]⟩) (some (fun wz => V.atN b24 0 [.int .u8 1, .string ⟨⟨[97, 117, 116, 111]⟩⟩, .int .i64 0, .int .u8 0, .int .u8 0, .int .u8 0, .int .u8 0] 0 wz)) [] H rfl (by kernel_rfl) (fun q e => by cases e; exact ((hS.bk 0 rfl).atD rfl))) ?_
      rintro v w2 ⟨rfl, hq⟩
      replace hS : SH M X w [Ent.blk b24 [.int .u8 1, .string ⟨⟨[97, 117, 116, 111]⟩⟩, .int .i64 0, .int .u8 0, .int .u8 0, .int .u8 0, .int .u8 0]] _ := hS.below hq.below
      rw [hX] at hS
      exact ⟨gL [], fun _ _ => rfl, hS.sel [0] rfl⟩
    · intro o ho a w yg29 M Hb hv hO hS0
      obtain rfl := Option.some.inj ho
      have H : Fr 77 ([] ++ [(1, [], .pointer (some ⟨b5, 0, none⟩)), (2, [], .slice g10.a 2 g10.c), (3, [], .slice g16.a 3 g16.c), (4, [], .pointer (some ⟨b24, 0, none⟩))]) _ := Hb
      obtain ⟨X, hX⟩ : ∃ X, X = fpl [] := ⟨_, rfl⟩
      have hS : SH M X w [] w := by rw [hX]; exact hS0
      have hd : S0 (AvL M []) [] _ := hS.hand [] [] rfl rfl
      refine Stp.mono (o_lit (T := tS) (E := 9) (zv := .string ⟨⟨[]⟩⟩) [.string ⟨⟨[97, 117, 116, 111]⟩⟩] ([[97, 117, 116, 111]] : List Str) [gL []] _ H hd rfl (by kernel_rfl) (by kernel_rfl) (by kernel_rfl) (by kernel_rfl) (by kernel_rfl) (by kernel_rfl) (by kernel_rfl) rfl (InnL.cons trivial InnL.nil)) ?_
      rintro v w2 hq
      obtain ⟨g38, rfl, hq⟩ := hq
      replace hS : SH M X w [Ent.own 9 tS ([[97, 117, 116, 111]] : List Str) g38] _ := hS.join [] [] rfl rfl hq
      clear hq
      rw [hX] at hS
      exact ⟨gL [g38], fun _ _ => rfl, hS.sel [0] rfl⟩
    · intro o ho a w yg29 M Hb hv hO hS0
      obtain rfl := Option.some.inj ho
      have H : Fr 77 ([] ++ [(1, [], .pointer (some ⟨b5, 0, none⟩)), (2, [], .slice g10.a 2 g10.c), (3, [], .slice g16.a 3 g16.c), (4, [], .pointer (some ⟨b24, 0, none⟩))]) _ := Hb
      obtain ⟨X, hX⟩ : ∃ X, X = fpl [Ent.own 5 (tI .u8) ([2, 3, 4] : List Int) g16] := ⟨_, rfl⟩
      have hS : SH M X w [Ent.own 5 (tI .u8) ([2, 3, 4] : List Int) g16] w := by rw [hX]; exact hS0
      refine Stp.mono (o_evs [] (.slice g16.a 3 g16.c) none [] H rfl (by kernel_rfl) (fun q e => by cases e)) ?_
      rintro v w2 ⟨rfl, hq⟩
      replace hS : SH M X w [Ent.own 5 (tI .u8) ([2, 3, 4] : List Int) g16] _ := hS.below hq.below
      rw [hX] at hS
      exact ⟨gL [], fun _ _ => rfl, hS.sel [0] rfl⟩
    · intro o ho a w yg29 M Hb hv hO hS0
      obtain rfl := Option.some.inj ho
      have H : Fr 77 ([(34, [], .slice g16.a 3 g16.c), (33, [], .slice (yg29 24 0).a 1 (yg29 24 0).c), (32, [], .agg ⟨[.int .u8 1, .string ⟨⟨[97, 117, 116, 111]⟩⟩, .int .i64 0, .int .u8 0, .int .u8 0, .int .u8 0, .int .u8 0]⟩)] ++ [(1, [], .pointer (some ⟨b5, 0, none⟩)), (2, [], .slice g10.a 2 g10.c), (3, [], .slice g16.a 3 g16.c), (4, [], .pointer (some ⟨b24, 0, none⟩))]) _ := (((Hb).add (hv 23 (by decide) (by decide) 32 rfl)).add (hv 24 (by decide) (by decide) 33 rfl)).add (hv 25 (by decide) (by decide) 34 rfl)
      obtain ⟨X, hX⟩ : ∃ X, X = fpl [Ent.own 9 tS ([[97, 117, 116, 111]] : List Str) (yg29 24 0), Ent.own 5 (tI .u8) ([2, 3, 4] : List Int) g16] := ⟨_, rfl⟩
      have hS : SH M X w [Ent.own 9 tS ([[97, 117, 116, 111]] : List Str) (yg29 24 0), Ent.own 5 (tI .u8) ([2, 3, 4] : List Int) g16] w := by rw [hX]; exact hS0
      refine Stp.mono (o_evs [] (.agg ⟨[.string ⟨⟨[104, 101, 105, 103, 104, 116]⟩⟩, .bool false, .int .u8 1, .string ⟨⟨[97, 117, 116, 111]⟩⟩, .int .i64 0, .int .u8 0, .int .u8 0, .int .u8 0, .int .u8 0, .slice (yg29 24 0).a 1 (yg29 24 0).c, .slice g16.a 3 g16.c, .bool true]⟩) none [] H rfl (by kernel_rfl) (fun q e => by cases e)) ?_
      rintro v w2 ⟨rfl, hq⟩
      replace hS : SH M X w [Ent.own 9 tS ([[97, 117, 116, 111]] : List Str) (yg29 24 0), Ent.own 5 (tI .u8) ([2, 3, 4] : List Int) g16] _ := hS.below hq.below
      rw [hX] at hS
      exact ⟨gL [], fun _ _ => rfl, hS.sel [0, 1] rfl⟩
    · intro o ho a w yg29 M Hb hv hO hS0
      obtain rfl := Option.some.inj ho
      have H : Fr 77 ([] ++ [(1, [], .pointer (some ⟨b5, 0, none⟩)), (2, [], .slice g10.a 2 g10.c), (3, [], .slice g16.a 3 g16.c), (4, [], .pointer (some ⟨b24, 0, none⟩))]) _ := Hb
      obtain ⟨X, hX⟩ : ∃ X, X = fpl [] := ⟨_, rfl⟩
      have hS : SH M X w [] w := by rw [hX]; exact hS0
      refine Stp.mono (o_evs [(.agg ⟨[.int .u8 y40.Kind, .string ⟨⟨y40.Word⟩⟩, .int .i64 y40.Num, .int .u8 y40.Color.Red, .int .u8 y40.Color.Green, .int .u8 y40.Color.Blue, .int .u8 y40.Color.Alpha]⟩)] (.agg ⟨[.int .u8 y40.Kind, .string ⟨⟨y40.Word⟩⟩, .int .i64 y40.Num, .int .u8 y40.Color.Red, .int .u8 y40.Color.Green, .int .u8 y40.Color.Blue, .int .u8 y40.Color.Alpha]⟩) (some (fun wz => RetB Tryd.prog 36 ⟨[.int .i64 0]⟩ (.agg ⟨[.int .u8 y40.Kind, .string ⟨⟨y40.Word⟩⟩, .int .i64 y40.Num, .int .u8 y40.Color.Red, .int .u8 y40.Color.Green, .int .u8 y40.Color.Blue, .int .u8 y40.Color.Alpha]⟩) wz)) [] H rfl (by subst hy40; kernel_rfl) (fun q e => by cases e; exact ((by rw [hy40]; exact (r25_px_ok _).b)))) ?_
      rintro v w2 ⟨rfl, hq⟩
      replace hS : SH M X w [] _ := hS.below hq.below
      rw [hX] at hS
      exact ⟨gL [], fun _ _ => rfl, hS.sel [] rfl⟩
    · intro o ho a w yg29 M Hb hv hO hS0
      obtain rfl := Option.some.inj ho
      have H : Fr 77 ([] ++ [(1, [], .pointer (some ⟨b5, 0, none⟩)), (2, [], .slice g10.a 2 g10.c), (3, [], .slice g16.a 3 g16.c), (4, [], .pointer (some ⟨b24, 0, none⟩))]) _ := Hb
      obtain ⟨X, hX⟩ : ∃ X, X = fpl [] := ⟨_, rfl⟩
      have hS : SH M X w [] w := by rw [hX]; exact hS0
      have hd : S0 (AvL M []) [] _ := hS.hand [] [] rfl rfl
      refine Stp.mono (o_lit (T := tS) (E := 9) (zv := .string ⟨⟨[]⟩⟩) [.string ⟨⟨[97, 117, 116, 111]⟩⟩] ([[97, 117, 116, 111]] : List Str) [gL []] _ H hd rfl (by kernel_rfl) (by kernel_rfl) (by kernel_rfl) (by kernel_rfl) (by kernel_rfl) (by kernel_rfl) (by kernel_rfl) rfl (InnL.cons trivial InnL.nil)) ?_
      rintro v w2 hq
      obtain ⟨g41, rfl, hq⟩ := hq
      replace hS : SH M X w [Ent.own 9 tS ([[97, 117, 116, 111]] : List Str) g41] _ := hS.join [] [] rfl rfl hq
      clear hq
      rw [hX] at hS
      exact ⟨gL [g41], fun _ _ => rfl, hS.sel [0] rfl⟩
    · intro o ho a w yg29 M Hb hv hO hS0
      obtain rfl := Option.some.inj ho
      have H : Fr 77 ([] ++ [(1, [], .pointer (some ⟨b5, 0, none⟩)), (2, [], .slice g10.a 2 g10.c), (3, [], .slice g16.a 3 g16.c), (4, [], .pointer (some ⟨b24, 0, none⟩))]) _ := Hb
      obtain ⟨X, hX⟩ : ∃ X, X = fpl [Ent.own 5 (tI .u8) ([2, 3, 4] : List Int) g16] := ⟨_, rfl⟩
      have hS : SH M X w [Ent.own 5 (tI .u8) ([2, 3, 4] : List Int) g16] w := by rw [hX]; exact hS0
      refine Stp.mono (o_evs [] (.slice g16.a 3 g16.c) none [] H rfl (by kernel_rfl) (fun q e => by cases e)) ?_
      rintro v w2 ⟨rfl, hq⟩
      replace hS : SH M X w [Ent.own 5 (tI .u8) ([2, 3, 4] : List Int) g16] _ := hS.below hq.below
      rw [hX] at hS
      exact ⟨gL [], fun _ _ => rfl, hS.sel [0] rfl⟩
    · intro o ho a w yg29 M Hb hv hO hS0
      obtain rfl := Option.some.inj ho
      have H : Fr 77 ([(38, [], .slice g16.a 3 g16.c), (37, [], .slice (yg29 28 0).a 1 (yg29 28 0).c), (36, [], .agg ⟨[.int .u8 y40.Kind, .string ⟨⟨y40.Word⟩⟩, .int .i64 y40.Num, .int .u8 y40.Color.Red, .int .u8 y40.Color.Green, .int .u8 y40.Color.Blue, .int .u8 y40.Color.Alpha]⟩)] ++ [(1, [], .pointer (some ⟨b5, 0, none⟩)), (2, [], .slice g10.a 2 g10.c), (3, [], .slice g16.a 3 g16.c), (4, [], .pointer (some ⟨b24, 0, none⟩))]) _ := (((Hb).add (hv 27 (by decide) (by decide) 36 rfl)).add (hv 28 (by decide) (by decide) 37 rfl)).add (hv 29 (by decide) (by decide) 38 rfl)
      obtain ⟨X, hX⟩ : ∃ X, X = fpl [Ent.own 9 tS ([[97, 117, 116, 111]] : List Str) (yg29 28 0), Ent.own 5 (tI .u8) ([2, 3, 4] : List Int) g16] := ⟨_, rfl⟩
      have hS : SH M X w [Ent.own 9 tS ([[97, 117, 116, 111]] : List Str) (yg29 28 0), Ent.own 5 (tI .u8) ([2, 3, 4] : List Int) g16] w := by rw [hX]; exact hS0
      refine Stp.mono (o_evs [] (.agg ⟨[.string ⟨⟨[109, 97, 114, 103, 105, 110, 45, 116, 111, 112]⟩⟩, .bool false, .int .u8 y40.Kind, .string ⟨⟨y40.Word⟩⟩, .int .i64 y40.Num, .int .u8 y40.Color.Red, .int .u8 y40.Color.Green, .int .u8 y40.Color.Blue, .int .u8 y40.Color.Alpha, .slice (yg29 28 0).a 1 (yg29 28 0).c, .slice g16.a 3 g16.c, .bool false]⟩) none [] H rfl (by kernel_rfl) (fun q e => by cases e)) ?_
      rintro v w2 ⟨rfl, hq⟩
      replace hS : SH M X w [Ent.own 9 tS ([[97, 117, 116, 111]] : List Str) (yg29 28 0), Ent.own 5 (tI .u8) ([2, 3, 4] : List Int) g16] _ := hS.below hq.below
      rw [hX] at hS
      exact ⟨gL [], fun _ _ => rfl, hS.sel [0, 1] rfl⟩
    · intro o ho a w yg29 M Hb hv hO hS0
      obtain rfl := Option.some.inj ho
      have H : Fr 77 ([] ++ [(1, [], .pointer (some ⟨b5, 0, none⟩)), (2, [], .slice g10.a 2 g10.c), (3, [], .slice g16.a 3 g16.c), (4, [], .pointer (some ⟨b24, 0, none⟩))]) _ := Hb
      obtain ⟨X, hX⟩ : ∃ X, X = fpl [] := ⟨_, rfl⟩
      have hS : SH M X w [] w := by rw [hX]; exact hS0
      refine Stp.mono (o_evs [(.agg ⟨[.int .u8 y43.Kind, .string ⟨⟨y43.Word⟩⟩, .int .i64 y43.Num, .int .u8 y43.Color.Red, .int .u8 y43.Color.Green, .int .u8 y43.Color.Blue, .int .u8 y43.Color.Alpha]⟩)] (.agg ⟨[.int .u8 y43.Kind, .string ⟨⟨y43.Word⟩⟩, .int .i64 y43.Num, .int .u8 y43.Color.Red, .int .u8 y43.Color.Green, .int .u8 y43.Color.Blue, .int .u8 y43.Color.Alpha]⟩) (some (fun wz => RetB Tryd.prog 36 ⟨[.int .i64 0]⟩ (.agg ⟨[.int .u8 y43.Kind, .string ⟨⟨y43.Word⟩⟩, .int .i64 y43.Num, .int .u8 y43.Color.Red, .int .u8 y43.Color.Green, .int .u8 y43.Color.Blue, .int .u8 y43.Color.Alpha]⟩) wz)) [] H rfl (by subst hy43; kernel_rfl) (fun q e => by cases e; exact ((by rw [hy43]; exact (r25_px_ok _).b)))) ?_
      rintro v w2 ⟨rfl, hq⟩
      replace hS : SH M X w [] _ := hS.below hq.below
      rw [hX] at hS
      exact ⟨gL [], fun _ _ => rfl, hS.sel [] rfl⟩
    · intro o ho a w yg29 M Hb hv hO hS0
      obtain rfl := Option.some.inj ho
      have H : Fr 77 ([] ++ [(1, [], .pointer (some ⟨b5, 0, none⟩)), (2, [], .slice g10.a 2 g10.c), (3, [], .slice g16.a 3 g16.c), (4, [], .pointer (some ⟨b24, 0, none⟩))]) _ := Hb
      obtain ⟨X, hX⟩ : ∃ X, X = fpl [] := ⟨_, rfl⟩
      have hS : SH M X w [] w := by rw [hX]; exact hS0
      have hd : S0 (AvL M []) [] _ := hS.hand [] [] rfl rfl
      refine Stp.mono (o_lit (T := tS) (E := 9) (zv := .string ⟨⟨[]⟩⟩) [.string ⟨⟨[97, 117, 116, 111]⟩⟩] ([[97, 117, 116, 111]] : List Str) [gL []] _ H hd rfl (by kernel_rfl) (by kernel_rfl) (by kernel_rfl) (by kernel_rfl) (by kernel_rfl) (by kernel_rfl) (by kernel_rfl) rfl (InnL.cons trivial InnL.nil)) ?_
      rintro v w2 hq
      obtain ⟨g44, rfl, hq⟩ := hq
      replace hS : SH M X w [Ent.own 9 tS ([[97, 117, 116, 111]] : List Str) g44] _ := hS.join [] [] rfl rfl hq
      clear hq
      rw [hX] at hS
      exact ⟨gL [g44], fun _ _ => rfl, hS.sel [0] rfl⟩
    · intro o ho a w yg29 M Hb hv hO hS0
      obtain rfl := Option.some.inj ho
      have H : Fr 77 ([] ++ [(1, [], .pointer (some ⟨b5, 0, none⟩)), (2, [], .slice g10.a 2 g10.c), (3, [], .slice g16.a 3 g16.c), (4, [], .pointer (some ⟨b24, 0, none⟩))]) _ := Hb
      obtain ⟨X, hX⟩ : ∃ X, X = fpl [Ent.own 5 (tI .u8) ([2, 3, 4] : List Int) g16] := ⟨_, rfl⟩
      have hS : SH M X w [Ent.own 5 (tI .u8) ([2, 3, 4] : List Int) g16] w := by rw [hX]; exact hS0
      refine Stp.mono (o_evs [] (.slice g16.a 3 g16.c) none [] H rfl (by kernel_rfl) (fun q e => by cases e)) ?_
      rintro v w2 ⟨rfl, hq⟩
      replace hS : SH M X w [Ent.own 5 (tI .u8) ([2, 3, 4] : List Int) g16] _ := hS.below hq.below
      rw [hX] at hS
      exact ⟨gL [], fun _ _ => rfl, hS.sel [0] rfl⟩
    · intro o ho a w yg29 M Hb hv hO hS0
      obtain rfl := Option.some.inj ho
      have H : Fr 77 ([(42, [], .slice g16.a 3 g16.c), (41, [], .slice (yg29 32 0).a 1 (yg29 32 0).c), (40, [], .agg ⟨[.int .u8 y43.Kind, .string ⟨⟨y43.Word⟩⟩, .int .i64 y43.Num, .int .u8 y43.Color.Red, .int .u8 y43.Color.Green, .int .u8 y43.Color.Blue, .int .u8 y43.Color.Alpha]⟩)] ++ [(1, [], .pointer (some ⟨b5, 0, none⟩)), (2, [], .slice g10.a 2 g10.c), (3, [], .slice g16.a 3 g16.c), (4, [], .pointer (some ⟨b24, 0, none⟩))]) _ := (((Hb).add (hv 31 (by decide) (by decide) 40 rfl)).add (hv 32 (by decide) (by decide) 41 rfl)).add (hv 33 (by decide) (by decide) 42 rfl)
      obtain ⟨X, hX⟩ : ∃ X, X = fpl [Ent.own 9 tS ([[97, 117, 116, 111]] : List Str) (yg29 32 0), Ent.own 5 (tI .u8) ([2, 3, 4] : List Int) g16] := ⟨_, rfl⟩
      have hS : SH M X w [Ent.own 9 tS ([[97, 117, 116, 111]] : List Str) (yg29 32 0), Ent.own 5 (tI .u8) ([2, 3, 4] : List Int) g16] w := by rw [hX]; exact hS0
      refine Stp.mono (o_evs [] (.agg ⟨[.string ⟨⟨[109, 97, 114, 103, 105, 110, 45, 114, 105, 103, 104, 116]⟩⟩, .bool false, .int .u8 y43.Kind, .string ⟨⟨y43.Word⟩⟩, .int .i64 y43.Num, .int .u8 y43.Color.Red, .int .u8 y43.Color.Green, .int .u8 y43.Color.Blue, .int .u8 y43.Color.Alpha, .slice (yg29 32 0).a 1 (yg29 32 0).c, .slice g16.a 3 g16.c, .bool false]⟩) none [] H rfl (by kernel_rfl) (fun q e => by cases e)) ?_
      rintro v w2 ⟨rfl, hq⟩
      replace hS : SH M X w [Ent.own 9 tS ([[97, 117, 116, 111]] : List Str) (yg29 32 0), Ent.own 5 (tI .u8) ([2, 3, 4] : List Int) g16] _ := hS.below hq.below
      rw [hX] at hS
      exact ⟨gL [], fun _ _ => rfl, hS.sel [0, 1] rfl⟩
    · intro o ho a w yg29 M Hb hv hO hS0
      obtain rfl := Option.some.inj ho
      have H : Fr 77 ([] ++ [(1, [], .pointer (some ⟨b5, 0, none⟩)), (2, [], .slice g10.a 2 g10.c), (3, [], .slice g16.a 3 g16.c), (4, [], .pointer (some ⟨b24, 0, none⟩))]) _ := Hb
      obtain ⟨X, hX⟩ : ∃ X, X = fpl [] := ⟨_, rfl⟩
      have hS : SH M X w [] w := by rw [hX]; exact hS0
      refine Stp.mono (o_evs [(.agg ⟨[.int .u8 y46.Kind, .string ⟨⟨y46.Word⟩⟩, .int .i64 y46.Num, .int .u8 y46.Color.Red, .int .u8 y46.Color.Green, .int .u8 y46.Color.Blue, .int .u8 y46.Color.Alpha]⟩)] (.agg ⟨[.int .u8 y46.Kind, .string ⟨⟨y46.Word⟩⟩, .int .i64 y46.Num, .int .u8 y46.Color.Red, .int .u8 y46.Color.Green, .int .u8 y46.Color.Blue, .int .u8 y46.Color.Alpha]⟩) (some (fun wz => RetB Tryd.prog 36 ⟨[.int .i64 0]⟩ (.agg ⟨[.int .u8 y46.Kind, .string ⟨⟨y46.Word⟩⟩, .int .i64 y46.Num, .int .u8 y46.Color.Red, .int .u8 y46.Color.Green, .int .u8 y46.Color.Blue, .int .u8 y46.Color.Alpha]⟩) wz)) [] H rfl (by subst hy46; kernel_rfl) (fun q e => by cases e; exact ((by rw [hy46]; exact (r25_px_ok _).b)))) ?_
      rintro v w2 ⟨rfl, hq⟩
      replace hS : SH M X w [] _ := hS.below hq.below
      rw [hX] at hS
      exact ⟨gL [], fun _ _ => rfl, hS.sel [] rfl⟩
    · intro o ho a w yg29 M Hb hv hO hS0
      obtain rfl := Option.some.inj ho
      have H : Fr 77 ([] ++ [(1, [], .pointer (some ⟨b5, 0, none⟩)), (2, [], .slice g10.a 2 g10.c), (3, [], .slice g16.a 3 g16.c), (4, [], .pointer (some ⟨b24, 0, none⟩))]) _ := Hb
      obtain ⟨X, hX⟩ : ∃ X, X = fpl [] := ⟨_, rfl⟩
      have hS : SH M X w [] w := by rw [hX]; exact hS0
      have hd : S0 (AvL M []) [] _ := hS.hand [] [] rfl rfl
      refine Stp.mono (o_lit (T := tS) (E := 9) (zv := .string ⟨⟨[]⟩⟩) [.string ⟨⟨[97, 117, 116, 111]⟩⟩] ([[97, 117, 116, 111]] : List Str) [gL []] _ H hd rfl (by kernel_rfl) (by kernel_rfl) (by kernel_rfl) (by kernel_rfl) (by kernel_rfl) (by kernel_rfl) (by kernel_rfl) rfl (InnL.cons trivial InnL.nil)) ?_
      rintro v w2 hq
      obtain ⟨g47, rfl, hq⟩ := hq
      replace hS : SH M X w [Ent.own 9 tS ([[97, 117, 116, 111]] : List Str) g47] _ := hS.join [] [] rfl rfl hq
      clear hq
      rw [hX] at hS
      exact ⟨gL [g47], fun _ _ => rfl, hS.sel [0] rfl⟩
    · intro o ho a w yg29 M Hb hv hO hS0
      obtain rfl := Option.some.inj ho
      have H : Fr 77 ([] ++ [(1, [], .pointer (some ⟨b5, 0, none⟩)), (2, [], .slice g10.a 2 g10.c), (3, [], .slice g16.a 3 g16.c), (4, [], .pointer (some ⟨b24, 0, none⟩))]) _ := Hb
      obtain ⟨X, hX⟩ : ∃ X, X = fpl [Ent.own 5 (tI .u8) ([2, 3, 4] : List Int) g16] := ⟨_, rfl⟩
      have hS : SH M X w [Ent.own 5 (tI .u8) ([2, 3, 4] : List Int) g16] w := by rw [hX]; exact hS0
      refine Stp.mono (o_evs [] (.slice g16.a 3 g16.c) none [] H rfl (by kernel_rfl) (fun q e => by cases e)) ?_
      rintro v w2 ⟨rfl, hq⟩
      replace hS : SH M X w [Ent.own 5 (tI .u8) ([2, 3, 4] : List Int) g16] _ := hS.below hq.below
      rw [hX] at hS
      exact ⟨gL [], fun _ _ => rfl, hS.sel [0] rfl⟩
    · intro o ho a w yg29 M Hb hv hO hS0
      obtain rfl := Option.some.inj ho
      have H : Fr 77 ([(46, [], .slice g16.a 3 g16.c), (45, [], .slice (yg29 36 0).a 1 (yg29 36 0).c), (44, [], .agg ⟨[.int .u8 y46.Kind, .string ⟨⟨y46.Word⟩⟩, .int .i64 y46.Num, .int .u8 y46.Color.Red, .int .u8 y46.Color.Green, .int .u8 y46.Color.Blue, .int .u8 y46.Color.Alpha]⟩)] ++ [(1, [], .pointer (some ⟨b5, 0, none⟩)), (2, [], .slice g10.a 2 g10.c), (3, [], .slice g16.a 3 g16.c), (4, [], .pointer (some ⟨b24, 0, none⟩))]) _ := (((Hb).add (hv 35 (by decide) (by decide) 44 rfl)).add (hv 36 (by decide) (by decide) 45 rfl)).add (hv 37 (by decide) (by decide) 46 rfl)
      obtain ⟨X, hX⟩ : ∃ X, X = fpl [Ent.own 9 tS ([[97, 117, 116, 111]] : List Str) (yg29 36 0), Ent.own 5 (tI .u8) ([2, 3, 4] : List Int) g16] := ⟨_, rfl⟩
      have hS : SH M X w [Ent.own 9 tS ([[97, 117, 116, 111]] : List Str) (yg29 36 0), Ent.own 5 (tI .u8) ([2, 3, 4] : List Int) g16] w := by rw [hX]; exact hS0
      refine Stp.mono (o_evs [] (.agg ⟨[.string ⟨⟨[109, 97, 114, 103, 105, 110, 45, 98, 111, 116, 116, 111, 109]⟩⟩, .bool false, .int .u8 y46.Kind, .string ⟨⟨y46.Word⟩⟩, .int .i64 y46.Num, .int .u8 y46.Color.Red, .int .u8 y46.Color.Green, .int .u8 y46.Color.Blue, .int .u8 y46.Color.Alpha, .slice (yg29 36 0).a 1 (yg29 36 0).c, .slice g16.a 3 g16.c, .bool false]⟩) none [] H rfl (by kernel_rfl) (fun q e => by cases e)) ?_
      rintro v w2 ⟨rfl, hq⟩
      replace hS : SH M X w [Ent.own 9 tS ([[97, 117, 116, 111]] : List Str) (yg29 36 0), Ent.own 5 (tI .u8) ([2, 3, 4] : List Int) g16] _ := hS.below hq.below
      rw [hX] at hS
      exact ⟨gL [], fun _ _ => rfl, hS.sel [0, 1] rfl⟩
    · intro o ho a w yg29 M Hb hv hO hS0
      obtain rfl := Option.some.inj ho
      have H : Fr 77 ([] ++ [(1, [], .pointer (some ⟨b5, 0, none⟩)), (2, [], .slice g10.a 2 g10.c), (3, [], .slice g16.a 3 g16.c), (4, [], .pointer (some ⟨b24, 0, none⟩))]) _ := Hb
      obtain ⟨X, hX⟩ : ∃ X, X = fpl [] := ⟨_, rfl⟩
      have hS : SH M X w [] w := by rw [hX]; exact hS0
      refine Stp.mono (o_evs [(.agg ⟨[.int .u8 y49.Kind, .string ⟨⟨y49.Word⟩⟩, .int .i64 y49.Num, .int .u8 y49.Color.Red, .int .u8 y49.Color.Green, .int .u8 y49.Color.Blue, .int .u8 y49.Color.Alpha]⟩)] (.agg ⟨[.int .u8 y49.Kind, .string ⟨⟨y49.Word⟩⟩, .int .i64 y49.Num, .int .u8 y49.Color.Red, .int .u8 y49.Color.Green, .int .u8 y49.Color.Blue, .int .u8 y49.Color.Alpha]⟩) (some (fun wz => RetB Tryd.prog 36 ⟨[.int .i64 0]⟩ (.agg ⟨[.int .u8 y49.Kind, .string ⟨⟨y49.Word⟩⟩, .int .i64 y49.Num, .int .u8 y49.Color.Red, .int .u8 y49.Color.Green, .int .u8 y49.Color.Blue, .int .u8 y49.Color.Alpha]⟩) wz)) [] H rfl (by subst hy49; kernel_rfl) (fun q e => by cases e; exact ((by rw [hy49]; exact (r25_px_ok _).b)))) ?_
      rintro v w2 ⟨rfl, hq⟩
      replace hS : SH M X w [] _ := hS.below hq.below
      rw [hX] at hS
      exact ⟨gL [], fun _ _ => rfl, hS.sel [] rfl⟩
    · intro o ho a w yg29 M Hb hv hO hS0
      obtain rfl := Option.some.inj ho
      have H : Fr 77 ([] ++ [(1, [], .pointer (some ⟨b5, 0, none⟩)), (2, [], .slice g10.a 2 g10.c), (3, [], .slice g16.a 3 g16.c), (4, [], .pointer (some ⟨b24, 0, none⟩))]) _ := Hb
      obtain ⟨X, hX⟩ : ∃ X, X = fpl [] := ⟨_, rfl⟩
      have hS : SH M X w [] w := by rw [hX]; exact hS0
      have hd : S0 (AvL M []) [] _ := hS.hand [] [] rfl rfl
      refine Stp.mono (o_lit (T := tS) (E := 9) (zv := .string ⟨⟨[]⟩⟩) [.string ⟨⟨[97, 117, 116, 111]⟩⟩] ([[97, 117, 116, 111]] : List Str) [gL []] _ H hd rfl (by kernel_rfl) (by kernel_rfl) (by kernel_rfl) (by kernel_rfl) (by kernel_rfl) (by kernel_rfl) (by kernel_rfl) rfl (InnL.cons trivial InnL.nil)) ?_
      rintro v w2 hq
      obtain ⟨g50, rfl, hq⟩ := hq
      replace hS : SH M X w [Ent.own 9 tS ([[97, 117, 116, 111]] : List Str) g50] _ := hS.join [] [] rfl rfl hq
      clear hq
      rw [hX] at hS
      exact ⟨gL [g50], fun _ _ => rfl, hS.sel [0] rfl⟩
    · intro o ho a w yg29 M Hb hv hO hS0
      obtain rfl := Option.some.inj ho
      have H : Fr 77 ([] ++ [(1, [], .pointer (some ⟨b5, 0, none⟩)), (2, [], .slice g10.a 2 g10.c), (3, [], .slice g16.a 3 g16.c), (4, [], .pointer (some ⟨b24, 0, none⟩))]) _ := Hb
      obtain ⟨X, hX⟩ : ∃ X, X = fpl [Ent.own 5 (tI .u8) ([2, 3, 4] : List Int) g16] := ⟨_, rfl⟩
      have hS : SH M X w [Ent.own 5 (tI .u8) ([2, 3, 4] : List Int) g16] w := by rw [hX]; exact hS0
      refine Stp.mono (o_evs [] (.slice g16.a 3 g16.c) none [] H rfl (by kernel_rfl) (fun q e => by cases e)) ?_
      rintro v w2 ⟨rfl, hq⟩
      replace hS : SH M X w [Ent.own 5 (tI .u8) ([2, 3, 4] : List Int) g16] _ := hS.below hq.below
      rw [hX] at hS
      exact ⟨gL [], fun _ _ => rfl, hS.sel [0] rfl⟩
    · intro o ho a w yg29 M Hb hv hO hS0
      obtain rfl := Option.some.inj ho
      have H : Fr 77 ([(50, [], .slice g16.a 3 g16.c), (49, [], .slice (yg29 40 0).a 1 (yg29 40 0).c), (48, [], .agg ⟨[.int .u8 y49.Kind, .string ⟨⟨y49.Word⟩⟩, .int .i64 y49.Num, .int .u8 y49.Color.Red, .int .u8 y49.Color.Green, .int .u8 y49.Color.Blue, .int .u8 y49.Color.Alpha]⟩)] ++ [(1, [], .pointer (some ⟨b5, 0, none⟩)), (2, [], .slice g10.a 2 g10.c), (3, [], .slice g16.a 3 g16.c), (4, [], .pointer (some ⟨b24, 0, none⟩))]) _ := (((Hb).add (hv 39 (by decide) (by decide) 48 rfl)).add (hv 40 (by decide) (by decide) 49 rfl)).add (hv 41 (by decide) (by decide) 50 rfl)
      obtain ⟨X, hX⟩ : ∃ X, X = fpl [Ent.own 9 tS ([[97, 117, 116, 111]] : List Str) (yg29 40 0), Ent.own 5 (tI .u8) ([2, 3, 4] : List Int) g16] := ⟨_, rfl⟩
      have hS : SH M X w [Ent.own 9 tS ([[97, 117, 116, 111]] : List Str) (yg29 40 0), Ent.own 5 (tI .u8) ([2, 3, 4] : List Int) g16] w := by rw [hX]; exact hS0
      refine Stp.mono (o_evs [] (.agg ⟨[.string ⟨⟨[109, 97, 114, 103, 105, 110, 45, 108, 101, 102, 116]⟩⟩, .bool false, .int .u8 y49.Kind, .string ⟨⟨y49.Word⟩⟩, .int .i64 y49.Num, .int .u8 y49.Color.Red, .int .u8 y49.Color.Green, .int .u8 y49.Color.Blue, .int .u8 y49.Color.Alpha, .slice (yg29 40 0).a 1 (yg29 40 0).c, .slice g16.a 3 g16.c, .bool false]⟩) none [] H rfl (by kernel_rfl) (fun q e => by cases e)) ?_
      rintro v w2 ⟨rfl, hq⟩
      replace hS : SH M X w [Ent.own 9 tS ([[97, 117, 116, 111]] : List Str) (yg29 40 0), Ent.own 5 (tI .u8) ([2, 3, 4] : List Int) g16] _ := hS.below hq.below
      rw [hX] at hS
      exact ⟨gL [], fun _ _ => rfl, hS.sel [0, 1] rfl⟩
    · intro o ho a w yg29 M Hb hv hO hS0
      obtain rfl := Option.some.inj ho
      have H : Fr 77 ([] ++ [(1, [], .pointer (some ⟨b5, 0, none⟩)), (2, [], .slice g10.a 2 g10.c), (3, [], .slice g16.a 3 g16.c), (4, [], .pointer (some ⟨b24, 0, none⟩))]) _ := Hb
      obtain ⟨X, hX⟩ : ∃ X, X = fpl [] := ⟨_, rfl⟩
      have hS : SH M X w [] w := by rw [hX]; exact hS0
      refine Stp.mono (o_evs [(.agg ⟨[.int .u8 y52.Kind, .string ⟨⟨y52.Word⟩⟩, .int .i64 y52.Num, .int .u8 y52.Color.Red, .int .u8 y52.Color.Green, .int .u8 y52.Color.Blue, .int .u8 y52.Color.Alpha]⟩)] (.agg ⟨[.int .u8 y52.Kind, .string ⟨⟨y52.Word⟩⟩, .int .i64 y52.Num, .int .u8 y52.Color.Red, .int .u8 y52.Color.Green, .int .u8 y52.Color.Blue, .int .u8 y52.Color.Alpha]⟩) (some (fun wz => RetB Tryd.prog 36 ⟨[.int .i64 16000]⟩ (.agg ⟨[.int .u8 y52.Kind, .string ⟨⟨y52.Word⟩⟩, .int .i64 y52.Num, .int .u8 y52.Color.Red, .int .u8 y52.Color.Green, .int .u8 y52.Color.Blue, .int .u8 y52.Color.Alpha]⟩) wz)) [] H rfl (by subst hy52; kernel_rfl) (fun q e => by cases e; exact ((by rw [hy52]; exact (r25_px_ok _).b)))) ?_
      rintro v w2 ⟨rfl, hq⟩
      replace hS : SH M X w [] _ := hS.below hq.below
      rw [hX] at hS
      exact ⟨gL [], fun _ _ => rfl, hS.sel [] rfl⟩
    · intro o ho a w yg29 M Hb hv hO hS0
      obtain rfl := Option.some.inj ho
      have H : Fr 77 ([] ++ [(1, [], .pointer (some ⟨b5, 0, none⟩)), (2, [], .slice g10.a 2 g10.c), (3, [], .slice g16.a 3 g16.c), (4, [], .pointer (some ⟨b24, 0, none⟩))]) _ := Hb
      obtain ⟨X, hX⟩ : ∃ X, X = fpl [Ent.own 5 (tI .u8) ([2, 3, 4] : List Int) g16] := ⟨_, rfl⟩
      have hS : SH M X w [Ent.own 5 (tI .u8) ([2, 3, 4] : List Int) g16] w := by rw [hX]; exact hS0
      refine Stp.mono (o_evs [] (.slice g16.a 3 g16.c) none [] H rfl (by kernel_rfl) (fun q e => by cases e)) ?_
      rintro v w2 ⟨rfl, hq⟩
      replace hS : SH M X w [Ent.own 5 (tI .u8) ([2, 3, 4] : List Int) g16] _ := hS.below hq.below
      rw [hX] at hS
      exact ⟨gL [], fun _ _ => rfl, hS.sel [0] rfl⟩
    · intro o ho a w yg29 M Hb hv hO hS0
      obtain rfl := Option.some.inj ho
      have H : Fr 77 ([(53, [], .slice g16.a 3 g16.c), (52, [], .agg ⟨[.int .u8 y52.Kind, .string ⟨⟨y52.Word⟩⟩, .int .i64 y52.Num, .int .u8 y52.Color.Red, .int .u8 y52.Color.Green, .int .u8 y52.Color.Blue, .int .u8 y52.Color.Alpha]⟩)] ++ [(1, [], .pointer (some ⟨b5, 0, none⟩)), (2, [], .slice g10.a 2 g10.c), (3, [], .slice g16.a 3 g16.c), (4, [], .pointer (some ⟨b24, 0, none⟩))]) _ := ((Hb).add (hv 43 (by decide) (by decide) 52 rfl)).add (hv 44 (by decide) (by decide) 53 rfl)
      obtain ⟨X, hX⟩ : ∃ X, X = fpl [Ent.own 5 (tI .u8) ([2, 3, 4] : List Int) g16] := ⟨_, rfl⟩
      have hS : SH M X w [Ent.own 5 (tI .u8) ([2, 3, 4] : List Int) g16] w := by rw [hX]; exact hS0
      refine Stp.mono (o_evs [] (.agg ⟨[.string ⟨⟨[102, 111, 110, 116, 45, 115, 105, 122, 101]⟩⟩, .bool true, .int .u8 y52.Kind, .string ⟨⟨y52.Word⟩⟩, .int .i64 y52.Num, .int .u8 y52.Color.Red, .int .u8 y52.Color.Green, .int .u8 y52.Color.Blue, .int .u8 y52.Color.Alpha, .slice none 0 0, .slice g16.a 3 g16.c, .bool true]⟩) none [] H rfl (by kernel_rfl) (fun q e => by cases e)) ?_
      rintro v w2 ⟨rfl, hq⟩
      replace hS : SH M X w [Ent.own 5 (tI .u8) ([2, 3, 4] : List Int) g16] _ := hS.below hq.below
      rw [hX] at hS
      exact ⟨gL [], fun _ _ => rfl, hS.sel [0] rfl⟩
    · intro o ho a w yg29 M Hb hv hO hS0
      obtain rfl := Option.some.inj ho
      have H : Fr 77 ([] ++ [(1, [], .pointer (some ⟨b5, 0, none⟩)), (2, [], .slice g10.a 2 g10.c), (3, [], .slice g16.a 3 g16.c), (4, [], .pointer (some ⟨b24, 0, none⟩))]) _ := Hb
      obtain ⟨X, hX⟩ : ∃ X, X = fpl [] := ⟨_, rfl⟩
      have hS : SH M X w [] w := by rw [hX]; exact hS0
      refine Stp.mono (o_evs [(.agg ⟨[.int .u8 y53.Kind, .string ⟨⟨y53.Word⟩⟩, .int .i64 y53.Num, .int .u8 y53.Color.Red, .int .u8 y53.Color.Green, .int .u8 y53.Color.Blue, .int .u8 y53.Color.Alpha]⟩)] (.agg ⟨[.int .u8 y53.Kind, .string ⟨⟨y53.Word⟩⟩, .int .i64 y53.Num, .int .u8 y53.Color.Red, .int .u8 y53.Color.Green, .int .u8 y53.Color.Blue, .int .u8 y53.Color.Alpha]⟩) (some (fun wz => RetB Tryd.prog 35 ⟨[.string ⟨⟨[110, 111, 114, 109, 97, 108]⟩⟩]⟩ (.agg ⟨[.int .u8 y53.Kind, .string ⟨⟨y53.Word⟩⟩, .int .i64 y53.Num, .int .u8 y53.Color.Red, .int .u8 y53.Color.Green, .int .u8 y53.Color.Blue, .int .u8 y53.Color.Alpha]⟩) wz)) [] H rfl (by subst hy53; kernel_rfl) (fun q e => by cases e; exact ((by rw [hy53]; exact (r25_word_ok _).b)))) ?_
      rintro v w2 ⟨rfl, hq⟩
      replace hS : SH M X w [] _ := hS.below hq.below
      rw [hX] at hS
      exact ⟨gL [], fun _ _ => rfl, hS.sel [] rfl⟩
    · intro o ho a w yg29 M Hb hv hO hS0
      obtain rfl := Option.some.inj ho
      have H : Fr 77 ([] ++ [(1, [], .pointer (some ⟨b5, 0, none⟩)), (2, [], .slice g10.a 2 g10.c), (3, [], .slice g16.a 3 g16.c), (4, [], .pointer (some ⟨b24, 0, none⟩))]) _ := Hb
      obtain ⟨X, hX⟩ : ∃ X, X = fpl [] := ⟨_, rfl⟩
      have hS : SH M X w [] w := by rw [hX]; exact hS0
      have hd : S0 (AvL M []) [] _ := hS.hand [] [] rfl rfl
      refine Stp.mono (o_lit (T := tS) (E := 9) (zv := .string ⟨⟨[]⟩⟩) [.string ⟨⟨[110, 111, 114, 109, 97, 108]⟩⟩] ([[110, 111, 114, 109, 97, 108]] : List Str) [gL []] _ H hd rfl (by kernel_rfl) (by kernel_rfl) (by kernel_rfl) (by kernel_rfl) (by kernel_rfl) (by kernel_rfl) (by kernel_rfl) rfl (InnL.cons trivial InnL.nil)) ?_
      rintro v w2 hq
      obtain ⟨g54, rfl, hq⟩ := hq
      replace hS : SH M X w [Ent.own 9 tS ([[110, 111, 114, 109, 97, 108]] : List Str) g54] _ := hS.join [] [] rfl rfl hq
      clear hq
      rw [hX] at hS
      exact ⟨gL [g54], fun _ _ => rfl, hS.sel [0] rfl⟩
    · intro o ho a w yg29 M Hb hv hO hS0
      obtain rfl := Option.some.inj ho
      have H : Fr 77 ([] ++ [(1, [], .pointer (some ⟨b5, 0, none⟩)), (2, [], .slice g10.a 2 g10.c), (3, [], .slice g16.a 3 g16.c), (4, [], .pointer (some ⟨b24, 0, none⟩))]) _ := Hb
      obtain ⟨X, hX⟩ : ∃ X, X = fpl [] := ⟨_, rfl⟩
      have hS : SH M X w [] w := by rw [hX]; exact hS0
      have hd : S0 (AvL M []) [] _ := hS.hand [] [] rfl rfl
      refine Stp.mono (o_lit0 (T := (tI .u8)) (E := 5) hd (by kernel_rfl) (by kernel_rfl)) ?_
      rintro v w2 hq
      obtain ⟨g56, rfl, hq⟩ := hq
      replace hS : SH M X w [Ent.own 5 (tI .u8) ([] : List Int) g56] _ := hS.join [] [] rfl rfl hq
      clear hq
      rw [hX] at hS
      exact ⟨gL [g56], fun _ _ => rfl, hS.sel [0] rfl⟩
    · intro o ho a w yg29 M Hb hv hO hS0
      obtain rfl := Option.some.inj ho
      have H : Fr 77 ([] ++ [(1, [], .pointer (some ⟨b5, 0, none⟩)), (2, [], .slice g10.a 2 g10.c), (3, [], .slice g16.a 3 g16.c), (4, [], .pointer (some ⟨b24, 0, none⟩))]) _ := Hb
      obtain ⟨X, hX⟩ : ∃ X, X = fpl [Ent.own 5 (tI .u8) ([2, 3, 4] : List Int) g16] := ⟨_, rfl⟩
      have hS : SH M X w [Ent.own 5 (tI .u8) ([2, 3, 4] : List Int) g16] w := by rw [hX]; exact hS0
      refine Stp.mono (o_evs [] (.slice g16.a 3 g16.c) none [] H rfl (by kernel_rfl) (fun q e => by cases e)) ?_
      rintro v w2 ⟨rfl, hq⟩
      replace hS : SH M X w [Ent.own 5 (tI .u8) ([2, 3, 4] : List Int) g16] _ := hS.below hq.below
      rw [hX] at hS
      exact ⟨gL [], fun _ _ => rfl, hS.sel [0] rfl⟩
    · intro o ho a w yg29 M Hb hv hO hS0
      obtain rfl := Option.some.inj ho
      have H : Fr 77 ([(58, [], .slice g16.a 3 g16.c), (57, [], .slice (yg29 48 0).a 0 (yg29 48 0).c)] ++ [(1, [], .pointer (some ⟨b5, 0, none⟩)), (2, [], .slice g10.a 2 g10.c), (3, [], .slice g16.a 3 g16.c), (4, [], .pointer (some ⟨b24, 0, none⟩))]) _ := ((Hb).add (hv 48 (by decide) (by decide) 57 rfl)).add (hv 49 (by decide) (by decide) 58 rfl)
      obtain ⟨X, hX⟩ : ∃ X, X = fpl [Ent.own 5 (tI .u8) ([] : List Int) (yg29 48 0), Ent.own 5 (tI .u8) ([2, 3, 4] : List Int) g16] := ⟨_, rfl⟩
      have hS : SH M X w [Ent.own 5 (tI .u8) ([] : List Int) (yg29 48 0), Ent.own 5 (tI .u8) ([2, 3, 4] : List Int) g16] w := by rw [hX]; exact hS0
      have hd : S0 (AvL M []) [Ent.own 5 (tI .u8) ([] : List Int) (yg29 48 0), Ent.own 5 (tI .u8) ([2, 3, 4] : List Int) g16] _ := hS.hand [0, 1] [] rfl rfl
      refine Stp.mono (o_app2 (T := (tI .u8)) (zv := .int .u8 0) (g1 := (yg29 48 0)) (g2 := g16) (l1 := ([] : List Int)) (l2 := ([2, 3, 4] : List Int)) q59 hq59.symm H hd rfl rfl rfl rfl rfl rfl rfl (by kernel_rfl) (by kernel_rfl) rfl rfl ho58) ?_
      rintro v w2 hq
      obtain ⟨g60, rfl, hq⟩ := hq
      replace hS : SH M X w [Ent.own 5 (tI .u8) q59 g60, Ent.own 5 (tI .u8) ([2, 3, 4] : List Int) g16] _ := hS.join [0, 1] [] rfl rfl hq
      clear hq
      rw [hX] at hS
      exact ⟨gL [g60], fun _ _ => rfl, hS.sel [0, 1] rfl⟩
    · intro o ho a w yg29 M Hb hv hO hS0
      obtain rfl := Option.some.inj ho
      have H : Fr 77 ([] ++ [(1, [], .pointer (some ⟨b5, 0, none⟩)), (2, [], .slice g10.a 2 g10.c), (3, [], .slice g16.a 3 g16.c), (4, [], .pointer (some ⟨b24, 0, none⟩))]) _ := Hb
      obtain ⟨X, hX⟩ : ∃ X, X = fpl [] := ⟨_, rfl⟩
      have hS : SH M X w [] w := by rw [hX]; exact hS0
      have hd : S0 (AvL M []) [] _ := hS.hand [] [] rfl rfl
      refine Stp.mono (o_lit (T := (tI .u8)) (E := 5) (zv := .int .u8 0) [.int .u8 5] ([5] : List Int) [gL []] _ H hd rfl (by kernel_rfl) (by kernel_rfl) (by kernel_rfl) (by kernel_rfl) (by kernel_rfl) (by kernel_rfl) (by kernel_rfl) rfl (InnL.cons trivial InnL.nil)) ?_
      rintro v w2 hq
      obtain ⟨g61, rfl, hq⟩ := hq
      replace hS : SH M X w [Ent.own 5 (tI .u8) ([5] : List Int) g61] _ := hS.join [] [] rfl rfl hq
      clear hq
      rw [hX] at hS
      exact ⟨gL [g61], fun _ _ => rfl, hS.sel [0] rfl⟩
    · intro o ho a w yg29 M Hb hv hO hS0
      obtain rfl := Option.some.inj ho
      have H : Fr 77 ([(60, [], .slice (yg29 51 0).a 1 (yg29 51 0).c), (59, [], .slice (yg29 50 0).a q59.length (yg29 50 0).c)] ++ [(1, [], .pointer (some ⟨b5, 0, none⟩)), (2, [], .slice g10.a 2 g10.c), (3, [], .slice g16.a 3 g16.c), (4, [], .pointer (some ⟨b24, 0, none⟩))]) _ := ((Hb).add (hv 50 (by decide) (by decide) 59 rfl)).add (hv 51 (by decide) (by decide) 60 rfl)
      obtain ⟨X, hX⟩ : ∃ X, X = fpl [Ent.own 5 (tI .u8) q59 (yg29 50 0), Ent.own 5 (tI .u8) ([5] : List Int) (yg29 51 0)] := ⟨_, rfl⟩
      have hS : SH M X w [Ent.own 5 (tI .u8) q59 (yg29 50 0), Ent.own 5 (tI .u8) ([5] : List Int) (yg29 51 0)] w := by rw [hX]; exact hS0
      have hd : S0 (AvL M []) [Ent.own 5 (tI .u8) q59 (yg29 50 0), Ent.own 5 (tI .u8) ([5] : List Int) (yg29 51 0)] _ := hS.hand [0, 1] [] rfl rfl
      refine Stp.mono (o_app2 (T := (tI .u8)) (zv := .int .u8 0) (g1 := (yg29 50 0)) (g2 := (yg29 51 0)) (l1 := q59) (l2 := ([5] : List Int)) q64 hq64.symm H hd rfl rfl rfl rfl rfl rfl rfl (by kernel_rfl) (by kernel_rfl) rfl rfl ho63) ?_
      rintro v w2 hq
      obtain ⟨g65, rfl, hq⟩ := hq
      replace hS : SH M X w [Ent.own 5 (tI .u8) q64 g65, Ent.own 5 (tI .u8) ([5] : List Int) (yg29 51 0)] _ := hS.join [0, 1] [] rfl rfl hq
      clear hq
      rw [hX] at hS
      exact ⟨gL [g65], fun _ _ => rfl, hS.sel [0, 1] rfl⟩
    · intro o ho a w yg29 M Hb hv hO hS0
      obtain rfl := Option.some.inj ho
      have H : Fr 77 ([(61, [], .slice (yg29 52 0).a q64.length (yg29 52 0).c), (56, [], .slice (yg29 47 0).a 1 (yg29 47 0).c), (55, [], .agg ⟨[.int .u8 y53.Kind, .string ⟨⟨y53.Word⟩⟩, .int .i64 y53.Num, .int .u8 y53.Color.Red, .int .u8 y53.Color.Green, .int .u8 y53.Color.Blue, .int .u8 y53.Color.Alpha]⟩)] ++ [(1, [], .pointer (some ⟨b5, 0, none⟩)), (2, [], .slice g10.a 2 g10.c), (3, [], .slice g16.a 3 g16.c), (4, [], .pointer (some ⟨b24, 0, none⟩))]) _ := (((Hb).add (hv 46 (by decide) (by decide) 55 rfl)).add (hv 47 (by decide) (by decide) 56 rfl)).add (hv 52 (by decide) (by decide) 61 rfl)
      obtain ⟨X, hX⟩ : ∃ X, X = fpl [Ent.own 9 tS ([[110, 111, 114, 109, 97, 108]] : List Str) (yg29 47 0), Ent.own 5 (tI .u8) q64 (yg29 52 0)] := ⟨_, rfl⟩
      have hS : SH M X w [Ent.own 9 tS ([[110, 111, 114, 109, 97, 108]] : List Str) (yg29 47 0), Ent.own 5 (tI .u8) q64 (yg29 52 0)] w := by rw [hX]; exact hS0
      refine Stp.mono (o_evs [] (.agg ⟨[.string ⟨⟨[108, 105, 110, 101, 45, 104, 101, 105, 103, 104, 116]⟩⟩, .bool true, .int .u8 y53.Kind, .string ⟨⟨y53.Word⟩⟩, .int .i64 y53.Num, .int .u8 y53.Color.Red, .int .u8 y53.Color.Green, .int .u8 y53.Color.Blue, .int .u8 y53.Color.Alpha, .slice (yg29 47 0).a 1 (yg29 47 0).c, .slice (yg29 52 0).a q64.length (yg29 52 0).c, .bool true]⟩) none [] H rfl (by kernel_rfl) (fun q e => by cases e)) ?_
      rintro v w2 ⟨rfl, hq⟩
      replace hS : SH M X w [Ent.own 9 tS ([[110, 111, 114, 109, 97, 108]] : List Str) (yg29 47 0), Ent.own 5 (tI .u8) q64 (yg29 52 0)] _ := hS.below hq.below
      rw [hX] at hS
      exact ⟨gL [], fun _ _ => rfl, hS.sel [0, 1] rfl⟩
    · intro o ho a w yg29 M Hb hv hO hS0
      obtain rfl := Option.some.inj ho
      have H : Fr 77 ([] ++ [(1, [], .pointer (some ⟨b5, 0, none⟩)), (2, [], .slice g10.a 2 g10.c), (3, [], .slice g16.a 3 g16.c), (4, [], .pointer (some ⟨b24, 0, none⟩))]) _ := Hb
      obtain ⟨X, hX⟩ : ∃ X, X = fpl [] := ⟨_, rfl⟩
      have hS : SH M X w [] w := by rw [hX]; exact hS0
      refine Stp.mono (o_evs [(.agg ⟨[.int .u8 y66.Kind, .string ⟨⟨y66.Word⟩⟩, .int .i64 y66.Num, .int .u8 y66.Color.Red, .int .u8 y66.Color.Green, .int .u8 y66.Color.Blue, .int .u8 y66.Color.Alpha]⟩)] (.agg ⟨[.int .u8 y66.Kind, .string ⟨⟨y66.Word⟩⟩, .int .i64 y66.Num, .int .u8 y66.Color.Red, .int .u8 y66.Color.Green, .int .u8 y66.Color.Blue, .int .u8 y66.Color.Alpha]⟩) (some (fun wz => RetB Tryd.prog 35 ⟨[.string ⟨⟨[108, 101, 102, 116]⟩⟩]⟩ (.agg ⟨[.int .u8 y66.Kind, .string ⟨⟨y66.Word⟩⟩, .int .i64 y66.Num, .int .u8 y66.Color.Red, .int .u8 y66.Color.Green, .int .u8 y66.Color.Blue, .int .u8 y66.Color.Alpha]⟩) wz)) [] H rfl (by subst hy66; kernel_rfl) (fun q e => by cases e; exact ((by rw [hy66]; exact (r25_word_ok _).b)))) ?_
      rintro v w2 ⟨rfl, hq⟩
      replace hS : SH M X w [] _ := hS.below hq.below
      rw [hX] at hS
      exact ⟨gL [], fun _ _ => rfl, hS.sel [] rfl⟩
    · intro o ho a w yg29 M Hb hv hO hS0
      obtain rfl := Option.some.inj ho
      have H : Fr 77 ([] ++ [(1, [], .pointer (some ⟨b5, 0, none⟩)), (2, [], .slice g10.a 2 g10.c), (3, [], .slice g16.a 3 g16.c), (4, [], .pointer (some ⟨b24, 0, none⟩))]) _ := Hb
      obtain ⟨X, hX⟩ : ∃ X, X = fpl [] := ⟨_, rfl⟩
      have hS : SH M X w [] w := by rw [hX]; exact hS0
      have hd : S0 (AvL M []) [] _ := hS.hand [] [] rfl rfl
      refine Stp.mono (o_lit (T := tS) (E := 9) (zv := .string ⟨⟨[]⟩⟩) [.string ⟨⟨[99, 101, 110, 116, 101, 114]⟩⟩, .string ⟨⟨[106, 117, 115, 116, 105, 102, 121]⟩⟩, .string ⟨⟨[108, 101, 102, 116]⟩⟩, .string ⟨⟨[114, 105, 103, 104, 116]⟩⟩] ([[99, 101, 110, 116, 101, 114], [106, 117, 115, 116, 105, 102, 121], [108, 101, 102, 116], [114, 105, 103, 104, 116]] : List Str) [gL [], gL [], gL [], gL []] _ H hd rfl (by kernel_rfl) (by kernel_rfl) (by kernel_rfl) (by kernel_rfl) (by kernel_rfl) (by kernel_rfl) (by kernel_rfl) rfl (InnL.cons trivial (InnL.cons trivial (InnL.cons trivial (InnL.cons trivial InnL.nil))))) ?_
      rintro v w2 hq
      obtain ⟨g67, rfl, hq⟩ := hq
      replace hS : SH M X w [Ent.own 9 tS ([[99, 101, 110, 116, 101, 114], [106, 117, 115, 116, 105, 102, 121], [108, 101, 102, 116], [114, 105, 103, 104, 116]] : List Str) g67] _ := hS.join [] [] rfl rfl hq
      clear hq
      rw [hX] at hS
      exact ⟨gL [g67], fun _ _ => rfl, hS.sel [0] rfl⟩
    · intro o ho a w yg29 M Hb hv hO hS0
      obtain rfl := Option.some.inj ho
      have H : Fr 77 ([(64, [], .slice (yg29 55 0).a 4 (yg29 55 0).c), (63, [], .agg ⟨[.int .u8 y66.Kind, .string ⟨⟨y66.Word⟩⟩, .int .i64 y66.Num, .int .u8 y66.Color.Red, .int .u8 y66.Color.Green, .int .u8 y66.Color.Blue, .int .u8 y66.Color.Alpha]⟩)] ++ [(1, [], .pointer (some ⟨b5, 0, none⟩)), (2, [], .slice g10.a 2 g10.c), (3, [], .slice g16.a 3 g16.c), (4, [], .pointer (some ⟨b24, 0, none⟩))]) _ := ((Hb).add (hv 54 (by decide) (by decide) 63 rfl)).add (hv 55 (by decide) (by decide) 64 rfl)
      obtain ⟨X, hX⟩ : ∃ X, X = fpl [Ent.own 9 tS ([[99, 101, 110, 116, 101, 114], [106, 117, 115, 116, 105, 102, 121], [108, 101, 102, 116], [114, 105, 103, 104, 116]] : List Str) (yg29 55 0)] := ⟨_, rfl⟩
      have hS : SH M X w [Ent.own 9 tS ([[99, 101, 110, 116, 101, 114], [106, 117, 115, 116, 105, 102, 121], [108, 101, 102, 116], [114, 105, 103, 104, 116]] : List Str) (yg29 55 0)] w := by rw [hX]; exact hS0
      refine Stp.mono (o_evs [] (.agg ⟨[.string ⟨⟨[116, 101, 120, 116, 45, 97, 108, 105, 103, 110]⟩⟩, .bool true, .int .u8 y66.Kind, .string ⟨⟨y66.Word⟩⟩, .int .i64 y66.Num, .int .u8 y66.Color.Red, .int .u8 y66.Color.Green, .int .u8 y66.Color.Blue, .int .u8 y66.Color.Alpha, .slice (yg29 55 0).a 4 (yg29 55 0).c, .slice none 0 0, .bool false]⟩) none [] H rfl (by kernel_rfl) (fun q e => by cases e)) ?_
      rintro v w2 ⟨rfl, hq⟩
      replace hS : SH M X w [Ent.own 9 tS ([[99, 101, 110, 116, 101, 114], [106, 117, 115, 116, 105, 102, 121], [108, 101, 102, 116], [114, 105, 103, 104, 116]] : List Str) (yg29 55 0)] _ := hS.below hq.below
      rw [hX] at hS
      exact ⟨gL [], fun _ _ => rfl, hS.sel [0] rfl⟩
    · intro o ho a w yg29 M Hb hv hO hS0
      obtain rfl := Option.some.inj ho
      have H : Fr 77 ([] ++ [(1, [], .pointer (some ⟨b5, 0, none⟩)), (2, [], .slice g10.a 2 g10.c), (3, [], .slice g16.a 3 g16.c), (4, [], .pointer (some ⟨b24, 0, none⟩))]) _ := Hb
      obtain ⟨X, hX⟩ : ∃ X, X = fpl [] := ⟨_, rfl⟩
      have hS : SH M X w [] w := by rw [hX]; exact hS0
      refine Stp.mono (o_evs [] (.agg ⟨[.int .u8 5, .string ⟨⟨[]⟩⟩, .int .i64 1000, .int .u8 0, .int .u8 0, .int .u8 0, .int .u8 0]⟩) none [] H rfl (by kernel_rfl) (fun q e => by cases e)) ?_
      rintro v w2 ⟨rfl, hq⟩
      replace hS : SH M X w [] _ := hS.below hq.below
      rw [hX] at hS
      exact ⟨gL [], fun _ _ => rfl, hS.sel [] rfl⟩
    · intro o ho a w yg29 M Hb hv hO hS0
      obtain rfl := Option.some.inj ho
      have H : Fr 77 ([] ++ [(1, [], .pointer (some ⟨b5, 0, none⟩)), (2, [], .slice g10.a 2 g10.c), (3, [], .slice g16.a 3 g16.c), (4, [], .pointer (some ⟨b24, 0, none⟩))]) _ := Hb
      obtain ⟨X, hX⟩ : ∃ X, X = fpl [] := ⟨_, rfl⟩
      have hS : SH M X w [] w := by rw [hX]; exact hS0
      have hd : S0 (AvL M []) [] _ := hS.hand [] [] rfl rfl
      refine Stp.mono (o_lit (T := (tI .u8)) (E := 5) (zv := .int .u8 0) [.int .u8 5] ([5] : List Int) [gL []] _ H hd rfl (by kernel_rfl) (by kernel_rfl) (by kernel_rfl) (by kernel_rfl) (by kernel_rfl) (by kernel_rfl) (by kernel_rfl) rfl (InnL.cons trivial InnL.nil)) ?_
      rintro v w2 hq
      obtain ⟨g69, rfl, hq⟩ := hq
      replace hS : SH M X w [Ent.own 5 (tI .u8) ([5] : List Int) g69] _ := hS.join [] [] rfl rfl hq
      clear hq
      rw [hX] at hS
      exact ⟨gL [g69], fun _ _ => rfl, hS.sel [0] rfl⟩
    · intro o ho a w yg29 M Hb hv hO hS0
      obtain rfl := Option.some.inj ho
      have H : Fr 77 ([(67, [], .slice (yg29 58 0).a 1 (yg29 58 0).c), (66, [], .agg ⟨[.int .u8 5, .string ⟨⟨[]⟩⟩, .int .i64 1000, .int .u8 0, .int .u8 0, .int .u8 0, .int .u8 0]⟩)] ++ [(1, [], .pointer (some ⟨b5, 0, none⟩)), (2, [], .slice g10.a 2 g10.c), (3, [], .slice g16.a 3 g16.c), (4, [], .pointer (some ⟨b24, 0, none⟩))]) _ := ((Hb).add (hv 57 (by decide) (by decide) 66 rfl)).add (hv 58 (by decide) (by decide) 67 rfl)
      obtain ⟨X, hX⟩ : ∃ X, X = fpl [Ent.own 5 (tI .u8) ([5] : List Int) (yg29 58 0)] := ⟨_, rfl⟩
      have hS : SH M X w [Ent.own 5 (tI .u8) ([5] : List Int) (yg29 58 0)] w := by rw [hX]; exact hS0
      refine Stp.mono (o_evs [] (.agg ⟨[.string ⟨⟨[111, 112, 97, 99, 105, 116, 121]⟩⟩, .bool false, .int .u8 5, .string ⟨⟨[]⟩⟩, .int .i64 1000, .int .u8 0, .int .u8 0, .int .u8 0, .int .u8 0, .slice none 0 0, .slice (yg29 58 0).a 1 (yg29 58 0).c, .bool false]⟩) none [] H rfl (by kernel_rfl) (fun q e => by cases e)) ?_
      rintro v w2 ⟨rfl, hq⟩
      replace hS : SH M X w [Ent.own 5 (tI .u8) ([5] : List Int) (yg29 58 0)] _ := hS.below hq.below
      rw [hX] at hS
      exact ⟨gL [], fun _ _ => rfl, hS.sel [0] rfl⟩
    · intro o ho a w yg29 M Hb hv hO hS0
      obtain rfl := Option.some.inj ho
      have H : Fr 77 ([] ++ [(1, [], .pointer (some ⟨b5, 0, none⟩)), (2, [], .slice g10.a 2 g10.c), (3, [], .slice g16.a 3 g16.c), (4, [], .pointer (some ⟨b24, 0, none⟩))]) _ := Hb
      obtain ⟨X, hX⟩ : ∃ X, X = fpl [Ent.blk b24 [.int .u8 1, .string ⟨⟨[97, 117, 116, 111]⟩⟩, .int .i64 0, .int .u8 0, .int .u8 0, .int .u8 0, .int .u8 0]] := ⟨_, rfl⟩
      have hS : SH M X w [Ent.blk b24 [.int .u8 1, .string ⟨⟨[97, 117, 116, 111]⟩⟩, .int .i64 0, .int .u8 0, .int .u8 0, .int .u8 0, .int .u8 0]] w := by rw [hX]; exact hS0
      refine Stp.mono (o_evs [(.agg ⟨[.int .u8 1, .string ⟨⟨[97, 117, 116, 111]⟩⟩, .int .i64 0, .int .u8 0, .int .u8 0, .int .u8 0, .int .u8 0]⟩)] (.agg ⟨[.int .u8 1, .string ⟨⟨[97, 117, 116, 111]⟩⟩, .int .i64 0, .int .u8 0, .int .u8 0, .int .u8 0, .int .u8 0]⟩) (some (fun wz => V.atN b24 0 [.int .u8 1, .string ⟨⟨[97, 117, 116, 111]⟩⟩, .int .i64 0, .int .u8 0, .int .u8 0, .int .u8 0, .int .u8 0] 0 wz)) [] H rfl (by kernel_rfl) (fun q e => by cases e; exact ((hS.bk 0 rfl).atD rfl))) ?_
      rintro v w2 ⟨rfl, hq⟩
      replace hS : SH M X w [Ent.blk b24 [.int .u8 1, .string ⟨⟨[97, 117, 116, 111]⟩⟩, .int .i64 0, .int .u8 0, .int .u8 0, .int .u8 0, .int .u8 0]] _ := hS.below hq.below
      rw [hX] at hS
      exact ⟨gL [], fun _ _ => rfl, hS.sel [0] rfl⟩
    · intro o ho a w yg29 M Hb hv hO hS0
      obtain rfl := Option.some.inj ho
      have H : Fr 77 ([] ++ [(1, [], .pointer (some ⟨b5, 0, none⟩)), (2, [], .slice g10.a 2 g10.c), (3, [], .slice g16.a 3 g16.c), (4, [], .pointer (some ⟨b24, 0, none⟩))]) _ := Hb
      obtain ⟨X, hX⟩ : ∃ X, X = fpl [] := ⟨_, rfl⟩
      have hS : SH M X w [] w := by rw [hX]; exact hS0
      have hd : S0 (AvL M []) [] _ := hS.hand [] [] rfl rfl
      refine Stp.mono (o_lit (T := tS) (E := 9) (zv := .string ⟨⟨[]⟩⟩) [.string ⟨⟨[97, 117, 116, 111]⟩⟩] ([[97, 117, 116, 111]] : List Str) [gL []] _ H hd rfl (by kernel_rfl) (by kernel_rfl) (by kernel_rfl) (by kernel_rfl) (by kernel_rfl) (by kernel_rfl) (by kernel_rfl) rfl (InnL.cons trivial InnL.nil)) ?_
      rintro v w2 hq
      obtain ⟨g71, rfl, hq⟩ := hq
      replace hS : SH M X w [Ent.own 9 tS ([[97, 117, 116, 111]] : List Str) g71] _ := hS.join [] [] rfl rfl hq
      clear hq
      rw [hX] at hS
      exact ⟨gL [g71], fun _ _ => rfl, hS.sel [0] rfl⟩
    · intro o ho a w yg29 M Hb hv hO hS0
      obtain rfl := Option.some.inj ho
      have H : Fr 77 ([] ++ [(1, [], .pointer (some ⟨b5, 0, none⟩)), (2, [], .slice g10.a 2 g10.c), (3, [], .slice g16.a 3 g16.c), (4, [], .pointer (some ⟨b24, 0, none⟩))]) _ := Hb
      obtain ⟨X, hX⟩ : ∃ X, X = fpl [] := ⟨_, rfl⟩
      have hS : SH M X w [] w := by rw [hX]; exact hS0
      have hd : S0 (AvL M []) [] _ := hS.hand [] [] rfl rfl
      refine Stp.mono (o_lit (T := (tI .u8)) (E := 5) (zv := .int .u8 0) [.int .u8 6] ([6] : List Int) [gL []] _ H hd rfl (by kernel_rfl) (by kernel_rfl) (by kernel_rfl) (by kernel_rfl) (by kernel_rfl) (by kernel_rfl) (by kernel_rfl) rfl (InnL.cons trivial InnL.nil)) ?_
      rintro v w2 hq
      obtain ⟨g73, rfl, hq⟩ := hq
      replace hS : SH M X w [Ent.own 5 (tI .u8) ([6] : List Int) g73] _ := hS.join [] [] rfl rfl hq
      clear hq
      rw [hX] at hS
      exact ⟨gL [g73], fun _ _ => rfl, hS.sel [0] rfl⟩
    · intro o ho a w yg29 M Hb hv hO hS0
      obtain rfl := Option.some.inj ho
      have H : Fr 77 ([(71, [], .slice (yg29 62 0).a 1 (yg29 62 0).c), (70, [], .slice (yg29 61 0).a 1 (yg29 61 0).c), (69, [], .agg ⟨[.int .u8 1, .string ⟨⟨[97, 117, 116, 111]⟩⟩, .int .i64 0, .int .u8 0, .int .u8 0, .int .u8 0, .int .u8 0]⟩)] ++ [(1, [], .pointer (some ⟨b5, 0, none⟩)), (2, [], .slice g10.a 2 g10.c), (3, [], .slice g16.a 3 g16.c), (4, [], .pointer (some ⟨b24, 0, none⟩))]) _ := (((Hb).add (hv 60 (by decide) (by decide) 69 rfl)).add (hv 61 (by decide) (by decide) 70 rfl)).add (hv 62 (by decide) (by decide) 71 rfl)
      obtain ⟨X, hX⟩ : ∃ X, X = fpl [Ent.own 9 tS ([[97, 117, 116, 111]] : List Str) (yg29 61 0), Ent.own 5 (tI .u8) ([6] : List Int) (yg29 62 0)] := ⟨_, rfl⟩
      have hS : SH M X w [Ent.own 9 tS ([[97, 117, 116, 111]] : List Str) (yg29 61 0), Ent.own 5 (tI .u8) ([6] : List Int) (yg29 62 0)] w := by rw [hX]; exact hS0
      refine Stp.mono (o_evs [] (.agg ⟨[.string ⟨⟨[122, 45, 105, 110, 100, 101, 120]⟩⟩, .bool false, .int .u8 1, .string ⟨⟨[97, 117, 116, 111]⟩⟩, .int .i64 0, .int .u8 0, .int .u8 0, .int .u8 0, .int .u8 0, .slice (yg29 61 0).a 1 (yg29 61 0).c, .slice (yg29 62 0).a 1 (yg29 62 0).c, .bool false]⟩) none [] H rfl (by kernel_rfl) (fun q e => by cases e)) ?_
      rintro v w2 ⟨rfl, hq⟩
      replace hS : SH M X w [Ent.own 9 tS ([[97, 117, 116, 111]] : List Str) (yg29 61 0), Ent.own 5 (tI .u8) ([6] : List Int) (yg29 62 0)] _ := hS.below hq.below
      rw [hX] at hS
      exact ⟨gL [], fun _ _ => rfl, hS.sel [0, 1] rfl⟩
    · intro o ho a w yg29 M Hb hv hO hS0
      obtain rfl := Option.some.inj ho
      have H : Fr 77 ([] ++ [(1, [], .pointer (some ⟨b5, 0, none⟩)), (2, [], .slice g10.a 2 g10.c), (3, [], .slice g16.a 3 g16.c), (4, [], .pointer (some ⟨b24, 0, none⟩))]) _ := Hb
      obtain ⟨X, hX⟩ : ∃ X, X = fpl [] := ⟨_, rfl⟩
      have hS : SH M X w [] w := by rw [hX]; exact hS0
      refine Stp.mono (o_evs [] (.agg ⟨[.int .u8 6, .string ⟨⟨[]⟩⟩, .int .i64 0, .int .u8 0, .int .u8 0, .int .u8 0, .int .u8 0]⟩) none [] H rfl (by kernel_rfl) (fun q e => by cases e)) ?_
      rintro v w2 ⟨rfl, hq⟩
      replace hS : SH M X w [] _ := hS.below hq.below
      rw [hX] at hS
      exact ⟨gL [], fun _ _ => rfl, hS.sel [] rfl⟩
    · intro o ho a w yg29 M Hb hv hO hS0
      obtain rfl := Option.some.inj ho
      have H : Fr 77 ([] ++ [(1, [], .pointer (some ⟨b5, 0, none⟩)), (2, [], .slice g10.a 2 g10.c), (3, [], .slice g16.a 3 g16.c), (4, [], .pointer (some ⟨b24, 0, none⟩))]) _ := Hb
      obtain ⟨X, hX⟩ : ∃ X, X = fpl [] := ⟨_, rfl⟩
      have hS : SH M X w [] w := by rw [hX]; exact hS0
      have hd : S0 (AvL M []) [] _ := hS.hand [] [] rfl rfl
      refine Stp.mono (o_lit (T := (tI .u8)) (E := 5) (zv := .int .u8 0) [.int .u8 6] ([6] : List Int) [gL []] _ H hd rfl (by kernel_rfl) (by kernel_rfl) (by kernel_rfl) (by kernel_rfl) (by kernel_rfl) (by kernel_rfl) (by kernel_rfl) rfl (InnL.cons trivial InnL.nil)) ?_
      rintro v w2 hq
      obtain ⟨g75, rfl, hq⟩ := hq
      replace hS : SH M X w [Ent.own 5 (tI .u8) ([6] : List Int) g75] _ := hS.join [] [] rfl rfl hq
      clear hq
      rw [hX] at hS
      exact ⟨gL [g75], fun _ _ => rfl, hS.sel [0] rfl⟩
    · intro o ho a w yg29 M Hb hv hO hS0
      obtain rfl := Option.some.inj ho
      have H : Fr 77 ([(74, [], .slice (yg29 65 0).a 1 (yg29 65 0).c), (73, [], .agg ⟨[.int .u8 6, .string ⟨⟨[]⟩⟩, .int .i64 0, .int .u8 0, .int .u8 0, .int .u8 0, .int .u8 0]⟩)] ++ [(1, [], .pointer (some ⟨b5, 0, none⟩)), (2, [], .slice g10.a 2 g10.c), (3, [], .slice g16.a 3 g16.c), (4, [], .pointer (some ⟨b24, 0, none⟩))]) _ := ((Hb).add (hv 64 (by decide) (by decide) 73 rfl)).add (hv 65 (by decide) (by decide) 74 rfl)
      obtain ⟨X, hX⟩ : ∃ X, X = fpl [Ent.own 5 (tI .u8) ([6] : List Int) (yg29 65 0)] := ⟨_, rfl⟩
      have hS : SH M X w [Ent.own 5 (tI .u8) ([6] : List Int) (yg29 65 0)] w := by rw [hX]; exact hS0
      refine Stp.mono (o_evs [] (.agg ⟨[.string ⟨⟨[111, 114, 100, 101, 114]⟩⟩, .bool false, .int .u8 6, .string ⟨⟨[]⟩⟩, .int .i64 0, .int .u8 0, .int .u8 0, .int .u8 0, .int .u8 0, .slice none 0 0, .slice (yg29 65 0).a 1 (yg29 65 0).c, .bool false]⟩) none [] H rfl (by kernel_rfl) (fun q e => by cases e)) ?_
      rintro v w2 ⟨rfl, hq⟩
      replace hS : SH M X w [Ent.own 5 (tI .u8) ([6] : List Int) (yg29 65 0)] _ := hS.below hq.below
      rw [hX] at hS
      exact ⟨gL [], fun _ _ => rfl, hS.sel [0] rfl⟩
    · intro o ho a w yg29 M Hb hv hO hS0
      obtain rfl := Option.some.inj ho
      have H : Fr 77 ([(75, [], .agg ⟨[.string ⟨⟨[111, 114, 100, 101, 114]⟩⟩, .bool false, .int .u8 6, .string ⟨⟨[]⟩⟩, .int .i64 0, .int .u8 0, .int .u8 0, .int .u8 0, .int .u8 0, .slice none 0 0, .slice (yg29 65 0).a 1 (yg29 65 0).c, .bool false]⟩), (72, [], .agg ⟨[.string ⟨⟨[122, 45, 105, 110, 100, 101, 120]⟩⟩, .bool false, .int .u8 1, .string ⟨⟨[97, 117, 116, 111]⟩⟩, .int .i64 0, .int .u8 0, .int .u8 0, .int .u8 0, .int .u8 0, .slice (yg29 61 0).a 1 (yg29 61 0).c, .slice (yg29 62 0).a 1 (yg29 62 0).c, .bool false]⟩), (68, [], .agg ⟨[.string ⟨⟨[111, 112, 97, 99, 105, 116, 121]⟩⟩, .bool false, .int .u8 5, .string ⟨⟨[]⟩⟩, .int .i64 1000, .int .u8 0, .int .u8 0, .int .u8 0, .int .u8 0, .slice none 0 0, .slice (yg29 58 0).a 1 (yg29 58 0).c, .bool false]⟩), (65, [], .agg ⟨[.string ⟨⟨[116, 101, 120, 116, 45, 97, 108, 105, 103, 110]⟩⟩, .bool true, .int .u8 y66.Kind, .string ⟨⟨y66.Word⟩⟩, .int .i64 y66.Num, .int .u8 y66.Color.Red, .int .u8 y66.Color.Green, .int .u8 y66.Color.Blue, .int .u8 y66.Color.Alpha, .slice (yg29 55 0).a 4 (yg29 55 0).c, .slice none 0 0, .bool false]⟩), (62, [], .agg ⟨[.string ⟨⟨[108, 105, 110, 101, 45, 104, 101, 105, 103, 104, 116]⟩⟩, .bool true, .int .u8 y53.Kind, .string ⟨⟨y53.Word⟩⟩, .int .i64 y53.Num, .int .u8 y53.Color.Red, .int .u8 y53.Color.Green, .int .u8 y53.Color.Blue, .int .u8 y53.Color.Alpha, .slice (yg29 47 0).a 1 (yg29 47 0).c, .slice (yg29 52 0).a q64.length (yg29 52 0).c, .bool true]⟩), (54, [], .agg ⟨[.string ⟨⟨[102, 111, 110, 116, 45, 115, 105, 122, 101]⟩⟩, .bool true, .int .u8 y52.Kind, .string ⟨⟨y52.Word⟩⟩, .int .i64 y52.Num, .int .u8 y52.Color.Red, .int .u8 y52.Color.Green, .int .u8 y52.Color.Blue, .int .u8 y52.Color.Alpha, .slice none 0 0, .slice g16.a 3 g16.c, .bool true]⟩), (51, [], .agg ⟨[.string ⟨⟨[109, 97, 114, 103, 105, 110, 45, 108, 101, 102, 116]⟩⟩, .bool false, .int .u8 y49.Kind, .string ⟨⟨y49.Word⟩⟩, .int .i64 y49.Num, .int .u8 y49.Color.Red, .int .u8 y49.Color.Green, .int .u8 y49.Color.Blue, .int .u8 y49.Color.Alpha, .slice (yg29 40 0).a 1 (yg29 40 0).c, .slice g16.a 3 g16.c, .bool false]⟩), (47, [], .agg ⟨[.string ⟨⟨[109, 97, 114, 103, 105, 110, 45, 98, 111, 116, 116, 111, 109]⟩⟩, .bool false, .int .u8 y46.Kind, .string ⟨⟨y46.Word⟩⟩, .int .i64 y46.Num, .int .u8 y46.Color.Red, .int .u8 y46.Color.Green, .int .u8 y46.Color.Blue, .int .u8 y46.Color.Alpha, .slice (yg29 36 0).a 1 (yg29 36 0).c, .slice g16.a 3 g16.c, .bool false]⟩), (43, [], .agg ⟨[.string ⟨⟨[109, 97, 114, 103, 105, 110, 45, 114, 105, 103, 104, 116]⟩⟩, .bool false, .int .u8 y43.Kind, .string ⟨⟨y43.Word⟩⟩, .int .i64 y43.Num, .int .u8 y43.Color.Red, .int .u8 y43.Color.Green, .int .u8 y43.Color.Blue, .int .u8 y43.Color.Alpha, .slice (yg29 32 0).a 1 (yg29 32 0).c, .slice g16.a 3 g16.c, .bool false]⟩), (39, [], .agg ⟨[.string ⟨⟨[109, 97, 114, 103, 105, 110, 45, 116, 111, 112]⟩⟩, .bool false, .int .u8 y40.Kind, .string ⟨⟨y40.Word⟩⟩, .int .i64 y40.Num, .int .u8 y40.Color.Red, .int .u8 y40.Color.Green, .int .u8 y40.Color.Blue, .int .u8 y40.Color.Alpha, .slice (yg29 28 0).a 1 (yg29 28 0).c, .slice g16.a 3 g16.c, .bool false]⟩), (35, [], .agg ⟨[.string ⟨⟨[104, 101, 105, 103, 104, 116]⟩⟩, .bool false, .int .u8 1, .string ⟨⟨[97, 117, 116, 111]⟩⟩, .int .i64 0, .int .u8 0, .int .u8 0, .int .u8 0, .int .u8 0, .slice (yg29 24 0).a 1 (yg29 24 0).c, .slice g16.a 3 g16.c, .bool true]⟩), (31, [], .agg ⟨[.string ⟨⟨[119, 105, 100, 116, 104]⟩⟩, .bool false, .int .u8 1, .string ⟨⟨[97, 117, 116, 111]⟩⟩, .int .i64 0, .int .u8 0, .int .u8 0, .int .u8 0, .int .u8 0, .slice (yg29 20 0).a 1 (yg29 20 0).c, .slice g16.a 3 g16.c, .bool true]⟩), (27, [], .agg ⟨[.string ⟨⟨[118, 105, 115, 105, 98, 105, 108, 105, 116, 121]⟩⟩, .bool true, .int .u8 y33.Kind, .string ⟨⟨y33.Word⟩⟩, .int .i64 y33.Num, .int .u8 y33.Color.Red, .int .u8 y33.Color.Green, .int .u8 y33.Color.Blue, .int .u8 y33.Color.Alpha, .slice (yg29 17 0).a 3 (yg29 17 0).c, .slice none 0 0, .bool false]⟩), (24, [], .agg ⟨[.string ⟨⟨[100, 105, 115, 112, 108, 97, 121]⟩⟩, .bool false, .int .u8 y30.Kind, .string ⟨⟨y30.Word⟩⟩, .int .i64 y30.Num, .int .u8 y30.Color.Red, .int .u8 y30.Color.Green, .int .u8 y30.Color.Blue, .int .u8 y30.Color.Alpha, .slice (yg29 14 0).a 5 (yg29 14 0).c, .slice none 0 0, .bool false]⟩), (21, [], .agg ⟨[.string ⟨⟨[111, 117, 116, 108, 105, 110, 101, 45, 99, 111, 108, 111, 114]⟩⟩, .bool false, .int .u8 8, .string ⟨⟨[]⟩⟩, .int .i64 0, .int .u8 0, .int .u8 0, .int .u8 0, .int .u8 0, .slice none 0 0, .slice g10.a 2 g10.c, .bool false]⟩), (18, [], .agg ⟨[.string ⟨⟨[98, 111, 114, 100, 101, 114, 45, 99, 111, 108, 111, 114]⟩⟩, .bool false, .int .u8 8, .string ⟨⟨[]⟩⟩, .int .i64 0, .int .u8 0, .int .u8 0, .int .u8 0, .int .u8 0, .slice none 0 0, .slice g10.a 2 g10.c, .bool false]⟩), (15, [], .agg ⟨[.string ⟨⟨[98, 97, 99, 107, 103, 114, 111, 117, 110, 100, 45, 99, 111, 108, 111, 114]⟩⟩, .bool false, .int .u8 7, .string ⟨⟨[]⟩⟩, .int .i64 0, .int .u8 0, .int .u8 0, .int .u8 0, .int .u8 0, .slice none 0 0, .slice g10.a 2 g10.c, .bool false]⟩), (12, [], .agg ⟨[.string ⟨⟨[99, 111, 108, 111, 114]⟩⟩, .bool true, .int .u8 7, .string ⟨⟨[]⟩⟩, .int .i64 0, .int .u8 0, .int .u8 0, .int .u8 0, .int .u8 255, .slice none 0 0, .slice g10.a 2 g10.c, .bool false]⟩)] ++ [(1, [], .pointer (some ⟨b5, 0, none⟩)), (2, [], .slice g10.a 2 g10.c), (3, [], .slice g16.a 3 g16.c), (4, [], .pointer (some ⟨b24, 0, none⟩))]) _ := ((((((((((((((((((Hb).add (hv 3 (by decide) (by decide) 12 rfl)).add (hv 6 (by decide) (by decide) 15 rfl)).add (hv 9 (by decide) (by decide) 18 rfl)).add (hv 12 (by decide) (by decide) 21 rfl)).add (hv 15 (by decide) (by decide) 24 rfl)).add (hv 18 (by decide) (by decide) 27 rfl)).add (hv 22 (by decide) (by decide) 31 rfl)).add (hv 26 (by decide) (by decide) 35 rfl)).add (hv 30 (by decide) (by decide) 39 rfl)).add (hv 34 (by decide) (by decide) 43 rfl)).add (hv 38 (by decide) (by decide) 47 rfl)).add (hv 42 (by decide) (by decide) 51 rfl)).add (hv 45 (by decide) (by decide) 54 rfl)).add (hv 53 (by decide) (by decide) 62 rfl)).add (hv 56 (by decide) (by decide) 65 rfl)).add (hv 59 (by decide) (by decide) 68 rfl)).add (hv 63 (by decide) (by decide) 72 rfl)).add (hv 66 (by decide) (by decide) 75 rfl)
      obtain ⟨X, hX⟩ : ∃ X, X = fpl [Ent.own 9 tS ([[98, 108, 111, 99, 107], [102, 108, 101, 120], [105, 110, 108, 105, 110, 101], [105, 110, 108, 105, 110, 101, 45, 98, 108, 111, 99, 107], [110, 111, 110, 101]] : List Str) (yg29 14 0), Ent.own 9 tS ([[99, 111, 108, 108, 97, 112, 115, 101], [104, 105, 100, 100, 101, 110], [118, 105, 115, 105, 98, 108, 101]] : List Str) (yg29 17 0), Ent.own 9 tS ([[97, 117, 116, 111]] : List Str) (yg29 20 0), Ent.own 9 tS ([[97, 117, 116, 111]] : List Str) (yg29 24 0), Ent.own 9 tS ([[97, 117, 116, 111]] : List Str) (yg29 28 0), Ent.own 9 tS ([[97, 117, 116, 111]] : List Str) (yg29 32 0), Ent.own 9 tS ([[97, 117, 116, 111]] : List Str) (yg29 36 0), Ent.own 9 tS ([[97, 117, 116, 111]] : List Str) (yg29 40 0), Ent.own 9 tS ([[110, 111, 114, 109, 97, 108]] : List Str) (yg29 47 0), Ent.own 5 (tI .u8) q64 (yg29 52 0), Ent.own 9 tS ([[99, 101, 110, 116, 101, 114], [106, 117, 115, 116, 105, 102, 121], [108, 101, 102, 116], [114, 105, 103, 104, 116]] : List Str) (yg29 55 0), Ent.own 5 (tI .u8) ([5] : List Int) (yg29 58 0), Ent.own 9 tS ([[97, 117, 116, 111]] : List Str) (yg29 61 0), Ent.own 5 (tI .u8) ([6] : List Int) (yg29 62 0), Ent.own 5 (tI .u8) ([6] : List Int) (yg29 65 0), Ent.own 5 (tI .u8) ([2, 3, 4] : List Int) g16, Ent.own 5 (tI .u8) ([7, 8] : List Int) g10] := ⟨_, rfl⟩
      have hS : SH M X w [Ent.own 9 tS ([[98, 108, 111, 99, 107], [102, 108, 101, 120], [105, 110, 108, 105, 110, 101], [105, 110, 108, 105, 110, 101, 45, 98, 108, 111, 99, 107], [110, 111, 110, 101]] : List Str) (yg29 14 0), Ent.own 9 tS ([[99, 111, 108, 108, 97, 112, 115, 101], [104, 105, 100, 100, 101, 110], [118, 105, 115, 105, 98, 108, 101]] : List Str) (yg29 17 0), Ent.own 9 tS ([[97, 117, 116, 111]] : List Str) (yg29 20 0), Ent.own 9 tS ([[97, 117, 116, 111]] : List Str) (yg29 24 0), Ent.own 9 tS ([[97, 117, 116, 111]] : List Str) (yg29 28 0), Ent.own 9 tS ([[97, 117, 116, 111]] : List Str) (yg29 32 0), Ent.own 9 tS ([[97, 117, 116, 111]] : List Str) (yg29 36 0), Ent.own 9 tS ([[97, 117, 116, 111]] : List Str) (yg29 40 0), Ent.own 9 tS ([[110, 111, 114, 109, 97, 108]] : List Str) (yg29 47 0), Ent.own 5 (tI .u8) q64 (yg29 52 0), Ent.own 9 tS ([[99, 101, 110, 116, 101, 114], [106, 117, 115, 116, 105, 102, 121], [108, 101, 102, 116], [114, 105, 103, 104, 116]] : List Str) (yg29 55 0), Ent.own 5 (tI .u8) ([5] : List Int) (yg29 58 0), Ent.own 9 tS ([[97, 117, 116, 111]] : List Str) (yg29 61 0), Ent.own 5 (tI .u8) ([6] : List Int) (yg29 62 0), Ent.own 5 (tI .u8) ([6] : List Int) (yg29 65 0), Ent.own 5 (tI .u8) ([2, 3, 4] : List Int) g16, Ent.own 5 (tI .u8) ([7, 8] : List Int) g10] w := by rw [hX]; exact hS0
      replace hS : SH M X w [Ent.im (tI .u8) ([7, 8] : List Int) g10, Ent.own 9 tS ([[98, 108, 111, 99, 107], [102, 108, 101, 120], [105, 110, 108, 105, 110, 101], [105, 110, 108, 105, 110, 101, 45, 98, 108, 111, 99, 107], [110, 111, 110, 101]] : List Str) (yg29 14 0), Ent.own 9 tS ([[99, 111, 108, 108, 97, 112, 115, 101], [104, 105, 100, 100, 101, 110], [118, 105, 115, 105, 98, 108, 101]] : List Str) (yg29 17 0), Ent.own 9 tS ([[97, 117, 116, 111]] : List Str) (yg29 20 0), Ent.own 9 tS ([[97, 117, 116, 111]] : List Str) (yg29 24 0), Ent.own 9 tS ([[97, 117, 116, 111]] : List Str) (yg29 28 0), Ent.own 9 tS ([[97, 117, 116, 111]] : List Str) (yg29 32 0), Ent.own 9 tS ([[97, 117, 116, 111]] : List Str) (yg29 36 0), Ent.own 9 tS ([[97, 117, 116, 111]] : List Str) (yg29 40 0), Ent.own 9 tS ([[110, 111, 114, 109, 97, 108]] : List Str) (yg29 47 0), Ent.own 5 (tI .u8) q64 (yg29 52 0), Ent.own 9 tS ([[99, 101, 110, 116, 101, 114], [106, 117, 115, 116, 105, 102, 121], [108, 101, 102, 116], [114, 105, 103, 104, 116]] : List Str) (yg29 55 0), Ent.own 5 (tI .u8) ([5] : List Int) (yg29 58 0), Ent.own 9 tS ([[97, 117, 116, 111]] : List Str) (yg29 61 0), Ent.own 5 (tI .u8) ([6] : List Int) (yg29 62 0), Ent.own 5 (tI .u8) ([6] : List Int) (yg29 65 0), Ent.own 5 (tI .u8) ([2, 3, 4] : List Int) g16] _ := SH.frz1 (hS.sel [16, 0, 1, 2, 3, 4, 5, 6, 7, 8, 9, 10, 11, 12, 13, 14, 15] rfl)
      replace hS : SH M X w [Ent.im tS ([[98, 108, 111, 99, 107], [102, 108, 101, 120], [105, 110, 108, 105, 110, 101], [105, 110, 108, 105, 110, 101, 45, 98, 108, 111, 99, 107], [110, 111, 110, 101]] : List Str) (yg29 14 0), Ent.im (tI .u8) ([7, 8] : List Int) g10, Ent.own 9 tS ([[99, 111, 108, 108, 97, 112, 115, 101], [104, 105, 100, 100, 101, 110], [118, 105, 115, 105, 98, 108, 101]] : List Str) (yg29 17 0), Ent.own 9 tS ([[97, 117, 116, 111]] : List Str) (yg29 20 0), Ent.own 9 tS ([[97, 117, 116, 111]] : List Str) (yg29 24 0), Ent.own 9 tS ([[97, 117, 116, 111]] : List Str) (yg29 28 0), Ent.own 9 tS ([[97, 117, 116, 111]] : List Str) (yg29 32 0), Ent.own 9 tS ([[97, 117, 116, 111]] : List Str) (yg29 36 0), Ent.own 9 tS ([[97, 117, 116, 111]] : List Str) (yg29 40 0), Ent.own 9 tS ([[110, 111, 114, 109, 97, 108]] : List Str) (yg29 47 0), Ent.own 5 (tI .u8) q64 (yg29 52 0), Ent.own 9 tS ([[99, 101, 110, 116, 101, 114], [106, 117, 115, 116, 105, 102, 121], [108, 101, 102, 116], [114, 105, 103, 104, 116]] : List Str) (yg29 55 0), Ent.own 5 (tI .u8) ([5] : List Int) (yg29 58 0), Ent.own 9 tS ([[97, 117, 116, 111]] : List Str) (yg29 61 0), Ent.own 5 (tI .u8) ([6] : List Int) (yg29 62 0), Ent.own 5 (tI .u8) ([6] : List Int) (yg29 65 0), Ent.own 5 (tI .u8) ([2, 3, 4] : List Int) g16] _ := SH.frz1 (hS.sel [1, 0, 2, 3, 4, 5, 6, 7, 8, 9, 10, 11, 12, 13, 14, 15, 16] rfl)
      replace hS : SH M X w [Ent.im tS ([[99, 111, 108, 108, 97, 112, 115, 101], [104, 105, 100, 100, 101, 110], [118, 105, 115, 105, 98, 108, 101]] : List Str) (yg29 17 0), Ent.im tS ([[98, 108, 111, 99, 107], [102, 108, 101, 120], [105, 110, 108, 105, 110, 101], [105, 110, 108, 105, 110, 101, 45, 98, 108, 111, 99, 107], [110, 111, 110, 101]] : List Str) (yg29 14 0), Ent.im (tI .u8) ([7, 8] : List Int) g10, Ent.own 9 tS ([[97, 117, 116, 111]] : List Str) (yg29 20 0), Ent.own 9 tS ([[97, 117, 116, 111]] : List Str) (yg29 24 0), Ent.own 9 tS ([[97, 117, 116, 111]] : List Str) (yg29 28 0), Ent.own 9 tS ([[97, 117, 116, 111]] : List Str) (yg29 32 0), Ent.own 9 tS ([[97, 117, 116, 111]] : List Str) (yg29 36 0), Ent.own 9 tS ([[97, 117, 116, 111]] : List Str) (yg29 40 0), Ent.own 9 tS ([[110, 111, 114, 109, 97, 108]] : List Str) (yg29 47 0), Ent.own 5 (tI .u8) q64 (yg29 52 0), Ent.own 9 tS ([[99, 101, 110, 116, 101, 114], [106, 117, 115, 116, 105, 102, 121], [108, 101, 102, 116], [114, 105, 103, 104, 116]] : List Str) (yg29 55 0), Ent.own 5 (tI .u8) ([5] : List Int) (yg29 58 0), Ent.own 9 tS ([[97, 117, 116, 111]] : List Str) (yg29 61 0), Ent.own 5 (tI .u8) ([6] : List Int) (yg29 62 0), Ent.own 5 (tI .u8) ([6] : List Int) (yg29 65 0), Ent.own 5 (tI .u8) ([2, 3, 4] : List Int) g16] _ := SH.frz1 (hS.sel [2, 0, 1, 3, 4, 5, 6, 7, 8, 9, 10, 11, 12, 13, 14, 15, 16] rfl)
      replace hS : SH M X w [Ent.im tS ([[97, 117, 116, 111]] : List Str) (yg29 20 0), Ent.im tS ([[99, 111, 108, 108, 97, 112, 115, 101], [104, 105, 100, 100, 101, 110], [118, 105, 115, 105, 98, 108, 101]] : List Str) (yg29 17 0), Ent.im tS ([[98, 108, 111, 99, 107], [102, 108, 101, 120], [105, 110, 108, 105, 110, 101], [105, 110, 108, 105, 110, 101, 45, 98, 108, 111, 99, 107], [110, 111, 110, 101]] : List Str) (yg29 14 0), Ent.im (tI .u8) ([7, 8] : List Int) g10, Ent.own 9 tS ([[97, 117, 116, 111]] : List Str) (yg29 24 0), Ent.own 9 tS ([[97, 117, 116, 111]] : List Str) (yg29 28 0), Ent.own 9 tS ([[97, 117, 116, 111]] : List Str) (yg29 32 0), Ent.own 9 tS ([[97, 117, 116, 111]] : List Str) (yg29 36 0), Ent.own 9 tS ([[97, 117, 116, 111]] : List Str) (yg29 40 0), Ent.own 9 tS ([[110, 111, 114, 109, 97, 108]] : List Str) (yg29 47 0), Ent.own 5 (tI .u8) q64 (yg29 52 0), Ent.own 9 tS ([[99, 101, 110, 116, 101, 114], [106, 117, 115, 116, 105, 102, 121], [108, 101, 102, 116], [114, 105, 103, 104, 116]] : List Str) (yg29 55 0), Ent.own 5 (tI .u8) ([5] : List Int) (yg29 58 0), Ent.own 9 tS ([[97, 117, 116, 111]] : List Str) (yg29 61 0), Ent.own 5 (tI .u8) ([6] : List Int) (yg29 62 0), Ent.own 5 (tI .u8) ([6] : List Int) (yg29 65 0), Ent.own 5 (tI .u8) ([2, 3, 4] : List Int) g16] _ := SH.frz1 (hS.sel [3, 0, 1, 2, 4, 5, 6, 7, 8, 9, 10, 11, 12, 13, 14, 15, 16] rfl)
      replace hS : SH M X w [Ent.im (tI .u8) ([2, 3, 4] : List Int) g16, Ent.im tS ([[97, 117, 116, 111]] : List Str) (yg29 20 0), Ent.im tS ([[99, 111, 108, 108, 97, 112, 115, 101], [104, 105, 100, 100, 101, 110], [118, 105, 115, 105, 98, 108, 101]] : List Str) (yg29 17 0), Ent.im tS ([[98, 108, 111, 99, 107], [102, 108, 101, 120], [105, 110, 108, 105, 110, 101], [105, 110, 108, 105, 110, 101, 45, 98, 108, 111, 99, 107], [110, 111, 110, 101]] : List Str) (yg29 14 0), Ent.im (tI .u8) ([7, 8] : List Int) g10, Ent.own 9 tS ([[97, 117, 116, 111]] : List Str) (yg29 24 0), Ent.own 9 tS ([[97, 117, 116, 111]] : List Str) (yg29 28 0), Ent.own 9 tS ([[97, 117, 116, 111]] : List Str) (yg29 32 0), Ent.own 9 tS ([[97, 117, 116, 111]] : List Str) (yg29 36 0), Ent.own 9 tS ([[97, 117, 116, 111]] : List Str) (yg29 40 0), Ent.own 9 tS ([[110, 111, 114, 109, 97, 108]] : List Str) (yg29 47 0), Ent.own 5 (tI .u8) q64 (yg29 52 0), Ent.own 9 tS ([[99, 101, 110, 116, 101, 114], [106, 117, 115, 116, 105, 102, 121], [108, 101, 102, 116], [114, 105, 103, 104, 116]] : List Str) (yg29 55 0), Ent.own 5 (tI .u8) ([5] : List Int) (yg29 58 0), Ent.own 9 tS ([[97, 117, 116, 111]] : List Str) (yg29 61 0), Ent.own 5 (tI .u8) ([6] : List Int) (yg29 62 0), Ent.own 5 (tI .u8) ([6] : List Int) (yg29 65 0)] _ := SH.frz1 (hS.sel [16, 0, 1, 2, 3, 4, 5, 6, 7, 8, 9, 10, 11, 12, 13, 14, 15] rfl)
      replace hS : SH M X w [Ent.im tS ([[97, 117, 116, 111]] : List Str) (yg29 24 0), Ent.im (tI .u8) ([2, 3, 4] : List Int) g16, Ent.im tS ([[97, 117, 116, 111]] : List Str) (yg29 20 0), Ent.im tS ([[99, 111, 108, 108, 97, 112, 115, 101], [104, 105, 100, 100, 101, 110], [118, 105, 115, 105, 98, 108, 101]] : List Str) (yg29 17 0), Ent.im tS ([[98, 108, 111, 99, 107], [102, 108, 101, 120], [105, 110, 108, 105, 110, 101], [105, 110, 108, 105, 110, 101, 45, 98, 108, 111, 99, 107], [110, 111, 110, 101]] : List Str) (yg29 14 0), Ent.im (tI .u8) ([7, 8] : List Int) g10, Ent.own 9 tS ([[97, 117, 116, 111]] : List Str) (yg29 28 0), Ent.own 9 tS ([[97, 117, 116, 111]] : List Str) (yg29 32 0), Ent.own 9 tS ([[97, 117, 116, 111]] : List Str) (yg29 36 0), Ent.own 9 tS ([[97, 117, 116, 111]] : List Str) (yg29 40 0), Ent.own 9 tS ([[110, 111, 114, 109, 97, 108]] : List Str) (yg29 47 0), Ent.own 5 (tI .u8) q64 (yg29 52 0), Ent.own 9 tS ([[99, 101, 110, 116, 101, 114], [106, 117, 115, 116, 105, 102, 121], [108, 101, 102, 116], [114, 105, 103, 104, 116]] : List Str) (yg29 55 0), Ent.own 5 (tI .u8) ([5] : List Int) (yg29 58 0), Ent.own 9 tS ([[97, 117, 116, 111]] : List Str) (yg29 61 0), Ent.own 5 (tI .u8) ([6] : List Int) (yg29 62 0), Ent.own 5 (tI .u8) ([6] : List Int) (yg29 65 0)] _ := SH.frz1 (hS.sel [5, 0, 1, 2, 3, 4, 6, 7, 8, 9, 10, 11, 12, 13, 14, 15, 16] rfl)
      replace hS : SH M X w [Ent.im tS ([[97, 117, 116, 111]] : List Str) (yg29 28 0), Ent.im tS ([[97, 117, 116, 111]] : List Str) (yg29 24 0), Ent.im (tI .u8) ([2, 3, 4] : List Int) g16, Ent.im tS ([[97, 117, 116, 111]] : List Str) (yg29 20 0), Ent.im tS ([[99, 111, 108, 108, 97, 112, 115, 101], [104, 105, 100, 100, 101, 110], [118, 105, 115, 105, 98, 108, 101]] : List Str) (yg29 17 0), Ent.im tS ([[98, 108, 111, 99, 107], [102, 108, 101, 120], [105, 110, 108, 105, 110, 101], [105, 110, 108, 105, 110, 101, 45, 98, 108, 111, 99, 107], [110, 111, 110, 101]] : List Str) (yg29 14 0), Ent.im (tI .u8) ([7, 8] : List Int) g10, Ent.own 9 tS ([[97, 117, 116, 111]] : List Str) (yg29 32 0), Ent.own 9 tS ([[97, 117, 116, 111]] : List Str) (yg29 36 0), Ent.own 9 tS ([[97, 117, 116, 111]] : List Str) (yg29 40 0), Ent.own 9 tS ([[110, 111, 114, 109, 97, 108]] : List Str) (yg29 47 0), Ent.own 5 (tI .u8) q64 (yg29 52 0), Ent.own 9 tS ([[99, 101, 110, 116, 101, 114], [106, 117, 115, 116, 105, 102, 121], [108, 101, 102, 116], [114, 105, 103, 104, 116]] : List Str) (yg29 55 0), Ent.own 5 (tI .u8) ([5] : List Int) (yg29 58 0), Ent.own 9 tS ([[97, 117, 116, 111]] : List Str) (yg29 61 0), Ent.own 5 (tI .u8) ([6] : List Int) (yg29 62 0), Ent.own 5 (tI .u8) ([6] : List Int) (yg29 65 0)] _ := SH.frz1 (hS.sel [6, 0, 1, 2, 3, 4, 5, 7, 8, 9, 10, 11, 12, 13, 14, 15, 16] rfl)
      replace hS : SH M X w [Ent.im tS ([[97, 117, 116, 111]] : List Str) (yg29 32 0), Ent.im tS ([[97, 117, 116, 111]] : List Str) (yg29 28 0), Ent.im tS ([[97, 117, 116, 111]] : List Str) (yg29 24 0), Ent.im (tI .u8) ([2, 3, 4] : List Int) g16, Ent.im tS ([[97, 117, 116, 111]] : List Str) (yg29 20 0), Ent.im tS ([[99, 111, 108, 108, 97, 112, 115, 101], [104, 105, 100, 100, 101, 110], [118, 105, 115, 105, 98, 108, 101]] : List Str) (yg29 17 0), Ent.im tS ([[98, 108, 111, 99, 107], [102, 108, 101, 120], [105, 110, 108, 105, 110, 101], [105, 110, 108, 105, 110, 101, 45, 98, 108, 111, 99, 107], [110, 111, 110, 101]] : List Str) (yg29 14 0), Ent.im (tI .u8) ([7, 8] : List Int) g10, Ent.own 9 tS ([[97, 117, 116, 111]] : List Str) (yg29 36 0), Ent.own 9 tS ([[97, 117, 116, 111]] : List Str) (yg29 40 0), Ent.own 9 tS ([[110, 111, 114, 109, 97, 108]] : List Str) (yg29 47 0), Ent.own 5 (tI .u8) q64 (yg29 52 0), Ent.own 9 tS ([[99, 101, 110, 116, 101, 114], [106, 117, 115, 116, 105, 102, 121], [108, 101, 102, 116], [114, 105, 103, 104, 116]] : List Str) (yg29 55 0), Ent.own 5 (tI .u8) ([5] : List Int) (yg29 58 0), Ent.own 9 tS ([[97, 117, 116, 111]] : List Str) (yg29 61 0), Ent.own 5 (tI .u8) ([6] : List Int) (yg29 62 0), Ent.own 5 (tI .u8) ([6] : List Int) (yg29 65 0)] _ := SH.frz1 (hS.sel [7, 0, 1, 2, 3, 4, 5, 6, 8, 9, 10, 11, 12, 13, 14, 15, 16] rfl)
      replace hS : SH M X w [Ent.im tS ([[97, 117, 116, 111]] : List Str) (yg29 36 0), Ent.im tS ([[97, 117, 116, 111]] : List Str) (yg29 32 0), Ent.im tS ([[97, 117, 116, 111]] : List Str) (yg29 28 0), Ent.im tS ([[97, 117, 116, 111]] : List Str) (yg29 24 0), Ent.im (tI .u8) ([2, 3, 4] : List Int) g16, Ent.im tS ([[97, 117, 116, 111]] : List Str) (yg29 20 0), Ent.im tS ([[99, 111, 108, 108, 97, 112, 115, 101], [104, 105, 100, 100, 101, 110], [118, 105, 115, 105, 98, 108, 101]] : List Str) (yg29 17 0), Ent.im tS ([[98, 108, 111, 99, 107], [102, 108, 101, 120], [105, 110, 108, 105, 110, 101], [105, 110, 108, 105, 110, 101, 45, 98, 108, 111, 99, 107], [110, 111, 110, 101]] : List Str) (yg29 14 0), Ent.im (tI .u8) ([7, 8] : List Int) g10, Ent.own 9 tS ([[97, 117, 116, 111]] : List Str) (yg29 40 0), Ent.own 9 tS ([[110, 111, 114, 109, 97, 108]] : List Str) (yg29 47 0), Ent.own 5 (tI .u8) q64 (yg29 52 0), Ent.own 9 tS ([[99, 101, 110, 116, 101, 114], [106, 117, 115, 116, 105, 102, 121], [108, 101, 102, 116], [114, 105, 103, 104, 116]] : List Str) (yg29 55 0), Ent.own 5 (tI .u8) ([5] : List Int) (yg29 58 0), Ent.own 9 tS ([[97, 117, 116, 111]] : List Str) (yg29 61 0), Ent.own 5 (tI .u8) ([6] : List Int) (yg29 62 0), Ent.own 5 (tI .u8) ([6] : List Int) (yg29 65 0)] _ := SH.frz1 (hS.sel [8, 0, 1, 2, 3, 4, 5, 6, 7, 9, 10, 11, 12, 13, 14, 15, 16] rfl)
      replace hS : SH M X w [Ent.im tS ([[97, 117, 116, 111]] : List Str) (yg29 40 0), Ent.im tS ([[97, 117, 116, 111]] : List Str) (yg29 36 0), Ent.im tS ([[97, 117, 116, 111]] : List Str) (yg29 32 0), Ent.im tS ([[97, 117, 116, 111]] : List Str) (yg29 28 0), Ent.im tS ([[97, 117, 116, 111]] : List Str) (yg29 24 0), Ent.im (tI .u8) ([2, 3, 4] : List Int) g16, Ent.im tS ([[97, 117, 116, 111]] : List Str) (yg29 20 0), Ent.im tS ([[99, 111, 108, 108, 97, 112, 115, 101], [104, 105, 100, 100, 101, 110], [118, 105, 115, 105, 98, 108, 101]] : List Str) (yg29 17 0), Ent.im tS ([[98, 108, 111, 99, 107], [102, 108, 101, 120], [105, 110, 108, 105, 110, 101], [105, 110, 108, 105, 110, 101, 45, 98, 108, 111, 99, 107], [110, 111, 110, 101]] : List Str) (yg29 14 0), Ent.im (tI .u8) ([7, 8] : List Int) g10, Ent.own 9 tS ([[110, 111, 114, 109, 97, 108]] : List Str) (yg29 47 0), Ent.own 5 (tI .u8) q64 (yg29 52 0), Ent.own 9 tS ([[99, 101, 110, 116, 101, 114], [106, 117, 115, 116, 105, 102, 121], [108, 101, 102, 116], [114, 105, 103, 104, 116]] : List Str) (yg29 55 0), Ent.own 5 (tI .u8) ([5] : List Int) (yg29 58 0), Ent.own 9 tS ([[97, 117, 116, 111]] : List Str) (yg29 61 0), Ent.own 5 (tI .u8) ([6] : List Int) (yg29 62 0), Ent.own 5 (tI .u8) ([6] : List Int) (yg29 65 0)] _ := SH.frz1 (hS.sel [9, 0, 1, 2, 3, 4, 5, 6, 7, 8, 10, 11, 12, 13, 14, 15, 16] rfl)
      replace hS : SH M X w [Ent.im tS ([[110, 111, 114, 109, 97, 108]] : List Str) (yg29 47 0), Ent.im tS ([[97, 117, 116, 111]] : List Str) (yg29 40 0), Ent.im tS ([[97, 117, 116, 111]] : List Str) (yg29 36 0), Ent.im tS ([[97, 117, 116, 111]] : List Str) (yg29 32 0), Ent.im tS ([[97, 117, 116, 111]] : List Str) (yg29 28 0), Ent.im tS ([[97, 117, 116, 111]] : List Str) (yg29 24 0), Ent.im (tI .u8) ([2, 3, 4] : List Int) g16, Ent.im tS ([[97, 117, 116, 111]] : List Str) (yg29 20 0), Ent.im tS ([[99, 111, 108, 108, 97, 112, 115, 101], [104, 105, 100, 100, 101, 110], [118, 105, 115, 105, 98, 108, 101]] : List Str) (yg29 17 0), Ent.im tS ([[98, 108, 111, 99, 107], [102, 108, 101, 120], [105, 110, 108, 105, 110, 101], [105, 110, 108, 105, 110, 101, 45, 98, 108, 111, 99, 107], [110, 111, 110, 101]] : List Str) (yg29 14 0), Ent.im (tI .u8) ([7, 8] : List Int) g10, Ent.own 5 (tI .u8) q64 (yg29 52 0), Ent.own 9 tS ([[99, 101, 110, 116, 101, 114], [106, 117, 115, 116, 105, 102, 121], [108, 101, 102, 116], [114, 105, 103, 104, 116]] : List Str) (yg29 55 0), Ent.own 5 (tI .u8) ([5] : List Int) (yg29 58 0), Ent.own 9 tS ([[97, 117, 116, 111]] : List Str) (yg29 61 0), Ent.own 5 (tI .u8) ([6] : List Int) (yg29 62 0), Ent.own 5 (tI .u8) ([6] : List Int) (yg29 65 0)] _ := SH.frz1 (hS.sel [10, 0, 1, 2, 3, 4, 5, 6, 7, 8, 9, 11, 12, 13, 14, 15, 16] rfl)
      replace hS : SH M X w [Ent.im (tI .u8) q64 (yg29 52 0), Ent.im tS ([[110, 111, 114, 109, 97, 108]] : List Str) (yg29 47 0), Ent.im tS ([[97, 117, 116, 111]] : List Str) (yg29 40 0), Ent.im tS ([[97, 117, 116, 111]] : List Str) (yg29 36 0), Ent.im tS ([[97, 117, 116, 111]] : List Str) (yg29 32 0), Ent.im tS ([[97, 117, 116, 111]] : List Str) (yg29 28 0), Ent.im tS ([[97, 117, 116, 111]] : List Str) (yg29 24 0), Ent.im (tI .u8) ([2, 3, 4] : List Int) g16, Ent.im tS ([[97, 117, 116, 111]] : List Str) (yg29 20 0), Ent.im tS ([[99, 111, 108, 108, 97, 112, 115, 101], [104, 105, 100, 100, 101, 110], [118, 105, 115, 105, 98, 108, 101]] : List Str) (yg29 17 0), Ent.im tS ([[98, 108, 111, 99, 107], [102, 108, 101, 120], [105, 110, 108, 105, 110, 101], [105, 110, 108, 105, 110, 101, 45, 98, 108, 111, 99, 107], [110, 111, 110, 101]] : List Str) (yg29 14 0), Ent.im (tI .u8) ([7, 8] : List Int) g10, Ent.own 9 tS ([[99, 101, 110, 116, 101, 114], [106, 117, 115, 116, 105, 102, 121], [108, 101, 102, 116], [114, 105, 103, 104, 116]] : List Str) (yg29 55 0), Ent.own 5 (tI .u8) ([5] : List Int) (yg29 58 0), Ent.own 9 tS ([[97, 117, 116, 111]] : List Str) (yg29 61 0), Ent.own 5 (tI .u8) ([6] : List Int) (yg29 62 0), Ent.own 5 (tI .u8) ([6] : List Int) (yg29 65 0)] _ := SH.frz1 (hS.sel [11, 0, 1, 2, 3, 4, 5, 6, 7, 8, 9, 10, 12, 13, 14, 15, 16] rfl)
      replace hS : SH M X w [Ent.im tS ([[99, 101, 110, 116, 101, 114], [106, 117, 115, 116, 105, 102, 121], [108, 101, 102, 116], [114, 105, 103, 104, 116]] : List Str) (yg29 55 0), Ent.im (tI .u8) q64 (yg29 52 0), Ent.im tS ([[110, 111, 114, 109, 97, 108]] : List Str) (yg29 47 0), Ent.im tS ([[97, 117, 116, 111]] : List Str) (yg29 40 0), Ent.im tS ([[97, 117, 116, 111]] : List Str) (yg29 36 0), Ent.im tS ([[97, 117, 116, 111]] : List Str) (yg29 32 0), Ent.im tS ([[97, 117, 116, 111]] : List Str) (yg29 28 0), Ent.im tS ([[97, 117, 116, 111]] : List Str) (yg29 24 0), Ent.im (tI .u8) ([2, 3, 4] : List Int) g16, Ent.im tS ([[97, 117, 116, 111]] : List Str) (yg29 20 0), Ent.im tS ([[99, 111, 108, 108, 97, 112, 115, 101], [104, 105, 100, 100, 101, 110], [118, 105, 115, 105, 98, 108, 101]] : List Str) (yg29 17 0), Ent.im tS ([[98, 108, 111, 99, 107], [102, 108, 101, 120], [105, 110, 108, 105, 110, 101], [105, 110, 108, 105, 110, 101, 45, 98, 108, 111, 99, 107], [110, 111, 110, 101]] : List Str) (yg29 14 0), Ent.im (tI .u8) ([7, 8] : List Int) g10, Ent.own 5 (tI .u8) ([5] : List Int) (yg29 58 0), Ent.own 9 tS ([[97, 117, 116, 111]] : List Str) (yg29 61 0), Ent.own 5 (tI .u8) ([6] : List Int) (yg29 62 0), Ent.own 5 (tI .u8) ([6] : List Int) (yg29 65 0)] _ := SH.frz1 (hS.sel [12, 0, 1, 2, 3, 4, 5, 6, 7, 8, 9, 10, 11, 13, 14, 15, 16] rfl)
      replace hS : SH M X w [Ent.im (tI .u8) ([5] : List Int) (yg29 58 0), Ent.im tS ([[99, 101, 110, 116, 101, 114], [106, 117, 115, 116, 105, 102, 121], [108, 101, 102, 116], [114, 105, 103, 104, 116]] : List Str) (yg29 55 0), Ent.im (tI .u8) q64 (yg29 52 0), Ent.im tS ([[110, 111, 114, 109, 97, 108]] : List Str) (yg29 47 0), Ent.im tS ([[97, 117, 116, 111]] : List Str) (yg29 40 0), Ent.im tS ([[97, 117, 116, 111]] : List Str) (yg29 36 0), Ent.im tS ([[97, 117, 116, 111]] : List Str) (yg29 32 0), Ent.im tS ([[97, 117, 116, 111]] : List Str) (yg29 28 0), Ent.im tS ([[97, 117, 116, 111]] : List Str) (yg29 24 0), Ent.im (tI .u8) ([2, 3, 4] : List Int) g16, Ent.im tS ([[97, 117, 116, 111]] : List Str) (yg29 20 0), Ent.im tS ([[99, 111, 108, 108, 97, 112, 115, 101], [104, 105, 100, 100, 101, 110], [118, 105, 115, 105, 98, 108, 101]] : List Str) (yg29 17 0), Ent.im tS ([[98, 108, 111, 99, 107], [102, 108, 101, 120], [105, 110, 108, 105, 110, 101], [105, 110, 108, 105, 110, 101, 45, 98, 108, 111, 99, 107], [110, 111, 110, 101]] : List Str) (yg29 14 0), Ent.im (tI .u8) ([7, 8] : List Int) g10, Ent.own 9 tS ([[97, 117, 116, 111]] : List Str) (yg29 61 0), Ent.own 5 (tI .u8) ([6] : List Int) (yg29 62 0), Ent.own 5 (tI .u8) ([6] : List Int) (yg29 65 0)] _ := SH.frz1 (hS.sel [13, 0, 1, 2, 3, 4, 5, 6, 7, 8, 9, 10, 11, 12, 14, 15, 16] rfl)
      replace hS : SH M X w [Ent.im tS ([[97, 117, 116, 111]] : List Str) (yg29 61 0), Ent.im (tI .u8) ([5] : List Int) (yg29 58 0), Ent.im tS ([[99, 101, 110, 116, 101, 114], [106, 117, 115, 116, 105, 102, 121], [108, 101, 102, 116], [114, 105, 103, 104, 116]] : List Str) (yg29 55 0), Ent.im (tI .u8) q64 (yg29 52 0), Ent.im tS ([[110, 111, 114, 109, 97, 108]] : List Str) (yg29 47 0), Ent.im tS ([[97, 117, 116, 111]] : List Str) (yg29 40 0), Ent.im tS ([[97, 117, 116, 111]] : List Str) (yg29 36 0), Ent.im tS ([[97, 117, 116, 111]] : List Str) (yg29 32 0), Ent.im tS ([[97, 117, 116, 111]] : List Str) (yg29 28 0), Ent.im tS ([[97, 117, 116, 111]] : List Str) (yg29 24 0), Ent.im (tI .u8) ([2, 3, 4] : List Int) g16, Ent.im tS ([[97, 117, 116, 111]] : List Str) (yg29 20 0), Ent.im tS ([[99, 111, 108, 108, 97, 112, 115, 101], [104, 105, 100, 100, 101, 110], [118, 105, 115, 105, 98, 108, 101]] : List Str) (yg29 17 0), Ent.im tS ([[98, 108, 111, 99, 107], [102, 108, 101, 120], [105, 110, 108, 105, 110, 101], [105, 110, 108, 105, 110, 101, 45, 98, 108, 111, 99, 107], [110, 111, 110, 101]] : List Str) (yg29 14 0), Ent.im (tI .u8) ([7, 8] : List Int) g10, Ent.own 5 (tI .u8) ([6] : List Int) (yg29 62 0), Ent.own 5 (tI .u8) ([6] : List Int) (yg29 65 0)] _ := SH.frz1 (hS.sel [14, 0, 1, 2, 3, 4, 5, 6, 7, 8, 9, 10, 11, 12, 13, 15, 16] rfl)
      replace hS : SH M X w [Ent.im (tI .u8) ([6] : List Int) (yg29 62 0), Ent.im tS ([[97, 117, 116, 111]] : List Str) (yg29 61 0), Ent.im (tI .u8) ([5] : List Int) (yg29 58 0), Ent.im tS ([[99, 101, 110, 116, 101, 114], [106, 117, 115, 116, 105, 102, 121], [108, 101, 102, 116], [114, 105, 103, 104, 116]] : List Str) (yg29 55 0), Ent.im (tI .u8) q64 (yg29 52 0), Ent.im tS ([[110, 111, 114, 109, 97, 108]] : List Str) (yg29 47 0), Ent.im tS ([[97, 117, 116, 111]] : List Str) (yg29 40 0), Ent.im tS ([[97, 117, 116, 111]] : List Str) (yg29 36 0), Ent.im tS ([[97, 117, 116, 111]] : List Str) (yg29 32 0), Ent.im tS ([[97, 117, 116, 111]] : List Str) (yg29 28 0), Ent.im tS ([[97, 117, 116, 111]] : List Str) (yg29 24 0), Ent.im (tI .u8) ([2, 3, 4] : List Int) g16, Ent.im tS ([[97, 117, 116, 111]] : List Str) (yg29 20 0), Ent.im tS ([[99, 111, 108, 108, 97, 112, 115, 101], [104, 105, 100, 100, 101, 110], [118, 105, 115, 105, 98, 108, 101]] : List Str) (yg29 17 0), Ent.im tS ([[98, 108, 111, 99, 107], [102, 108, 101, 120], [105, 110, 108, 105, 110, 101], [105, 110, 108, 105, 110, 101, 45, 98, 108, 111, 99, 107], [110, 111, 110, 101]] : List Str) (yg29 14 0), Ent.im (tI .u8) ([7, 8] : List Int) g10, Ent.own 5 (tI .u8) ([6] : List Int) (yg29 65 0)] _ := SH.frz1 (hS.sel [15, 0, 1, 2, 3, 4, 5, 6, 7, 8, 9, 10, 11, 12, 13, 14, 16] rfl)
      replace hS : SH M X w [Ent.im (tI .u8) ([6] : List Int) (yg29 65 0), Ent.im (tI .u8) ([6] : List Int) (yg29 62 0), Ent.im tS ([[97, 117, 116, 111]] : List Str) (yg29 61 0), Ent.im (tI .u8) ([5] : List Int) (yg29 58 0), Ent.im tS ([[99, 101, 110, 116, 101, 114], [106, 117, 115, 116, 105, 102, 121], [108, 101, 102, 116], [114, 105, 103, 104, 116]] : List Str) (yg29 55 0), Ent.im (tI .u8) q64 (yg29 52 0), Ent.im tS ([[110, 111, 114, 109, 97, 108]] : List Str) (yg29 47 0), Ent.im tS ([[97, 117, 116, 111]] : List Str) (yg29 40 0), Ent.im tS ([[97, 117, 116, 111]] : List Str) (yg29 36 0), Ent.im tS ([[97, 117, 116, 111]] : List Str) (yg29 32 0), Ent.im tS ([[97, 117, 116, 111]] : List Str) (yg29 28 0), Ent.im tS ([[97, 117, 116, 111]] : List Str) (yg29 24 0), Ent.im (tI .u8) ([2, 3, 4] : List Int) g16, Ent.im tS ([[97, 117, 116, 111]] : List Str) (yg29 20 0), Ent.im tS ([[99, 111, 108, 108, 97, 112, 115, 101], [104, 105, 100, 100, 101, 110], [118, 105, 115, 105, 98, 108, 101]] : List Str) (yg29 17 0), Ent.im tS ([[98, 108, 111, 99, 107], [102, 108, 101, 120], [105, 110, 108, 105, 110, 101], [105, 110, 108, 105, 110, 101, 45, 98, 108, 111, 99, 107], [110, 111, 110, 101]] : List Str) (yg29 14 0), Ent.im (tI .u8) ([7, 8] : List Int) g10] _ := SH.frz1 (hS.sel [16, 0, 1, 2, 3, 4, 5, 6, 7, 8, 9, 10, 11, 12, 13, 14, 15] rfl)
      have hd : S0 (AvL M [Ent.im (tI .u8) ([6] : List Int) (yg29 65 0), Ent.im (tI .u8) ([6] : List Int) (yg29 62 0), Ent.im tS ([[97, 117, 116, 111]] : List Str) (yg29 61 0), Ent.im (tI .u8) ([5] : List Int) (yg29 58 0), Ent.im tS ([[99, 101, 110, 116, 101, 114], [106, 117, 115, 116, 105, 102, 121], [108, 101, 102, 116], [114, 105, 103, 104, 116]] : List Str) (yg29 55 0), Ent.im (tI .u8) q64 (yg29 52 0), Ent.im tS ([[110, 111, 114, 109, 97, 108]] : List Str) (yg29 47 0), Ent.im tS ([[97, 117, 116, 111]] : List Str) (yg29 40 0), Ent.im tS ([[97, 117, 116, 111]] : List Str) (yg29 36 0), Ent.im tS ([[97, 117, 116, 111]] : List Str) (yg29 32 0), Ent.im tS ([[97, 117, 116, 111]] : List Str) (yg29 28 0), Ent.im tS ([[97, 117, 116, 111]] : List Str) (yg29 24 0), Ent.im (tI .u8) ([2, 3, 4] : List Int) g16, Ent.im tS ([[97, 117, 116, 111]] : List Str) (yg29 20 0), Ent.im tS ([[99, 111, 108, 108, 97, 112, 115, 101], [104, 105, 100, 100, 101, 110], [118, 105, 115, 105, 98, 108, 101]] : List Str) (yg29 17 0), Ent.im tS ([[98, 108, 111, 99, 107], [102, 108, 101, 120], [105, 110, 108, 105, 110, 101], [105, 110, 108, 105, 110, 101, 45, 98, 108, 111, 99, 107], [110, 111, 110, 101]] : List Str) (yg29 14 0), Ent.im (tI .u8) ([7, 8] : List Int) g10]) [Ent.im (tI .u8) ([7, 8] : List Int) g10, Ent.im tS ([[98, 108, 111, 99, 107], [102, 108, 101, 120], [105, 110, 108, 105, 110, 101], [105, 110, 108, 105, 110, 101, 45, 98, 108, 111, 99, 107], [110, 111, 110, 101]] : List Str) (yg29 14 0), Ent.im tS ([[99, 111, 108, 108, 97, 112, 115, 101], [104, 105, 100, 100, 101, 110], [118, 105, 115, 105, 98, 108, 101]] : List Str) (yg29 17 0), Ent.im tS ([[97, 117, 116, 111]] : List Str) (yg29 20 0), Ent.im (tI .u8) ([2, 3, 4] : List Int) g16, Ent.im tS ([[97, 117, 116, 111]] : List Str) (yg29 24 0), Ent.im tS ([[97, 117, 116, 111]] : List Str) (yg29 28 0), Ent.im tS ([[97, 117, 116, 111]] : List Str) (yg29 32 0), Ent.im tS ([[97, 117, 116, 111]] : List Str) (yg29 36 0), Ent.im tS ([[97, 117, 116, 111]] : List Str) (yg29 40 0), Ent.im tS ([[110, 111, 114, 109, 97, 108]] : List Str) (yg29 47 0), Ent.im (tI .u8) q64 (yg29 52 0), Ent.im tS ([[99, 101, 110, 116, 101, 114], [106, 117, 115, 116, 105, 102, 121], [108, 101, 102, 116], [114, 105, 103, 104, 116]] : List Str) (yg29 55 0), Ent.im (tI .u8) ([5] : List Int) (yg29 58 0), Ent.im tS ([[97, 117, 116, 111]] : List Str) (yg29 61 0), Ent.im (tI .u8) ([6] : List Int) (yg29 62 0), Ent.im (tI .u8) ([6] : List Int) (yg29 65 0)] _ := hS.hand [16, 15, 14, 13, 12, 11, 10, 9, 8, 7, 6, 5, 4, 3, 2, 1, 0] [0, 1, 2, 3, 4, 5, 6, 7, 8, 9, 10, 11, 12, 13, 14, 15, 16] rfl rfl
      refine Stp.mono (o_lit (T := tyProp) (E := 51) (zv := .agg ⟨[.string ⟨⟨[]⟩⟩, .bool false, .int .u8 0, .string ⟨⟨[]⟩⟩, .int .i64 0, .int .u8 0, .int .u8 0, .int .u8 0, .int .u8 0, .slice none 0 0, .slice none 0 0, .bool false]⟩) [.string ⟨⟨[99, 111, 108, 111, 114]⟩⟩, .bool true, .int .u8 7, .string ⟨⟨[]⟩⟩, .int .i64 0, .int .u8 0, .int .u8 0, .int .u8 0, .int .u8 255, .slice none 0 0, .slice g10.a 2 g10.c, .bool false, .string ⟨⟨[98, 97, 99, 107, 103, 114, 111, 117, 110, 100, 45, 99, 111, 108, 111, 114]⟩⟩, .bool false, .int .u8 7, .string ⟨⟨[]⟩⟩, .int .i64 0, .int .u8 0, .int .u8 0, .int .u8 0, .int .u8 0, .slice none 0 0, .slice g10.a 2 g10.c, .bool false, .string ⟨⟨[98, 111, 114, 100, 101, 114, 45, 99, 111, 108, 111, 114]⟩⟩, .bool false, .int .u8 8, .string ⟨⟨[]⟩⟩, .int .i64 0, .int .u8 0, .int .u8 0, .int .u8 0, .int .u8 0, .slice none 0 0, .slice g10.a 2 g10.c, .bool false, .string ⟨⟨[111, 117, 116, 108, 105, 110, 101, 45, 99, 111, 108, 111, 114]⟩⟩, .bool false, .int .u8 8, .string ⟨⟨[]⟩⟩, .int .i64 0, .int .u8 0, .int .u8 0, .int .u8 0, .int .u8 0, .slice none 0 0, .slice g10.a 2 g10.c, .bool false, .string ⟨⟨[100, 105, 115, 112, 108, 97, 121]⟩⟩, .bool false, .int .u8 y30.Kind, .string ⟨⟨y30.Word⟩⟩, .int .i64 y30.Num, .int .u8 y30.Color.Red, .int .u8 y30.Color.Green, .int .u8 y30.Color.Blue, .int .u8 y30.Color.Alpha, .slice (yg29 14 0).a 5 (yg29 14 0).c, .slice none 0 0, .bool false, .string ⟨⟨[118, 105, 115, 105, 98, 105, 108, 105, 116, 121]⟩⟩, .bool true, .int .u8 y33.Kind, .string ⟨⟨y33.Word⟩⟩, .int .i64 y33.Num, .int .u8 y33.Color.Red, .int .u8 y33.Color.Green, .int .u8 y33.Color.Blue, .int .u8 y33.Color.Alpha, .slice (yg29 17 0).a 3 (yg29 17 0).c, .slice none 0 0, .bool false, .string ⟨⟨[119, 105, 100, 116, 104]⟩⟩, .bool false, .int .u8 1, .string ⟨⟨[97, 117, 116, 111]⟩⟩, .int .i64 0, .int .u8 0, .int .u8 0, .int .u8 0, .int .u8 0, .slice (yg29 20 0).a 1 (yg29 20 0).c, .slice g16.a 3 g16.c, .bool true, .string ⟨⟨[104, 101, 105, 103, 104, 116]⟩⟩, .bool false, .int .u8 1, .string ⟨⟨[97, 117, 116, 111]⟩⟩, .int .i64 0, .int .u8 0, .int .u8 0, .int .u8 0, .int .u8 0, .slice (yg29 24 0).a 1 (yg29 24 0).c, .slice g16.a 3 g16.c, .bool true, .string ⟨⟨[109, 97, 114, 103, 105, 110, 45, 116, 111, 112]⟩⟩, .bool false, .int .u8 y40.Kind, .string ⟨⟨y40.Word⟩⟩, .int .i64 y40.Num, .int .u8 y40.Color.Red, .int .u8 y40.Color.Green, .int .u8 y40.Color.Blue, .int .u8 y40.Color.Alpha, .slice (yg29 28 0).a 1 (yg29 28 0).c, .slice g16.a 3 g16.c, .bool false, .string ⟨⟨[109, 97, 114, 103, 105, 110, 45, 114, 105, 103, 104, 116]⟩⟩, .bool false, .int .u8 y43.Kind, .string ⟨⟨y43.Word⟩⟩, .int .i64 y43.Num, .int .u8 y43.Color.Red, .int .u8 y43.Color.Green, .int .u8 y43.Color.Blue, .int .u8 y43.Color.Alpha, .slice (yg29 32 0).a 1 (yg29 32 0).c, .slice g16.a 3 g16.c, .bool false, .string ⟨⟨[109, 97, 114, 103, 105, 110, 45, 98, 111, 116, 116, 111, 109]⟩⟩, .bool false, .int .u8 y46.Kind, .string ⟨⟨y46.Word⟩⟩, .int .i64 y46.Num, .int .u8 y46.Color.Red, .int .u8 y46.Color.Green, .int .u8 y46.Color.Blue, .int .u8 y46.Color.Alpha, .slice (yg29 36 0).a 1 (yg29 36 0).c, .slice g16.a 3 g16.c, .bool false, .string ⟨⟨[109, 97, 114, 103, 105, 110, 45, 108, 101, 102, 116]⟩⟩, .bool false, .int .u8 y49.Kind, .string ⟨⟨y49.Word⟩⟩, .int .i64 y49.Num, .int .u8 y49.Color.Red, .int .u8 y49.Color.Green, .int .u8 y49.Color.Blue, .int .u8 y49.Color.Alpha, .slice (yg29 40 0).a 1 (yg29 40 0).c, .slice g16.a 3 g16.c, .bool false, .string ⟨⟨[102, 111, 110, 116, 45, 115, 105, 122, 101]⟩⟩, .bool true, .int .u8 y52.Kind, .string ⟨⟨y52.Word⟩⟩, .int .i64 y52.Num, .int .u8 y52.Color.Red, .int .u8 y52.Color.Green, .int .u8 y52.Color.Blue, .int .u8 y52.Color.Alpha, .slice none 0 0, .slice g16.a 3 g16.c, .bool true, .string ⟨⟨[108, 105, 110, 101, 45, 104, 101, 105, 103, 104, 116]⟩⟩, .bool true, .int .u8 y53.Kind, .string ⟨⟨y53.Word⟩⟩, .int .i64 y53.Num, .int .u8 y53.Color.Red, .int .u8 y53.Color.Green, .int .u8 y53.Color.Blue, .int .u8 y53.Color.Alpha, .slice (yg29 47 0).a 1 (yg29 47 0).c, .slice (yg29 52 0).a q64.length (yg29 52 0).c, .bool true, .string ⟨⟨[116, 101, 120, 116, 45, 97, 108, 105, 103, 110]⟩⟩, .bool true, .int .u8 y66.Kind, .string ⟨⟨y66.Word⟩⟩, .int .i64 y66.Num, .int .u8 y66.Color.Red, .int .u8 y66.Color.Green, .int .u8 y66.Color.Blue, .int .u8 y66.Color.Alpha, .slice (yg29 55 0).a 4 (yg29 55 0).c, .slice none 0 0, .bool false, .string ⟨⟨[111, 112, 97, 99, 105, 116, 121]⟩⟩, .bool false, .int .u8 5, .string ⟨⟨[]⟩⟩, .int .i64 1000, .int .u8 0, .int .u8 0, .int .u8 0, .int .u8 0, .slice none 0 0, .slice (yg29 58 0).a 1 (yg29 58 0).c, .bool false, .string ⟨⟨[122, 45, 105, 110, 100, 101, 120]⟩⟩, .bool false, .int .u8 1, .string ⟨⟨[97, 117, 116, 111]⟩⟩, .int .i64 0, .int .u8 0, .int .u8 0, .int .u8 0, .int .u8 0, .slice (yg29 61 0).a 1 (yg29 61 0).c, .slice (yg29 62 0).a 1 (yg29 62 0).c, .bool false, .string ⟨⟨[111, 114, 100, 101, 114]⟩⟩, .bool false, .int .u8 6, .string ⟨⟨[]⟩⟩, .int .i64 0, .int .u8 0, .int .u8 0, .int .u8 0, .int .u8 0, .slice none 0 0, .slice (yg29 65 0).a 1 (yg29 65 0).c, .bool false] ([(TProp.mk [99, 111, 108, 111, 114] true (TVal.mk 7 [] 0 (TColor.mk 0 0 0 255)) [] ([7, 8] : List Int) false), (TProp.mk [98, 97, 99, 107, 103, 114, 111, 117, 110, 100, 45, 99, 111, 108, 111, 114] false (TVal.mk 7 [] 0 (TColor.mk 0 0 0 0)) [] ([7, 8] : List Int) false), (TProp.mk [98, 111, 114, 100, 101, 114, 45, 99, 111, 108, 111, 114] false (TVal.mk 8 [] 0 (TColor.mk 0 0 0 0)) [] ([7, 8] : List Int) false), (TProp.mk [111, 117, 116, 108, 105, 110, 101, 45, 99, 111, 108, 111, 114] false (TVal.mk 8 [] 0 (TColor.mk 0 0 0 0)) [] ([7, 8] : List Int) false), (TProp.mk [100, 105, 115, 112, 108, 97, 121] false y30 ([[98, 108, 111, 99, 107], [102, 108, 101, 120], [105, 110, 108, 105, 110, 101], [105, 110, 108, 105, 110, 101, 45, 98, 108, 111, 99, 107], [110, 111, 110, 101]] : List Str) [] false), (TProp.mk [118, 105, 115, 105, 98, 105, 108, 105, 116, 121] true y33 ([[99, 111, 108, 108, 97, 112, 115, 101], [104, 105, 100, 100, 101, 110], [118, 105, 115, 105, 98, 108, 101]] : List Str) [] false), (TProp.mk [119, 105, 100, 116, 104] false (TVal.mk 1 [97, 117, 116, 111] 0 (TColor.mk 0 0 0 0)) ([[97, 117, 116, 111]] : List Str) ([2, 3, 4] : List Int) true), (TProp.mk [104, 101, 105, 103, 104, 116] false (TVal.mk 1 [97, 117, 116, 111] 0 (TColor.mk 0 0 0 0)) ([[97, 117, 116, 111]] : List Str) ([2, 3, 4] : List Int) true), (TProp.mk [109, 97, 114, 103, 105, 110, 45, 116, 111, 112] false y40 ([[97, 117, 116, 111]] : List Str) ([2, 3, 4] : List Int) false), (TProp.mk [109, 97, 114, 103, 105, 110, 45, 114, 105, 103, 104, 116] false y43 ([[97, 117, 116, 111]] : List Str) ([2, 3, 4] : List Int) false), (TProp.mk [109, 97, 114, 103, 105, 110, 45, 98, 111, 116, 116, 111, 109] false y46 ([[97, 117, 116, 111]] : List Str) ([2, 3, 4] : List Int) false), (TProp.mk [109, 97, 114, 103, 105, 110, 45, 108, 101, 102, 116] false y49 ([[97, 117, 116, 111]] : List Str) ([2, 3, 4] : List Int) false), (TProp.mk [102, 111, 110, 116, 45, 115, 105, 122, 101] true y52 [] ([2, 3, 4] : List Int) true), (TProp.mk [108, 105, 110, 101, 45, 104, 101, 105, 103, 104, 116] true y53 ([[110, 111, 114, 109, 97, 108]] : List Str) q64 true), (TProp.mk [116, 101, 120, 116, 45, 97, 108, 105, 103, 110] true y66 ([[99, 101, 110, 116, 101, 114], [106, 117, 115, 116, 105, 102, 121], [108, 101, 102, 116], [114, 105, 103, 104, 116]] : List Str) [] false), (TProp.mk [111, 112, 97, 99, 105, 116, 121] false (TVal.mk 5 [] 1000 (TColor.mk 0 0 0 0)) [] ([5] : List Int) false), (TProp.mk [122, 45, 105, 110, 100, 101, 120] false (TVal.mk 1 [97, 117, 116, 111] 0 (TColor.mk 0 0 0 0)) ([[97, 117, 116, 111]] : List Str) ([6] : List Int) false), (TProp.mk [111, 114, 100, 101, 114] false (TVal.mk 6 [] 0 (TColor.mk 0 0 0 0)) [] ([6] : List Int) false)] : List TProp) [gL [Gh.nil, g10], gL [Gh.nil, g10], gL [Gh.nil, g10], gL [Gh.nil, g10], gL [(yg29 14 0), Gh.nil], gL [(yg29 17 0), Gh.nil], gL [(yg29 20 0), g16], gL [(yg29 24 0), g16], gL [(yg29 28 0), g16], gL [(yg29 32 0), g16], gL [(yg29 36 0), g16], gL [(yg29 40 0), g16], gL [Gh.nil, g16], gL [(yg29 47 0), (yg29 52 0)], gL [(yg29 55 0), Gh.nil], gL [Gh.nil, (yg29 58 0)], gL [(yg29 61 0), (yg29 62 0)], gL [Gh.nil, (yg29 65 0)]] _ H hd rfl (by kernel_rfl) (by kernel_rfl) (by kernel_rfl) (by kernel_rfl) (by kernel_rfl) (by kernel_rfl) (by kernel_rfl) rfl (InnL.cons (tyProp_mk SlG.nil (hd.im 0 rfl)) (InnL.cons (tyProp_mk SlG.nil (hd.im 0 rfl)) (InnL.cons (tyProp_mk SlG.nil (hd.im 0 rfl)) (InnL.cons (tyProp_mk SlG.nil (hd.im 0 rfl)) (InnL.cons (tyProp_mk (hd.im 1 rfl) SlG.nil) (InnL.cons (tyProp_mk (hd.im 2 rfl) SlG.nil) (InnL.cons (tyProp_mk (hd.im 3 rfl) (hd.im 4 rfl)) (InnL.cons (tyProp_mk (hd.im 5 rfl) (hd.im 4 rfl)) (InnL.cons (tyProp_mk (hd.im 6 rfl) (hd.im 4 rfl)) (InnL.cons (tyProp_mk (hd.im 7 rfl) (hd.im 4 rfl)) (InnL.cons (tyProp_mk (hd.im 8 rfl) (hd.im 4 rfl)) (InnL.cons (tyProp_mk (hd.im 9 rfl) (hd.im 4 rfl)) (InnL.cons (tyProp_mk SlG.nil (hd.im 4 rfl)) (InnL.cons (tyProp_mk (hd.im 10 rfl) (hd.im 11 rfl)) (InnL.cons (tyProp_mk (hd.im 12 rfl) SlG.nil) (InnL.cons (tyProp_mk SlG.nil (hd.im 13 rfl)) (InnL.cons (tyProp_mk (hd.im 14 rfl) (hd.im 15 rfl)) (InnL.cons (tyProp_mk SlG.nil (hd.im 16 rfl)) InnL.nil))))))))))))))))))) ?_
      rintro v w2 hq
      obtain ⟨g77, rfl, hq⟩ := hq
      replace hS : SH M X w [Ent.own 51 tyProp ([(TProp.mk [99, 111, 108, 111, 114] true (TVal.mk 7 [] 0 (TColor.mk 0 0 0 255)) [] ([7, 8] : List Int) false), (TProp.mk [98, 97, 99, 107, 103, 114, 111, 117, 110, 100, 45, 99, 111, 108, 111, 114] false (TVal.mk 7 [] 0 (TColor.mk 0 0 0 0)) [] ([7, 8] : List Int) false), (TProp.mk [98, 111, 114, 100, 101, 114, 45, 99, 111, 108, 111, 114] false (TVal.mk 8 [] 0 (TColor.mk 0 0 0 0)) [] ([7, 8] : List Int) false), (TProp.mk [111, 117, 116, 108, 105, 110, 101, 45, 99, 111, 108, 111, 114] false (TVal.mk 8 [] 0 (TColor.mk 0 0 0 0)) [] ([7, 8] : List Int) false), (TProp.mk [100, 105, 115, 112, 108, 97, 121] false y30 ([[98, 108, 111, 99, 107], [102, 108, 101, 120], [105, 110, 108, 105, 110, 101], [105, 110, 108, 105, 110, 101, 45, 98, 108, 111, 99, 107], [110, 111, 110, 101]] : List Str) [] false), (TProp.mk [118, 105, 115, 105, 98, 105, 108, 105, 116, 121] true y33 ([[99, 111, 108, 108, 97, 112, 115, 101], [104, 105, 100, 100, 101, 110], [118, 105, 115, 105, 98, 108, 101]] : List Str) [] false), (TProp.mk [119, 105, 100, 116, 104] false (TVal.mk 1 [97, 117, 116, 111] 0 (TColor.mk 0 0 0 0)) ([[97, 117, 116, 111]] : List Str) ([2, 3, 4] : List Int) true), (TProp.mk [104, 101, 105, 103, 104, 116] false (TVal.mk 1 [97, 117, 116, 111] 0 (TColor.mk 0 0 0 0)) ([[97, 117, 116, 111]] : List Str) ([2, 3, 4] : List Int) true), (TProp.mk [109, 97, 114, 103, 105, 110, 45, 116, 111, 112] false y40 ([[97, 117, 116, 111]] : List Str) ([2, 3, 4] : List Int) false), (TProp.mk [109, 97, 114, 103, 105, 110, 45, 114, 105, 103, 104, 116] false y43 ([[97, 117, 116, 111]] : List Str) ([2, 3, 4] : List Int) false), (TProp.mk [109, 97, 114, 103, 105, 110, 45, 98, 111, 116, 116, 111, 109] false y46 ([[97, 117, 116, 111]] : List Str) ([2, 3, 4] : List Int) false), (TProp.mk [109, 97, 114, 103, 105, 110, 45, 108, 101, 102, 116] false y49 ([[97, 117, 116, 111]] : List Str) ([2, 3, 4] : List Int) false), (TProp.mk [102, 111, 110, 116, 45, 115, 105, 122, 101] true y52 [] ([2, 3, 4] : List Int) true), (TProp.mk [108, 105, 110, 101, 45, 104, 101, 105, 103, 104, 116] true y53 ([[110, 111, 114, 109, 97, 108]] : List Str) q64 true), (TProp.mk [116, 101, 120, 116, 45, 97, 108, 105, 103, 110] true y66 ([[99, 101, 110, 116, 101, 114], [106, 117, 115, 116, 105, 102, 121], [108, 101, 102, 116], [114, 105, 103, 104, 116]] : List Str) [] false), (TProp.mk [111, 112, 97, 99, 105, 116, 121] false (TVal.mk 5 [] 1000 (TColor.mk 0 0 0 0)) [] ([5] : List Int) false), (TProp.mk [122, 45, 105, 110, 100, 101, 120] false (TVal.mk 1 [97, 117, 116, 111] 0 (TColor.mk 0 0 0 0)) ([[97, 117, 116, 111]] : List Str) ([6] : List Int) false), (TProp.mk [111, 114, 100, 101, 114] false (TVal.mk 6 [] 0 (TColor.mk 0 0 0 0)) [] ([6] : List Int) false)] : List TProp) g77, Ent.im (tI .u8) ([6] : List Int) (yg29 65 0), Ent.im (tI .u8) ([6] : List Int) (yg29 62 0), Ent.im tS ([[97, 117, 116, 111]] : List Str) (yg29 61 0), Ent.im (tI .u8) ([5] : List Int) (yg29 58 0), Ent.im tS ([[99, 101, 110, 116, 101, 114], [106, 117, 115, 116, 105, 102, 121], [108, 101, 102, 116], [114, 105, 103, 104, 116]] : List Str) (yg29 55 0), Ent.im (tI .u8) q64 (yg29 52 0), Ent.im tS ([[110, 111, 114, 109, 97, 108]] : List Str) (yg29 47 0), Ent.im tS ([[97, 117, 116, 111]] : List Str) (yg29 40 0), Ent.im tS ([[97, 117, 116, 111]] : List Str) (yg29 36 0), Ent.im tS ([[97, 117, 116, 111]] : List Str) (yg29 32 0), Ent.im tS ([[97, 117, 116, 111]] : List Str) (yg29 28 0), Ent.im tS ([[97, 117, 116, 111]] : List Str) (yg29 24 0), Ent.im (tI .u8) ([2, 3, 4] : List Int) g16, Ent.im tS ([[97, 117, 116, 111]] : List Str) (yg29 20 0), Ent.im tS ([[99, 111, 108, 108, 97, 112, 115, 101], [104, 105, 100, 100, 101, 110], [118, 105, 115, 105, 98, 108, 101]] : List Str) (yg29 17 0), Ent.im tS ([[98, 108, 111, 99, 107], [102, 108, 101, 120], [105, 110, 108, 105, 110, 101], [105, 110, 108, 105, 110, 101, 45, 98, 108, 111, 99, 107], [110, 111, 110, 101]] : List Str) (yg29 14 0), Ent.im (tI .u8) ([7, 8] : List Int) g10] _ := hS.join [16, 15, 14, 13, 12, 11, 10, 9, 8, 7, 6, 5, 4, 3, 2, 1, 0] [0, 1, 2, 3, 4, 5, 6, 7, 8, 9, 10, 11, 12, 13, 14, 15, 16] rfl rfl hq
      clear hq
      rw [hX] at hS
      exact ⟨gL [g77, g16, g10], fun _ _ => rfl, hS.sel [0, 1, 2, 3, 4, 5, 6, 7, 8, 9, 10, 11, 12, 13, 14, 15, 16, 17] rfl⟩
    · intro o ho a w yg29 M Hb hv hO hS0
      obtain rfl := Option.some.inj ho
      have H : Fr 77 ([(76, [], .slice (yg29 67 0).a 18 (yg29 67 0).c)] ++ [(1, [], .pointer (some ⟨b5, 0, none⟩)), (2, [], .slice g10.a 2 g10.c), (3, [], .slice g16.a 3 g16.c), (4, [], .pointer (some ⟨b24, 0, none⟩))]) _ := (Hb).add (hv 67 (by decide) (by decide) 76 rfl)
      obtain ⟨X, hX⟩ : ∃ X, X = fpl [Ent.own 51 tyProp ([(TProp.mk [99, 111, 108, 111, 114] true (TVal.mk 7 [] 0 (TColor.mk 0 0 0 255)) [] ([7, 8] : List Int) false), (TProp.mk [98, 97, 99, 107, 103, 114, 111, 117, 110, 100, 45, 99, 111, 108, 111, 114] false (TVal.mk 7 [] 0 (TColor.mk 0 0 0 0)) [] ([7, 8] : List Int) false), (TProp.mk [98, 111, 114, 100, 101, 114, 45, 99, 111, 108, 111, 114] false (TVal.mk 8 [] 0 (TColor.mk 0 0 0 0)) [] ([7, 8] : List Int) false), (TProp.mk [111, 117, 116, 108, 105, 110, 101, 45, 99, 111, 108, 111, 114] false (TVal.mk 8 [] 0 (TColor.mk 0 0 0 0)) [] ([7, 8] : List Int) false), (TProp.mk [100, 105, 115, 112, 108, 97, 121] false y30 ([[98, 108, 111, 99, 107], [102, 108, 101, 120], [105, 110, 108, 105, 110, 101], [105, 110, 108, 105, 110, 101, 45, 98, 108, 111, 99, 107], [110, 111, 110, 101]] : List Str) [] false), (TProp.mk [118, 105, 115, 105, 98, 105, 108, 105, 116, 121] true y33 ([[99, 111, 108, 108, 97, 112, 115, 101], [104, 105, 100, 100, 101, 110], [118, 105, 115, 105, 98, 108, 101]] : List Str) [] false), (TProp.mk [119, 105, 100, 116, 104] false (TVal.mk 1 [97, 117, 116, 111] 0 (TColor.mk 0 0 0 0)) ([[97, 117, 116, 111]] : List Str) ([2, 3, 4] : List Int) true), (TProp.mk [104, 101, 105, 103, 104, 116] false (TVal.mk 1 [97, 117, 116, 111] 0 (TColor.mk 0 0 0 0)) ([[97, 117, 116, 111]] : List Str) ([2, 3, 4] : List Int) true), (TProp.mk [109, 97, 114, 103, 105, 110, 45, 116, 111, 112] false y40 ([[97, 117, 116, 111]] : List Str) ([2, 3, 4] : List Int) false), (TProp.mk [109, 97, 114, 103, 105, 110, 45, 114, 105, 103, 104, 116] false y43 ([[97, 117, 116, 111]] : List Str) ([2, 3, 4] : List Int) false), (TProp.mk [109, 97, 114, 103, 105, 110, 45, 98, 111, 116, 116, 111, 109] false y46 ([[97, 117, 116, 111]] : List Str) ([2, 3, 4] : List Int) false), (TProp.mk [109, 97, 114, 103, 105, 110, 45, 108, 101, 102, 116] false y49 ([[97, 117, 116, 111]] : List Str) ([2, 3, 4] : List Int) false), (TProp.mk [102, 111, 110, 116, 45, 115, 105, 122, 101] true y52 [] ([2, 3, 4] : List Int) true), (TProp.mk [108, 105, 110, 101, 45, 104, 101, 105, 103, 104, 116] true y53 ([[110, 111, 114, 109, 97, 108]] : List Str) q64 true), (TProp.mk [116, 101, 120, 116, 45, 97, 108, 105, 103, 110] true y66 ([[99, 101, 110, 116, 101, 114], [106, 117, 115, 116, 105, 102, 121], [108, 101, 102, 116], [114, 105, 103, 104, 116]] : List Str) [] false), (TProp.mk [111, 112, 97, 99, 105, 116, 121] false (TVal.mk 5 [] 1000 (TColor.mk 0 0 0 0)) [] ([5] : List Int) false), (TProp.mk [122, 45, 105, 110, 100, 101, 120] false (TVal.mk 1 [97, 117, 116, 111] 0 (TColor.mk 0 0 0 0)) ([[97, 117, 116, 111]] : List Str) ([6] : List Int) false), (TProp.mk [111, 114, 100, 101, 114] false (TVal.mk 6 [] 0 (TColor.mk 0 0 0 0)) [] ([6] : List Int) false)] : List TProp) (yg29 67 0), Ent.im (tI .u8) ([6] : List Int) (yg29 65 0), Ent.im (tI .u8) ([6] : List Int) (yg29 62 0), Ent.im tS ([[97, 117, 116, 111]] : List Str) (yg29 61 0), Ent.im (tI .u8) ([5] : List Int) (yg29 58 0), Ent.im tS ([[99, 101, 110, 116, 101, 114], [106, 117, 115, 116, 105, 102, 121], [108, 101, 102, 116], [114, 105, 103, 104, 116]] : List Str) (yg29 55 0), Ent.im (tI .u8) q64 (yg29 52 0), Ent.im tS ([[110, 111, 114, 109, 97, 108]] : List Str) (yg29 47 0), Ent.im tS ([[97, 117, 116, 111]] : List Str) (yg29 40 0), Ent.im tS ([[97, 117, 116, 111]] : List Str) (yg29 36 0), Ent.im tS ([[97, 117, 116, 111]] : List Str) (yg29 32 0), Ent.im tS ([[97, 117, 116, 111]] : List Str) (yg29 28 0), Ent.im tS ([[97, 117, 116, 111]] : List Str) (yg29 24 0), Ent.im (tI .u8) ([2, 3, 4] : List Int) (yg29 67 1), Ent.im tS ([[97, 117, 116, 111]] : List Str) (yg29 20 0), Ent.im tS ([[99, 111, 108, 108, 97, 112, 115, 101], [104, 105, 100, 100, 101, 110], [118, 105, 115, 105, 98, 108, 101]] : List Str) (yg29 17 0), Ent.im tS ([[98, 108, 111, 99, 107], [102, 108, 101, 120], [105, 110, 108, 105, 110, 101], [105, 110, 108, 105, 110, 101, 45, 98, 108, 111, 99, 107], [110, 111, 110, 101]] : List Str) (yg29 14 0), Ent.im (tI .u8) ([7, 8] : List Int) (yg29 67 2)] := ⟨_, rfl⟩
      have hS : SH M X w [Ent.own 51 tyProp ([(TProp.mk [99, 111, 108, 111, 114] true (TVal.mk 7 [] 0 (TColor.mk 0 0 0 255)) [] ([7, 8] : List Int) false), (TProp.mk [98, 97, 99, 107, 103, 114, 111, 117, 110, 100, 45, 99, 111, 108, 111, 114] false (TVal.mk 7 [] 0 (TColor.mk 0 0 0 0)) [] ([7, 8] : List Int) false), (TProp.mk [98, 111, 114, 100, 101, 114, 45, 99, 111, 108, 111, 114] false (TVal.mk 8 [] 0 (TColor.mk 0 0 0 0)) [] ([7, 8] : List Int) false), (TProp.mk [111, 117, 116, 108, 105, 110, 101, 45, 99, 111, 108, 111, 114] false (TVal.mk 8 [] 0 (TColor.mk 0 0 0 0)) [] ([7, 8] : List Int) false), (TProp.mk [100, 105, 115, 112, 108, 97, 121] false y30 ([[98, 108, 111, 99, 107], [102, 108, 101, 120], [105, 110, 108, 105, 110, 101], [105, 110, 108, 105, 110, 101, 45, 98, 108, 111, 99, 107], [110, 111, 110, 101]] : List Str) [] false), (TProp.mk [118, 105, 115, 105, 98, 105, 108, 105, 116, 121] true y33 ([[99, 111, 108, 108, 97, 112, 115, 101], [104, 105, 100, 100, 101, 110], [118, 105, 115, 105, 98, 108, 101]] : List Str) [] false), (TProp.mk [119, 105, 100, 116, 104] false (TVal.mk 1 [97, 117, 116, 111] 0 (TColor.mk 0 0 0 0)) ([[97, 117, 116, 111]] : List Str) ([2, 3, 4] : List Int) true), (TProp.mk [104, 101, 105, 103, 104, 116] false (TVal.mk 1 [97, 117, 116, 111] 0 (TColor.mk 0 0 0 0)) ([[97, 117, 116, 111]] : List Str) ([2, 3, 4] : List Int) true), (TProp.mk [109, 97, 114, 103, 105, 110, 45, 116, 111, 112] false y40 ([[97, 117, 116, 111]] : List Str) ([2, 3, 4] : List Int) false), (TProp.mk [109, 97, 114, 103, 105, 110, 45, 114, 105, 103, 104, 116] false y43 ([[97, 117, 116, 111]] : List Str) ([2, 3, 4] : List Int) false), (TProp.mk [109, 97, 114, 103, 105, 110, 45, 98, 111, 116, 116, 111, 109] false y46 ([[97, 117, 116, 111]] : List Str) ([2, 3, 4] : List Int) false), (TProp.mk [109, 97, 114, 103, 105, 110, 45, 108, 101, 102, 116] false y49 ([[97, 117, 116, 111]] : List Str) ([2, 3, 4] : List Int) false), (TProp.mk [102, 111, 110, 116, 45, 115, 105, 122, 101] true y52 [] ([2, 3, 4] : List Int) true), (TProp.mk [108, 105, 110, 101, 45, 104, 101, 105, 103, 104, 116] true y53 ([[110, 111, 114, 109, 97, 108]] : List Str) q64 true), (TProp.mk [116, 101, 120, 116, 45, 97, 108, 105, 103, 110] true y66 ([[99, 101, 110, 116, 101, 114], [106, 117, 115, 116, 105, 102, 121], [108, 101, 102, 116], [114, 105, 103, 104, 116]] : List Str) [] false), (TProp.mk [111, 112, 97, 99, 105, 116, 121] false (TVal.mk 5 [] 1000 (TColor.mk 0 0 0 0)) [] ([5] : List Int) false), (TProp.mk [122, 45, 105, 110, 100, 101, 120] false (TVal.mk 1 [97, 117, 116, 111] 0 (TColor.mk 0 0 0 0)) ([[97, 117, 116, 111]] : List Str) ([6] : List Int) false), (TProp.mk [111, 114, 100, 101, 114] false (TVal.mk 6 [] 0 (TColor.mk 0 0 0 0)) [] ([6] : List Int) false)] : List TProp) (yg29 67 0), Ent.im (tI .u8) ([6] : List Int) (yg29 65 0), Ent.im (tI .u8) ([6] : List Int) (yg29 62 0), Ent.im tS ([[97, 117, 116, 111]] : List Str) (yg29 61 0), Ent.im (tI .u8) ([5] : List Int) (yg29 58 0), Ent.im tS ([[99, 101, 110, 116, 101, 114], [106, 117, 115, 116, 105, 102, 121], [108, 101, 102, 116], [114, 105, 103, 104, 116]] : List Str) (yg29 55 0), Ent.im (tI .u8) q64 (yg29 52 0), Ent.im tS ([[110, 111, 114, 109, 97, 108]] : List Str) (yg29 47 0), Ent.im tS ([[97, 117, 116, 111]] : List Str) (yg29 40 0), Ent.im tS ([[97, 117, 116, 111]] : List Str) (yg29 36 0), Ent.im tS ([[97, 117, 116, 111]] : List Str) (yg29 32 0), Ent.im tS ([[97, 117, 116, 111]] : List Str) (yg29 28 0), Ent.im tS ([[97, 117, 116, 111]] : List Str) (yg29 24 0), Ent.im (tI .u8) ([2, 3, 4] : List Int) (yg29 67 1), Ent.im tS ([[97, 117, 116, 111]] : List Str) (yg29 20 0), Ent.im tS ([[99, 111, 108, 108, 97, 112, 115, 101], [104, 105, 100, 100, 101, 110], [118, 105, 115, 105, 98, 108, 101]] : List Str) (yg29 17 0), Ent.im tS ([[98, 108, 111, 99, 107], [102, 108, 101, 120], [105, 110, 108, 105, 110, 101], [105, 110, 108, 105, 110, 101, 45, 98, 108, 111, 99, 107], [110, 111, 110, 101]] : List Str) (yg29 14 0), Ent.im (tI .u8) ([7, 8] : List Int) (yg29 67 2)] w := by rw [hX]; exact hS0
      refine Stp.mono (o_evs [] (.slice (yg29 67 0).a 18 (yg29 67 0).c) none [] H rfl (by kernel_rfl) (fun q e => by cases e)) ?_
      rintro v w2 ⟨rfl, hq⟩
      replace hS : SH M X w [Ent.own 51 tyProp ([(TProp.mk [99, 111, 108, 111, 114] true (TVal.mk 7 [] 0 (TColor.mk 0 0 0 255)) [] ([7, 8] : List Int) false), (TProp.mk [98, 97, 99, 107, 103, 114, 111, 117, 110, 100, 45, 99, 111, 108, 111, 114] false (TVal.mk 7 [] 0 (TColor.mk 0 0 0 0)) [] ([7, 8] : List Int) false), (TProp.mk [98, 111, 114, 100, 101, 114, 45, 99, 111, 108, 111, 114] false (TVal.mk 8 [] 0 (TColor.mk 0 0 0 0)) [] ([7, 8] : List Int) false), (TProp.mk [111, 117, 116, 108, 105, 110, 101, 45, 99, 111, 108, 111, 114] false (TVal.mk 8 [] 0 (TColor.mk 0 0 0 0)) [] ([7, 8] : List Int) false), (TProp.mk [100, 105, 115, 112, 108, 97, 121] false y30 ([[98, 108, 111, 99, 107], [102, 108, 101, 120], [105, 110, 108, 105, 110, 101], [105, 110, 108, 105, 110, 101, 45, 98, 108, 111, 99, 107], [110, 111, 110, 101]] : List Str) [] false), (TProp.mk [118, 105, 115, 105, 98, 105, 108, 105, 116, 121] true y33 ([[99, 111, 108, 108, 97, 112, 115, 101], [104, 105, 100, 100, 101, 110], [118, 105, 115, 105, 98, 108, 101]] : List Str) [] false), (TProp.mk [119, 105, 100, 116, 104] false (TVal.mk 1 [97, 117, 116, 111] 0 (TColor.mk 0 0 0 0)) ([[97, 117, 116, 111]] : List Str) ([2, 3, 4] : List Int) true), (TProp.mk [104, 101, 105, 103, 104, 116] false (TVal.mk 1 [97, 117, 116, 111] 0 (TColor.mk 0 0 0 0)) ([[97, 117, 116, 111]] : List Str) ([2, 3, 4] : List Int) true), (TProp.mk [109, 97, 114, 103, 105, 110, 45, 116, 111, 112] false y40 ([[97, 117, 116, 111]] : List Str) ([2, 3, 4] : List Int) false), (TProp.mk [109, 97, 114, 103, 105, 110, 45, 114, 105, 103, 104, 116] false y43 ([[97, 117, 116, 111]] : List Str) ([2, 3, 4] : List Int) false), (TProp.mk [109, 97, 114, 103, 105, 110, 45, 98, 111, 116, 116, 111, 109] false y46 ([[97, 117, 116, 111]] : List Str) ([2, 3, 4] : List Int) false), (TProp.mk [109, 97, 114, 103, 105, 110, 45, 108, 101, 102, 116] false y49 ([[97, 117, 116, 111]] : List Str) ([2, 3, 4] : List Int) false), (TProp.mk [102, 111, 110, 116, 45, 115, 105, 122, 101] true y52 [] ([2, 3, 4] : List Int) true), (TProp.mk [108, 105, 110, 101, 45, 104, 101, 105, 103, 104, 116] true y53 ([[110, 111, 114, 109, 97, 108]] : List Str) q64 true), (TProp.mk [116, 101, 120, 116, 45, 97, 108, 105, 103, 110] true y66 ([[99, 101, 110, 116, 101, 114], [106, 117, 115, 116, 105, 102, 121], [108, 101, 102, 116], [114, 105, 103, 104, 116]] : List Str) [] false), (TProp.mk [111, 112, 97, 99, 105, 116, 121] false (TVal.mk 5 [] 1000 (TColor.mk 0 0 0 0)) [] ([5] : List Int) false), (TProp.mk [122, 45, 105, 110, 100, 101, 120] false (TVal.mk 1 [97, 117, 116, 111] 0 (TColor.mk 0 0 0 0)) ([[97, 117, 116, 111]] : List Str) ([6] : List Int) false), (TProp.mk [111, 114, 100, 101, 114] false (TVal.mk 6 [] 0 (TColor.mk 0 0 0 0)) [] ([6] : List Int) false)] : List TProp) (yg29 67 0), Ent.im (tI .u8) ([6] : List Int) (yg29 65 0), Ent.im (tI .u8) ([6] : List Int) (yg29 62 0), Ent.im tS ([[97, 117, 116, 111]] : List Str) (yg29 61 0), Ent.im (tI .u8) ([5] : List Int) (yg29 58 0), Ent.im tS ([[99, 101, 110, 116, 101, 114], [106, 117, 115, 116, 105, 102, 121], [108, 101, 102, 116], [114, 105, 103, 104, 116]] : List Str) (yg29 55 0), Ent.im (tI .u8) q64 (yg29 52 0), Ent.im tS ([[110, 111, 114, 109, 97, 108]] : List Str) (yg29 47 0), Ent.im tS ([[97, 117, 116, 111]] : List Str) (yg29 40 0), Ent.im tS ([[97, 117, 116, 111]] : List Str) (yg29 36 0), Ent.im tS ([[97, 117, 116, 111]] : List Str) (yg29 32 0), Ent.im tS ([[97, 117, 116, 111]] : List Str) (yg29 28 0), Ent.im tS ([[97, 117, 116, 111]] : List Str) (yg29 24 0), Ent.im (tI .u8) ([2, 3, 4] : List Int) (yg29 67 1), Ent.im tS ([[97, 117, 116, 111]] : List Str) (yg29 20 0), Ent.im tS ([[99, 111, 108, 108, 97, 112, 115, 101], [104, 105, 100, 100, 101, 110], [118, 105, 115, 105, 98, 108, 101]] : List Str) (yg29 17 0), Ent.im tS ([[98, 108, 111, 99, 107], [102, 108, 101, 120], [105, 110, 108, 105, 110, 101], [105, 110, 108, 105, 110, 101, 45, 98, 108, 111, 99, 107], [110, 111, 110, 101]] : List Str) (yg29 14 0), Ent.im (tI .u8) ([7, 8] : List Int) (yg29 67 2)] _ := hS.below hq.below
      rw [hX] at hS
      exact ⟨gL [], fun _ _ => rfl, hS.sel [0, 1, 2, 3, 4, 5, 6, 7, 8, 9, 10, 11, 12, 13, 14, 15, 16, 17] rfl⟩
  have H81 : Fr 77 [(0, [], .slice (yg29 67 0).a 18 (yg29 67 0).c)] _ := (Fr.add (Fr.keep (ks := []) H80 (by kernel_rfl)) (hv 68 0 rfl))
  replace hS : SH M X w [Ent.own 5 (tI .u8) ([5] : List Int) (yg29 51 0), Ent.own 51 tyProp ([(TProp.mk [99, 111, 108, 111, 114] true (TVal.mk 7 [] 0 (TColor.mk 0 0 0 255)) [] ([7, 8] : List Int) false), (TProp.mk [98, 97, 99, 107, 103, 114, 111, 117, 110, 100, 45, 99, 111, 108, 111, 114] false (TVal.mk 7 [] 0 (TColor.mk 0 0 0 0)) [] ([7, 8] : List Int) false), (TProp.mk [98, 111, 114, 100, 101, 114, 45, 99, 111, 108, 111, 114] false (TVal.mk 8 [] 0 (TColor.mk 0 0 0 0)) [] ([7, 8] : List Int) false), (TProp.mk [111, 117, 116, 108, 105, 110, 101, 45, 99, 111, 108, 111, 114] false (TVal.mk 8 [] 0 (TColor.mk 0 0 0 0)) [] ([7, 8] : List Int) false), (TProp.mk [100, 105, 115, 112, 108, 97, 121] false y30 ([[98, 108, 111, 99, 107], [102, 108, 101, 120], [105, 110, 108, 105, 110, 101], [105, 110, 108, 105, 110, 101, 45, 98, 108, 111, 99, 107], [110, 111, 110, 101]] : List Str) [] false), (TProp.mk [118, 105, 115, 105, 98, 105, 108, 105, 116, 121] true y33 ([[99, 111, 108, 108, 97, 112, 115, 101], [104, 105, 100, 100, 101, 110], [118, 105, 115, 105, 98, 108, 101]] : List Str) [] false), (TProp.mk [119, 105, 100, 116, 104] false (TVal.mk 1 [97, 117, 116, 111] 0 (TColor.mk 0 0 0 0)) ([[97, 117, 116, 111]] : List Str) ([2, 3, 4] : List Int) true), (TProp.mk [104, 101, 105, 103, 104, 116] false (TVal.mk 1 [97, 117, 116, 111] 0 (TColor.mk 0 0 0 0)) ([[97, 117, 116, 111]] : List Str) ([2, 3, 4] : List Int) true), (TProp.mk [109, 97, 114, 103, 105, 110, 45, 116, 111, 112] false y40 ([[97, 117, 116, 111]] : List Str) ([2, 3, 4] : List Int) false), (TProp.mk [109, 97, 114, 103, 105, 110, 45, 114, 105, 103, 104, 116] false y43 ([[97, 117, 116, 111]] : List Str) ([2, 3, 4] : List Int) false), (TProp.mk [109, 97, 114, 103, 105, 110, 45, 98, 111, 116, 116, 111, 109] false y46 ([[97, 117, 116, 111]] : List Str) ([2, 3, 4] : List Int) false), (TProp.mk [109, 97, 114, 103, 105, 110, 45, 108, 101, 102, 116] false y49 ([[97, 117, 116, 111]] : List Str) ([2, 3, 4] : List Int) false), (TProp.mk [102, 111, 110, 116, 45, 115, 105, 122, 101] true y52 [] ([2, 3, 4] : List Int) true), (TProp.mk [108, 105, 110, 101, 45, 104, 101, 105, 103, 104, 116] true y53 ([[110, 111, 114, 109, 97, 108]] : List Str) q64 true), (TProp.mk [116, 101, 120, 116, 45, 97, 108, 105, 103, 110] true y66 ([[99, 101, 110, 116, 101, 114], [106, 117, 115, 116, 105, 102, 121], [108, 101, 102, 116], [114, 105, 103, 104, 116]] : List Str) [] false), (TProp.mk [111, 112, 97, 99, 105, 116, 121] false (TVal.mk 5 [] 1000 (TColor.mk 0 0 0 0)) [] ([5] : List Int) false), (TProp.mk [122, 45, 105, 110, 100, 101, 120] false (TVal.mk 1 [97, 117, 116, 111] 0 (TColor.mk 0 0 0 0)) ([[97, 117, 116, 111]] : List Str) ([6] : List Int) false), (TProp.mk [111, 114, 100, 101, 114] false (TVal.mk 6 [] 0 (TColor.mk 0 0 0 0)) [] ([6] : List Int) false)] : List TProp) (yg29 67 0), Ent.im (tI .u8) ([6] : List Int) (yg29 65 0), Ent.im (tI .u8) ([6] : List Int) (yg29 62 0), Ent.im tS ([[97, 117, 116, 111]] : List Str) (yg29 61 0), Ent.im (tI .u8) ([5] : List Int) (yg29 58 0), Ent.im tS ([[99, 101, 110, 116, 101, 114], [106, 117, 115, 116, 105, 102, 121], [108, 101, 102, 116], [114, 105, 103, 104, 116]] : List Str) (yg29 55 0), Ent.im (tI .u8) q64 (yg29 52 0), Ent.im tS ([[110, 111, 114, 109, 97, 108]] : List Str) (yg29 47 0), Ent.im tS ([[97, 117, 116, 111]] : List Str) (yg29 40 0), Ent.im tS ([[97, 117, 116, 111]] : List Str) (yg29 36 0), Ent.im tS ([[97, 117, 116, 111]] : List Str) (yg29 32 0), Ent.im tS ([[97, 117, 116, 111]] : List Str) (yg29 28 0), Ent.im tS ([[97, 117, 116, 111]] : List Str) (yg29 24 0), Ent.im (tI .u8) ([2, 3, 4] : List Int) (yg29 67 1), Ent.im tS ([[97, 117, 116, 111]] : List Str) (yg29 20 0), Ent.im tS ([[99, 111, 108, 108, 97, 112, 115, 101], [104, 105, 100, 100, 101, 110], [118, 105, 115, 105, 98, 108, 101]] : List Str) (yg29 17 0), Ent.im tS ([[98, 108, 111, 99, 107], [102, 108, 101, 120], [105, 110, 108, 105, 110, 101], [105, 110, 108, 105, 110, 101, 45, 98, 108, 111, 99, 107], [110, 111, 110, 101]] : List Str) (yg29 14 0), Ent.im (tI .u8) ([7, 8] : List Int) (yg29 67 2), Ent.blk b24 [.int .u8 1, .string ⟨⟨[97, 117, 116, 111]⟩⟩, .int .i64 0, .int .u8 0, .int .u8 0, .int .u8 0, .int .u8 0], Ent.blk b5 [.int .u8 8, .string ⟨⟨[]⟩⟩, .int .i64 0, .int .u8 0, .int .u8 0, .int .u8 0, .int .u8 0]] _ := hS
  clear hv H80
  generalize yg29 67 0 = g82 at H81 hS
  generalize yg29 51 0 = g83 at H81 hS
  generalize yg29 65 0 = g84 at H81 hS
  generalize yg29 62 0 = g85 at H81 hS
  generalize yg29 61 0 = g86 at H81 hS
  generalize yg29 58 0 = g87 at H81 hS
  generalize yg29 55 0 = g88 at H81 hS
  generalize yg29 52 0 = g89 at H81 hS
  generalize yg29 47 0 = g90 at H81 hS
  generalize yg29 40 0 = g91 at H81 hS
  generalize yg29 36 0 = g92 at H81 hS
  generalize yg29 32 0 = g93 at H81 hS
  generalize yg29 28 0 = g94 at H81 hS
  generalize yg29 24 0 = g95 at H81 hS
  generalize yg29 67 1 = g96 at H81 hS
  generalize yg29 20 0 = g97 at H81 hS
  generalize yg29 17 0 = g98 at H81 hS
  generalize yg29 14 0 = g99 at H81 hS
  generalize yg29 67 2 = g100 at H81 hS
  replace hS : SH M X w [Ent.own 51 tyProp ([(TProp.mk [99, 111, 108, 111, 114] true (TVal.mk 7 [] 0 (TColor.mk 0 0 0 255)) [] ([7, 8] : List Int) false), (TProp.mk [98, 97, 99, 107, 103, 114, 111, 117, 110, 100, 45, 99, 111, 108, 111, 114] false (TVal.mk 7 [] 0 (TColor.mk 0 0 0 0)) [] ([7, 8] : List Int) false), (TProp.mk [98, 111, 114, 100, 101, 114, 45, 99, 111, 108, 111, 114] false (TVal.mk 8 [] 0 (TColor.mk 0 0 0 0)) [] ([7, 8] : List Int) false), (TProp.mk [111, 117, 116, 108, 105, 110, 101, 45, 99, 111, 108, 111, 114] false (TVal.mk 8 [] 0 (TColor.mk 0 0 0 0)) [] ([7, 8] : List Int) false), (TProp.mk [100, 105, 115, 112, 108, 97, 121] false y30 ([[98, 108, 111, 99, 107], [102, 108, 101, 120], [105, 110, 108, 105, 110, 101], [105, 110, 108, 105, 110, 101, 45, 98, 108, 111, 99, 107], [110, 111, 110, 101]] : List Str) [] false), (TProp.mk [118, 105, 115, 105, 98, 105, 108, 105, 116, 121] true y33 ([[99, 111, 108, 108, 97, 112, 115, 101], [104, 105, 100, 100, 101, 110], [118, 105, 115, 105, 98, 108, 101]] : List Str) [] false), (TProp.mk [119, 105, 100, 116, 104] false (TVal.mk 1 [97, 117, 116, 111] 0 (TColor.mk 0 0 0 0)) ([[97, 117, 116, 111]] : List Str) ([2, 3, 4] : List Int) true), (TProp.mk [104, 101, 105, 103, 104, 116] false (TVal.mk 1 [97, 117, 116, 111] 0 (TColor.mk 0 0 0 0)) ([[97, 117, 116, 111]] : List Str) ([2, 3, 4] : List Int) true), (TProp.mk [109, 97, 114, 103, 105, 110, 45, 116, 111, 112] false y40 ([[97, 117, 116, 111]] : List Str) ([2, 3, 4] : List Int) false), (TProp.mk [109, 97, 114, 103, 105, 110, 45, 114, 105, 103, 104, 116] false y43 ([[97, 117, 116, 111]] : List Str) ([2, 3, 4] : List Int) false), (TProp.mk [109, 97, 114, 103, 105, 110, 45, 98, 111, 116, 116, 111, 109] false y46 ([[97, 117, 116, 111]] : List Str) ([2, 3, 4] : List Int) false), (TProp.mk [109, 97, 114, 103, 105, 110, 45, 108, 101, 102, 116] false y49 ([[97, 117, 116, 111]] : List Str) ([2, 3, 4] : List Int) false), (TProp.mk [102, 111, 110, 116, 45, 115, 105, 122, 101] true y52 [] ([2, 3, 4] : List Int) true), (TProp.mk [108, 105, 110, 101, 45, 104, 101, 105, 103, 104, 116] true y53 ([[110, 111, 114, 109, 97, 108]] : List Str) q64 true), (TProp.mk [116, 101, 120, 116, 45, 97, 108, 105, 103, 110] true y66 ([[99, 101, 110, 116, 101, 114], [106, 117, 115, 116, 105, 102, 121], [108, 101, 102, 116], [114, 105, 103, 104, 116]] : List Str) [] false), (TProp.mk [111, 112, 97, 99, 105, 116, 121] false (TVal.mk 5 [] 1000 (TColor.mk 0 0 0 0)) [] ([5] : List Int) false), (TProp.mk [122, 45, 105, 110, 100, 101, 120] false (TVal.mk 1 [97, 117, 116, 111] 0 (TColor.mk 0 0 0 0)) ([[97, 117, 116, 111]] : List Str) ([6] : List Int) false), (TProp.mk [111, 114, 100, 101, 114] false (TVal.mk 6 [] 0 (TColor.mk 0 0 0 0)) [] ([6] : List Int) false)] : List TProp) g82] _ := hS.sel [1] rfl
  refine w_ret ?_
  obtain rfl := someE hm
  exact retR1 H81 rfl rfl ⟨_, rfl, g82, rfl, (hS.sel [0] rfl)⟩
theorem r25_Table_ok   (r : List TProp) (hm : r25_Table = some r) (M : Av) (w : World) (hS : S0 M [] w) : DoesX Tryd.prog 23 ⟨[]⟩ w (fun v w' => ∃ (g901 : Gh), v = .slice g901.a r.length g901.c ∧ SH M (fpl []) w [Ent.own 51 tyProp r g901] w') := ⟨Tryd.call23 _, r25_Table_w M    r hm w hS⟩

def r25_Find_L1 (m : Nat) (s : Str) (y3 : List TProp) : Nat → Int → Option (Sum (Int × Int) (Unit))
  | 0, _ => none
  | kk + 1, v13 =>
    cond (decide (v13 < (ln y3))) (
    chk (0 ≤ v13 ∧ v13 < ln y3) <|
    cond (((gi y3 v13).Name) == s) (
    some (.inl (v13, 0))) (
    r25_Find_L1 m s y3 kk (w64 (v13 + 1)))) (
    some (.inr ()))
def r25_Find (m : Nat) (s : Str) : Option (Int × Int) :=
  Option.bind (r25_Table) fun y3 =>
  Option.bind (
  r25_Find_L1 m s y3 m 0) fun (z10 : Sum (Int × Int) (Unit)) => sumK z10 fun s_z10 =>
  some (0, 6)
theorem r25_Find_w  (M : Av) (m : Nat) (s : Str) (r : Int × Int) (hm : r25_Find m s = some r) (w : World) (hS : S0 M [] w) : Calls Tryd.prog 10 ⟨[.string ⟨⟨s⟩⟩]⟩ w (fun e w' => ∃ v, e = .returned v ∧ v = .tuple ⟨[.int .i64 r.1, .int .i64 r.2]⟩ ∧ SH M (fpl []) w [] w') := by
  rw [r25_Find] at hm
  have hS0 : SH M (fpl []) w [] w := hS
  generalize hX : fpl [] = X at hS0 ⊢
  clear hS hX
  have hS := hS0
  clear hS0
  refine calls_entryP Tryd.func10 rfl Tryd.ntmps10 rfl fun _ H => ?_
  refine s_reg [] [0] [(0, [], .string ⟨⟨s⟩⟩)] [] H (by kernel_rfl) trivial fun _ wd1 H2 hb => ?_
  clear H
  replace hS := hS.below hb
  clear hb
  refine w_seq ?_
  refine wl_start ?_
  obtain ⟨y3, hy3, hm⟩ := bindE hm
  have hd : S0 (AvL M []) [] _ := hS.hand [] [] rfl rfl
  refine m_stp [6, 0] [(0, [], .string ⟨⟨s⟩⟩)] H2 rfl rfl rfl rfl (o_callx H2 rfl rfl (r25_Table_ok _ hy3 _ _ hd)) (fun _ => rfl) fun _ wd6 v H7 hq => ?_
  clear H2 hd
  obtain ⟨g4, rfl, hq⟩ := hq
  replace hS : SH M X w [Ent.own 51 tyProp y3 g4] _ := hS.join [] [] rfl rfl hq
  clear hq
  refine wl_batch 1 2 [] [0, 4] [(0, [], .string ⟨⟨s⟩⟩), (4, [], .slice g4.a y3.length g4.c)] [] H7 (by decide) (by kernel_rfl) trivial fun _ wd8 H9 hb => ?_
  clear H7
  replace hS := hS.below hb
  clear hb
  refine wl_end rfl ?_
  obtain ⟨z10, hz, hm_z10⟩ := bindE hm
  refine w_cut (fun a' w' => ∃ s_z10 : Unit, z10 = Sum.inr s_z10 ∧ Fr 21 [] a' ∧ SH M X w [Ent.own 51 tyProp y3 g4] w') ?_ ?_
  · replace hm := hz
    refine s_reg [] [0, 4, 5] [(0, [], .string ⟨⟨s⟩⟩), (4, [], .slice g4.a y3.length g4.c), (5, [], .int .i64 0)] [] H9 (by kernel_rfl) trivial fun _ wd11 H12 hb => ?_
    clear H9
    replace hS := hS.below hb
    clear hb
    refine w_block ?_
    refine w_loop (fun kk a' w' => ∃ (v13 : Int), r25_Find_L1 m s y3 kk v13 = some _ ∧ Fr 21 [(0, [], .string ⟨⟨s⟩⟩), (4, [], .slice g4.a y3.length g4.c), (5, [], .int .i64 v13)] a' ∧ SH M X w [Ent.own 51 tyProp y3 g4] w') ⟨_, 0, hm, Fr.keep (ks := [0, 4, 5]) H12 (by kernel_rfl), hS⟩ ?_
    clear hm H12 hS
    rintro kk _ wd23 ⟨v13, hm, H, hS⟩
    cases kk with
    | zero => exact noneE hm
    | succ kk =>
      rw [r25_Find_L1] at hm
      refine w_seq ?_
      refine s_reg [] [0, 4, 5, 10] [(0, [], .string ⟨⟨s⟩⟩), (4, [], .slice g4.a y3.length g4.c), (5, [], .int .i64 v13), (10, [], .bool (decide (v13 < (ln y3))))] [] H (by kernel_rfl) trivial fun _ wd14 H15 hb => ?_
      clear H
      replace hS := hS.below hb
      clear hb
      refine w_if H15 rfl (fun hc => ?_) (fun hc => ?_)
      · replace hm := bT hc hm
        refine w_skip ?_
        refine w_seq ?_
        refine w_block ?_
        obtain ⟨ho16, hm⟩ := chkE hm
        refine s_reg [(.string ⟨⟨(gi y3 v13).Name⟩⟩)] [0, 4, 5, 19] [(0, [], .string ⟨⟨s⟩⟩), (4, [], .slice g4.a y3.length g4.c), (5, [], .int .i64 v13), (19, [], .bool (((gi y3 v13).Name) == s))] [fun _ => oka g4.a ∧ 0 ≤ v13 ∧ v13 < ln y3, fun wz => V.at1 ⟨ab g4.a, ao g4.a + (v13).toNat * 12, none⟩ (.string ⟨⟨(gi y3 v13).Name⟩⟩) wz] H15 (by kernel_rfl) ⟨((hS.osl 0 rfl).oki ho16), ((hS.osl 0 rfl).at1 ho16 0 rfl), trivial⟩ fun _ wd17 H18 hb => ?_
        clear H15
        replace hS := hS.below hb
        clear hb
        refine w_if H18 rfl (fun hc => ?_) (fun hc => ?_)
        · replace hm := bT hc hm
          refine s_reg [] [2, 3] [(2, [], .int .i64 v13), (3, [], .int .i64 0)] [] H18 (by kernel_rfl) trivial fun _ wd19 H20 hb => ?_
          clear H18
          replace hS := hS.below hb
          clear hb
          refine w_ret ?_
          obtain rfl := someE hm
          have hm := hm_z10
          obtain rfl := someE hm
          exact retR2 H20 rfl rfl rfl ⟨_, rfl, rfl, (hS.sel [] rfl)⟩
        · replace hm := bF hc hm
          refine w_skip ?_
          refine w_reg [] [0, 4, 5] [(0, [], .string ⟨⟨s⟩⟩), (4, [], .slice g4.a y3.length g4.c), (5, [], .int .i64 (w64 (v13 + 1)))] [] H18 (by kernel_rfl) trivial fun _ wd21 H22 hb => ?_
          clear H18
          replace hS := hS.below hb
          clear hb
          exact ⟨_, Nat.lt_succ_self _, w64 (v13 + 1), hm, Fr.keep (ks := [0, 4, 5]) H22 (by kernel_rfl), hS⟩
      · replace hm := bF hc hm
        refine w_exit rfl ?_
        obtain rfl := someE hm
        exact ⟨_, rfl, Fr.keep (ks := []) H15 (by kernel_rfl), hS⟩
  · rintro _ wd26 ⟨s_z10, hz, H, hS⟩
    subst hz
    replace hm := sumR hm_z10
    replace hS : SH M X w [] _ := hS.sel [] rfl
    refine s_reg [] [2, 3] [(2, [], .int .i64 0), (3, [], .int .i64 6)] [] H (by kernel_rfl) trivial fun _ wd24 H25 hb => ?_
    clear H
    replace hS := hS.below hb
    clear hb
    refine w_ret ?_
    obtain rfl := someE hm
    exact retR2 H25 rfl rfl rfl ⟨_, rfl, rfl, (hS.sel [] rfl)⟩
theorem r25_Find_ok  (m : Nat) (s : Str) (r : Int × Int) (hm : r25_Find m s = some r) : Ret Tryd.prog 10 ⟨[.string ⟨⟨s⟩⟩]⟩ (.tuple ⟨[.int .i64 r.1, .int .i64 r.2]⟩) := retP_of (Tryd.call10 _) (fun w h => r25_Find_w F0 m   s r hm w h)

def stringslite_HasPrefix (s : Str) (prefix_ : Str) : Option (Bool) :=
  chk ((decide ((ln prefix_) ≤ (ln s))) = true → 0 ≤ (ln prefix_) ∧ (ln prefix_) ≤ ln s) <|
  lt (cond (decide ((ln prefix_) ≤ (ln s))) ((sub s 0 (ln prefix_)) == prefix_) false) fun x4 =>
  some x4
theorem stringslite_HasPrefix_w  (M : Av) (s : Str) (prefix_ : Str) (r : Bool) (hm : stringslite_HasPrefix s prefix_ = some r) (w : World) (hS : S0 M [] w) : Calls Tryd.prog 39 ⟨[.string ⟨⟨s⟩⟩, .string ⟨⟨prefix_⟩⟩]⟩ w (fun e w' => ∃ v, e = .returned v ∧ v = .bool r ∧ SH M (fpl []) w [] w') := by
  rw [stringslite_HasPrefix] at hm
  have hS0 : SH M (fpl []) w [] w := hS
  generalize hX : fpl [] = X at hS0 ⊢
  clear hS hX
  have hS := hS0
  clear hS0
  refine calls_entryP Tryd.func39 rfl Tryd.ntmps39 rfl fun _ H => ?_
  refine s_reg [] [0, 1] [(0, [], .string ⟨⟨s⟩⟩), (1, [], .string ⟨⟨prefix_⟩⟩)] [] H (by kernel_rfl) trivial fun _ wd1 H2 hb => ?_
  clear H
  replace hS := hS.below hb
  clear hb
  obtain ⟨ho3, hm⟩ := chkE hm
  obtain ⟨x4, hx4, hm⟩ := letE hm
  refine s_reg [] [4] [(4, [], .bool x4)] [fun _ => ((decide ((ln prefix_) ≤ (ln s))) = true ∧ True → 0 ≤ (ln prefix_) ∧ (ln prefix_) ≤ ln s)] H2 (by subst hx4; kernel_rfl) ⟨fun hg => (ho3 hg.1), trivial⟩ fun _ wd5 H6 hb => ?_
  clear H2
  replace hS := hS.below hb
  clear hb
  refine w_ret ?_
  obtain rfl := someE hm
  exact retR1 H6 rfl rfl ⟨_, rfl, rfl, (hS.sel [] rfl)⟩
theorem stringslite_HasPrefix_ok  (s : Str) (prefix_ : Str) (r : Bool) (hm : stringslite_HasPrefix s prefix_ = some r) : Ret Tryd.prog 39 ⟨[.string ⟨⟨s⟩⟩, .string ⟨⟨prefix_⟩⟩]⟩ (.bool r) := retP_of (Tryd.call39 _) (fun w h => stringslite_HasPrefix_w F0   s prefix_ r hm w h)

def strings_HasPrefix (s : Str) (prefix_ : Str) : Option (Bool) :=
  Option.bind (stringslite_HasPrefix s prefix_) fun y3 =>
  some y3
theorem strings_HasPrefix_w  (M : Av) (s : Str) (prefix_ : Str) (r : Bool) (hm : strings_HasPrefix s prefix_ = some r) (w : World) (hS : S0 M [] w) : Calls Tryd.prog 29 ⟨[.string ⟨⟨s⟩⟩, .string ⟨⟨prefix_⟩⟩]⟩ w (fun e w' => ∃ v, e = .returned v ∧ v = .bool r ∧ SH M (fpl []) w [] w') := by
  rw [strings_HasPrefix] at hm
  have hS0 : SH M (fpl []) w [] w := hS
  generalize hX : fpl [] = X at hS0 ⊢
  clear hS hX
  have hS := hS0
  clear hS0
  refine calls_entryP Tryd.func29 rfl Tryd.ntmps29 rfl fun _ H => ?_
  refine s_reg [] [0, 1] [(0, [], .string ⟨⟨s⟩⟩), (1, [], .string ⟨⟨prefix_⟩⟩)] [] H (by kernel_rfl) trivial fun _ wd1 H2 hb => ?_
  clear H
  replace hS := hS.below hb
  clear hb
  obtain ⟨y3, hy3, hm⟩ := bindE hm
  refine s_reg [(.bool y3)] [4] [(4, [], .bool y3)] [fun wz => RetB Tryd.prog 39 ⟨[.string ⟨⟨s⟩⟩, .string ⟨⟨prefix_⟩⟩]⟩ (.bool y3) wz] H2 (by kernel_rfl) ⟨((stringslite_HasPrefix_ok _ _ _ hy3).b), trivial⟩ fun _ wd4 H5 hb => ?_
  clear H2
  replace hS := hS.below hb
  clear hb
  refine w_ret ?_
  obtain rfl := someE hm
  exact retR1 H5 rfl rfl ⟨_, rfl, rfl, (hS.sel [] rfl)⟩
theorem strings_HasPrefix_ok  (s : Str) (prefix_ : Str) (r : Bool) (hm : strings_HasPrefix s prefix_ = some r) : Ret Tryd.prog 29 ⟨[.string ⟨⟨s⟩⟩, .string ⟨⟨prefix_⟩⟩]⟩ (.bool r) := retP_of (Tryd.call29 _) (fun w h => strings_HasPrefix_w F0   s prefix_ r hm w h)

def props_Custom (name_ : Str) : Option (Bool) :=
  Option.bind (strings_HasPrefix name_ [45, 45]) fun y3 =>
  lt (cond (cond y3 (decide (2 < (ln name_))) false) (decide ((ln name_) ≤ 64)) false) fun x4 =>
  some x4
theorem props_Custom_w  (M : Av) (name_ : Str) (r : Bool) (hm : props_Custom name_ = some r) (w : World) (hS : S0 M [] w) : Calls Tryd.prog 15 ⟨[.string ⟨⟨name_⟩⟩]⟩ w (fun e w' => ∃ v, e = .returned v ∧ v = .bool r ∧ SH M (fpl []) w [] w') := by
  rw [props_Custom] at hm
  have hS0 : SH M (fpl []) w [] w := hS
  generalize hX : fpl [] = X at hS0 ⊢
  clear hS hX
  have hS := hS0
  clear hS0
  refine calls_entryP Tryd.func15 rfl Tryd.ntmps15 rfl fun _ H => ?_
  refine s_reg [] [0] [(0, [], .string ⟨⟨name_⟩⟩)] [] H (by kernel_rfl) trivial fun _ wd1 H2 hb => ?_
  clear H
  replace hS := hS.below hb
  clear hb
  obtain ⟨y3, hy3, hm⟩ := bindE hm
  obtain ⟨x4, hx4, hm⟩ := letE hm
  refine s_reg [(.bool y3)] [2] [(2, [], .bool x4)] [fun wz => RetB Tryd.prog 29 ⟨[.string ⟨⟨name_⟩⟩, .string ⟨⟨[45, 45]⟩⟩]⟩ (.bool y3) wz] H2 (by subst hx4; kernel_rfl) ⟨((strings_HasPrefix_ok _ _ _ hy3).b), trivial⟩ fun _ wd5 H6 hb => ?_
  clear H2
  replace hS := hS.below hb
  clear hb
  refine w_ret ?_
  obtain rfl := someE hm
  exact retR1 H6 rfl rfl ⟨_, rfl, rfl, (hS.sel [] rfl)⟩
theorem props_Custom_ok  (name_ : Str) (r : Bool) (hm : props_Custom name_ = some r) : Ret Tryd.prog 15 ⟨[.string ⟨⟨name_⟩⟩]⟩ (.bool r) := retP_of (Tryd.call15 _) (fun w h => props_Custom_w F0   name_ r hm w h)

def props_Inherited (m : Nat) (name_ : Str) : Option (Bool × Int) :=
  Option.bind (props_Custom name_) fun y3 =>
  cond y3 (
  some (true, 0)) (
  Option.bind (props_Find m name_) fun y8 =>
  cond (y8.2 != 0) (
  some (false, y8.2)) (
  Option.bind (props_Table m) fun y15 =>
  chk (0 ≤ y8.1 ∧ y8.1 < ln y15) <|
  some ((gi y15 y8.1).Inherited, 0)))
theorem props_Inherited_w  (M : Av) (m : Nat) (name_ : Str) (r : Bool × Int) (hm : props_Inherited m name_ = some r) (w : World) (hS : S0 M [Ent.im (tI .u8) gl_strings_asciiSpace (Gh.mk (some ⟨0, 0, none⟩) 256 fun _ _ => .nil)] w) : Calls Tryd.prog 11 ⟨[.string ⟨⟨name_⟩⟩]⟩ w (fun e w' => ∃ v, e = .returned v ∧ v = .tuple ⟨[.bool r.1, .int .i64 r.2]⟩ ∧ SH M (fpl [Ent.im (tI .u8) gl_strings_asciiSpace (Gh.mk (some ⟨0, 0, none⟩) 256 fun _ _ => .nil)]) w [] w') := by
  rw [props_Inherited] at hm
  have hS0 : SH M (fpl [Ent.im (tI .u8) gl_strings_asciiSpace (Gh.mk (some ⟨0, 0, none⟩) 256 fun _ _ => .nil)]) w [Ent.im (tI .u8) gl_strings_asciiSpace (Gh.mk (some ⟨0, 0, none⟩) 256 fun _ _ => .nil)] w := hS
  generalize hX : fpl [Ent.im (tI .u8) gl_strings_asciiSpace (Gh.mk (some ⟨0, 0, none⟩) 256 fun _ _ => .nil)] = X at hS0 ⊢
  clear hS hX
  have hS := hS0
  clear hS0
  refine calls_entryP Tryd.func11 rfl Tryd.ntmps11 rfl fun _ H => ?_
  refine s_reg [] [0] [(0, [], .string ⟨⟨name_⟩⟩)] [] H (by kernel_rfl) trivial fun _ wd1 H2 hb => ?_
  clear H
  replace hS := hS.below hb
  clear hb
  refine w_seq ?_
  obtain ⟨y3, hy3, hm⟩ := bindE hm
  refine s_reg [(.bool y3)] [0, 7] [(0, [], .string ⟨⟨name_⟩⟩), (7, [], .bool y3)] [fun wz => RetB Tryd.prog 15 ⟨[.string ⟨⟨name_⟩⟩]⟩ (.bool y3) wz] H2 (by kernel_rfl) ⟨((props_Custom_ok _ _ hy3).b), trivial⟩ fun _ wd4 H5 hb => ?_
  clear H2
  replace hS := hS.below hb
  clear hb
  refine w_if H5 rfl (fun hc => ?_) (fun hc => ?_)
  · replace hm := bT hc hm
    refine s_reg [] [2, 3] [(2, [], .bool true), (3, [], .int .i64 0)] [] H5 (by kernel_rfl) trivial fun _ wd6 H7 hb => ?_
    clear H5
    replace hS := hS.below hb
    clear hb
    refine w_ret ?_
    obtain rfl := someE hm
    exact retR2 H7 rfl rfl rfl ⟨_, rfl, rfl, (hS.sel [] rfl)⟩
  · replace hm := bF hc hm
    refine w_skip ?_
    obtain ⟨y8, hy8, hm⟩ := bindE hm
    refine s_reg [(.tuple ⟨[.int .i64 y8.1, .int .i64 y8.2]⟩)] [4, 5] [(4, [], .int .i64 y8.1), (5, [], .int .i64 y8.2)] [fun wz => RetB Tryd.prog 9 ⟨[.string ⟨⟨name_⟩⟩]⟩ (.tuple ⟨[.int .i64 y8.1, .int .i64 y8.2]⟩) wz] H5 (by kernel_rfl) ⟨(props_Find_ok m _ _ hy8 _ (s0im s0nil (hS.im 0 rfl))), trivial⟩ fun _ wd9 H10 hb => ?_
    clear H5
    replace hS := hS.below hb
    clear hb
    refine w_seq ?_
    refine s_reg [] [4, 5, 14] [(4, [], .int .i64 y8.1), (5, [], .int .i64 y8.2), (14, [], .bool (y8.2 != 0))] [] H10 (by kernel_rfl) trivial fun _ wd11 H12 hb => ?_
    clear H10
    replace hS := hS.below hb
    clear hb
    refine w_if H12 rfl (fun hc => ?_) (fun hc => ?_)
    · replace hm := bT hc hm
      refine s_reg [] [2, 3] [(2, [], .bool false), (3, [], .int .i64 y8.2)] [] H12 (by kernel_rfl) trivial fun _ wd13 H14 hb => ?_
      clear H12
      replace hS := hS.below hb
      clear hb
      refine w_ret ?_
      obtain rfl := someE hm
      exact retR2 H14 rfl rfl rfl ⟨_, rfl, rfl, (hS.sel [] rfl)⟩
    · replace hm := bF hc hm
      refine w_skip ?_
      refine w_seq ?_
      refine wl_start ?_
      obtain ⟨y15, hy15, hm⟩ := bindE hm
      have hd : S0 (AvL M [Ent.im (tI .u8) gl_strings_asciiSpace (Gh.mk (some ⟨0, 0, none⟩) 256 fun _ _ => .nil)]) [Ent.im (tI .u8) gl_strings_asciiSpace (Gh.mk (some ⟨0, 0, none⟩) 256 fun _ _ => .nil)] _ := hS.hand [0] [0] rfl rfl
      refine m_stp [16, 4] [(4, [], .int .i64 y8.1)] H12 rfl rfl rfl rfl (o_callx H12 rfl rfl (props_Table_ok m _ hy15 _ _ hd)) (fun _ => rfl) fun _ wd18 v H19 hq => ?_
      clear H12 hd
      obtain ⟨g16, rfl, hq⟩ := hq
      replace hS : SH M X w [Ent.own 51 tyProp y15 g16, Ent.im (tI .u8) gl_strings_asciiSpace (Gh.mk (some ⟨0, 0, none⟩) 256 fun _ _ => .nil)] _ := hS.join [0] [0] rfl rfl hq
      clear hq
      obtain ⟨ho20, hm⟩ := chkE hm
      refine wl_batch 1 7 [(.bool ((gi y15 y8.1).Inherited))] [2, 3] [(2, [], .bool ((gi y15 y8.1).Inherited)), (3, [], .int .i64 0)] [fun _ => oka g16.a ∧ 0 ≤ y8.1 ∧ y8.1 < ln y15, fun wz => V.at1 ⟨ab g16.a, ao g16.a + (y8.1).toNat * 12 + 1, none⟩ (.bool ((gi y15 y8.1).Inherited)) wz] H19 (by decide) (by kernel_rfl) ⟨((hS.osl 0 rfl).oki ho20), ((hS.osl 0 rfl).at1 ho20 1 rfl), trivial⟩ fun _ wd21 H22 hb => ?_
      clear H19
      replace hS := hS.below hb
      clear hb
      refine wl_end rfl ?_
      replace hS : SH M X w [Ent.im (tI .u8) gl_strings_asciiSpace (Gh.mk (some ⟨0, 0, none⟩) 256 fun _ _ => .nil)] _ := hS.sel [1] rfl
      refine w_ret ?_
      obtain rfl := someE hm
      exact retR2 H22 rfl rfl rfl ⟨_, rfl, rfl, (hS.sel [] rfl)⟩
theorem props_Inherited_ok  (m : Nat) (name_ : Str) (r : Bool × Int) (hm : props_Inherited m name_ = some r) (w : World) (hL : S0 F0 [Ent.im (tI .u8) gl_strings_asciiSpace (Gh.mk (some ⟨0, 0, none⟩) 256 fun _ _ => .nil)] w ∧ fpl [Ent.im (tI .u8) gl_strings_asciiSpace (Gh.mk (some ⟨0, 0, none⟩) 256 fun _ _ => .nil)] = []) : RetB Tryd.prog 11 ⟨[.string ⟨⟨name_⟩⟩]⟩ (.tuple ⟨[.bool r.1, .int .i64 r.2]⟩) w := retB_of hL (Tryd.call11 _) (fun w' h => props_Inherited_w F0 m   name_ r hm w' h)

def r25_Custom (s : Str) : Option (Bool) :=
  lt (cond (decide (2 < (ln s))) (decide ((ln s) ≤ 64)) false) fun x3 =>
  chk (x3 = true → 0 ≤ (2 : Int) ∧ (2 : Int) ≤ ln s) <|
  some (cond x3 ((sub s 0 2) == [45, 45]) false)
theorem r25_Custom_w  (M : Av) (s : Str) (r : Bool) (hm : r25_Custom s = some r) (w : World) (hS : S0 M [] w) : Calls Tryd.prog 16 ⟨[.string ⟨⟨s⟩⟩]⟩ w (fun e w' => ∃ v, e = .returned v ∧ v = .bool r ∧ SH M (fpl []) w [] w') := by
  rw [r25_Custom] at hm
  have hS0 : SH M (fpl []) w [] w := hS
  generalize hX : fpl [] = X at hS0 ⊢
  clear hS hX
  have hS := hS0
  clear hS0
  refine calls_entryP Tryd.func16 rfl Tryd.ntmps16 rfl fun _ H => ?_
  refine s_reg [] [0] [(0, [], .string ⟨⟨s⟩⟩)] [] H (by kernel_rfl) trivial fun _ wd1 H2 hb => ?_
  clear H
  replace hS := hS.below hb
  clear hb
  obtain ⟨x3, hx3, hm⟩ := letE hm
  obtain ⟨ho4, hm⟩ := chkE hm
  refine s_reg [] [2] [(2, [], .bool (cond x3 ((sub s 0 2) == [45, 45]) false))] [fun _ => (x3 = true ∧ True → 0 ≤ (2 : Int) ∧ (2 : Int) ≤ ln s)] H2 (by subst hx3; kernel_rfl) ⟨fun hg => (ho4 hg.1), trivial⟩ fun _ wd5 H6 hb => ?_
  clear H2
  replace hS := hS.below hb
  clear hb
  refine w_ret ?_
  obtain rfl := someE hm
  exact retR1 H6 rfl rfl ⟨_, rfl, rfl, (hS.sel [] rfl)⟩
theorem r25_Custom_ok  (s : Str) (r : Bool) (hm : r25_Custom s = some r) : Ret Tryd.prog 16 ⟨[.string ⟨⟨s⟩⟩]⟩ (.bool r) := retP_of (Tryd.call16 _) (fun w h => r25_Custom_w F0   s r hm w h)

def r25_Inherited (m : Nat) (s : Str) : Option (Bool × Int) :=
  Option.bind (r25_Custom s) fun y3 =>
  cond y3 (
  some (true, 0)) (
  Option.bind (r25_Find m s) fun y8 =>
  cond (y8.2 != 0) (
  some (false, y8.2)) (
  Option.bind (r25_Table) fun y15 =>
  chk (0 ≤ y8.1 ∧ y8.1 < ln y15) <|
  some ((gi y15 y8.1).Inherited, 0)))
theorem r25_Inherited_w  (M : Av) (m : Nat) (s : Str) (r : Bool × Int) (hm : r25_Inherited m s = some r) (w : World) (hS : S0 M [] w) : Calls Tryd.prog 12 ⟨[.string ⟨⟨s⟩⟩]⟩ w (fun e w' => ∃ v, e = .returned v ∧ v = .tuple ⟨[.bool r.1, .int .i64 r.2]⟩ ∧ SH M (fpl []) w [] w') := by
  rw [r25_Inherited] at hm
  have hS0 : SH M (fpl []) w [] w := hS
  generalize hX : fpl [] = X at hS0 ⊢
  clear hS hX
  have hS := hS0
  clear hS0
  refine calls_entryP Tryd.func12 rfl Tryd.ntmps12 rfl fun _ H => ?_
  refine s_reg [] [0] [(0, [], .string ⟨⟨s⟩⟩)] [] H (by kernel_rfl) trivial fun _ wd1 H2 hb => ?_
  clear H
  replace hS := hS.below hb
  clear hb
  refine w_seq ?_
  obtain ⟨y3, hy3, hm⟩ := bindE hm
  refine s_reg [(.bool y3)] [0, 7] [(0, [], .string ⟨⟨s⟩⟩), (7, [], .bool y3)] [fun wz => RetB Tryd.prog 16 ⟨[.string ⟨⟨s⟩⟩]⟩ (.bool y3) wz] H2 (by kernel_rfl) ⟨((r25_Custom_ok _ _ hy3).b), trivial⟩ fun _ wd4 H5 hb => ?_
  clear H2
  replace hS := hS.below hb
  clear hb
  refine w_if H5 rfl (fun hc => ?_) (fun hc => ?_)
  · replace hm := bT hc hm
    refine s_reg [] [2, 3] [(2, [], .bool true), (3, [], .int .i64 0)] [] H5 (by kernel_rfl) trivial fun _ wd6 H7 hb => ?_
    clear H5
    replace hS := hS.below hb
    clear hb
    refine w_ret ?_
    obtain rfl := someE hm
    exact retR2 H7 rfl rfl rfl ⟨_, rfl, rfl, (hS.sel [] rfl)⟩
  · replace hm := bF hc hm
    refine w_skip ?_
    obtain ⟨y8, hy8, hm⟩ := bindE hm
    refine s_reg [(.tuple ⟨[.int .i64 y8.1, .int .i64 y8.2]⟩)] [4, 5] [(4, [], .int .i64 y8.1), (5, [], .int .i64 y8.2)] [fun wz => RetB Tryd.prog 10 ⟨[.string ⟨⟨s⟩⟩]⟩ (.tuple ⟨[.int .i64 y8.1, .int .i64 y8.2]⟩) wz] H5 (by kernel_rfl) ⟨((r25_Find_ok m _ _ hy8).b), trivial⟩ fun _ wd9 H10 hb => ?_
    clear H5
    replace hS := hS.below hb
    clear hb
    refine w_seq ?_
    refine s_reg [] [4, 5, 14] [(4, [], .int .i64 y8.1), (5, [], .int .i64 y8.2), (14, [], .bool (y8.2 != 0))] [] H10 (by kernel_rfl) trivial fun _ wd11 H12 hb => ?_
    clear H10
    replace hS := hS.below hb
    clear hb
    refine w_if H12 rfl (fun hc => ?_) (fun hc => ?_)
    · replace hm := bT hc hm
      refine s_reg [] [2, 3] [(2, [], .bool false), (3, [], .int .i64 y8.2)] [] H12 (by kernel_rfl) trivial fun _ wd13 H14 hb => ?_
      clear H12
      replace hS := hS.below hb
      clear hb
      refine w_ret ?_
      obtain rfl := someE hm
      exact retR2 H14 rfl rfl rfl ⟨_, rfl, rfl, (hS.sel [] rfl)⟩
    · replace hm := bF hc hm
      refine w_skip ?_
      refine w_seq ?_
      refine wl_start ?_
      obtain ⟨y15, hy15, hm⟩ := bindE hm
      have hd : S0 (AvL M []) [] _ := hS.hand [] [] rfl rfl
      refine m_stp [16, 4] [(4, [], .int .i64 y8.1)] H12 rfl rfl rfl rfl (o_callx H12 rfl rfl (r25_Table_ok _ hy15 _ _ hd)) (fun _ => rfl) fun _ wd18 v H19 hq => ?_
      clear H12 hd
      obtain ⟨g16, rfl, hq⟩ := hq
      replace hS : SH M X w [Ent.own 51 tyProp y15 g16] _ := hS.join [] [] rfl rfl hq
      clear hq
      obtain ⟨ho20, hm⟩ := chkE hm
      refine wl_batch 1 7 [(.bool ((gi y15 y8.1).Inherited))] [2, 3] [(2, [], .bool ((gi y15 y8.1).Inherited)), (3, [], .int .i64 0)] [fun _ => oka g16.a ∧ 0 ≤ y8.1 ∧ y8.1 < ln y15, fun wz => V.at1 ⟨ab g16.a, ao g16.a + (y8.1).toNat * 12 + 1, none⟩ (.bool ((gi y15 y8.1).Inherited)) wz] H19 (by decide) (by kernel_rfl) ⟨((hS.osl 0 rfl).oki ho20), ((hS.osl 0 rfl).at1 ho20 1 rfl), trivial⟩ fun _ wd21 H22 hb => ?_
      clear H19
      replace hS := hS.below hb
      clear hb
      refine wl_end rfl ?_
      replace hS : SH M X w [] _ := hS.sel [] rfl
      refine w_ret ?_
      obtain rfl := someE hm
      exact retR2 H22 rfl rfl rfl ⟨_, rfl, rfl, (hS.sel [] rfl)⟩
theorem r25_Inherited_ok  (m : Nat) (s : Str) (r : Bool × Int) (hm : r25_Inherited m s = some r) : Ret Tryd.prog 12 ⟨[.string ⟨⟨s⟩⟩]⟩ (.tuple ⟨[.bool r.1, .int .i64 r.2]⟩) := retP_of (Tryd.call12 _) (fun w h => r25_Inherited_w F0 m   s r hm w h)

def props_Check (v_ : TVal) : Option (Int) :=
  Option.bind (
  Option.bind (
  cond (v_.Kind == 1) (
  Option.bind (
  some (.inr (v_.Word, 0, 0, 0, 0, 0))) fun r25 => some (.inl r25)) (
  cond (v_.Kind == 6) (
  some (.inr (w64 (Int.tdiv 1000000000000 1000)))) (
  Option.bind (
  cond (v_.Kind == 2) (
  some (v_.Kind == 2)) (
  cond (v_.Kind == 3) (
  some (v_.Kind == 3)) (
  cond (v_.Kind == 4) (
  some (v_.Kind == 4)) (
  some (v_.Kind == 5))))) fun (z30 : Bool) =>
  cond z30 (
  some (.inr 1000000000000)) (
  cond (v_.Kind == 7) (
  Option.bind (
  some (.inr ([], v_.Color.Red, v_.Color.Green, v_.Color.Blue, v_.Color.Alpha, 0))) fun r45 => some (.inl r45)) (
  cond (v_.Kind == 8) (
  Option.bind (
  some (.inr ([], 0, 0, 0, 0, 0))) fun r48 => some (.inl r48)) (
  Option.bind (
  some (.inl 8)) fun r51 => some (.inl r51))))))) fun (z18 : Sum (Sum (Int) (Str × Int × Int × Int × Int × Int)) (Int)) => sumK z18 fun s_z18 =>
  lt (if w64 (0 - s_z18) < if v_.Num < s_z18 then v_.Num else s_z18 then if v_.Num < s_z18 then v_.Num else s_z18 else w64 (0 - s_z18)) fun x53 =>
  some (.inr ([], 0, 0, 0, 0, x53))) fun (z15 : Sum (Int) (Str × Int × Int × Int × Int × Int)) => sumK z15 fun s_z15 =>
  lt (!((v_.Kind == v_.Kind) && ((v_.Word == s_z15.1) && ((v_.Num == s_z15.2.2.2.2.2) && (((v_.Color.Red == s_z15.2.1) && ((v_.Color.Green == s_z15.2.2.1) && ((v_.Color.Blue == s_z15.2.2.2.1) && ((v_.Color.Alpha == s_z15.2.2.2.2.1) && true)))) && true))))) fun x59 =>
  lt (cond x59 true (cond (v_.Kind == 1) (v_.Word == []) false)) fun x60 =>
  cond x60 (
  some 8) (
  some 0)
theorem props_Check_w  (M : Av) (v_ : TVal) (r : Int) (hm : props_Check v_ = some r) (w : World) (hS : S0 M [] w) : Calls Tryd.prog 17 ⟨[.agg ⟨[.int .u8 v_.Kind, .string ⟨⟨v_.Word⟩⟩, .int .i64 v_.Num, .int .u8 v_.Color.Red, .int .u8 v_.Color.Green, .int .u8 v_.Color.Blue, .int .u8 v_.Color.Alpha]⟩]⟩ w (fun e w' => ∃ v, e = .returned v ∧ v = .int .i64 r ∧ SH M (fpl []) w [] w') := by
  rw [props_Check] at hm
  have hS0 : SH M (fpl []) w [] w := hS
  generalize hX : fpl [] = X at hS0 ⊢
  clear hS hX
  have hS := hS0
  clear hS0
  refine calls_entryP Tryd.func17 rfl Tryd.ntmps17 rfl fun _ H => ?_
  refine w_seq ?_
  refine wl_start ?_
  have hd : S0 (AvL M []) [] _ := hS.hand [] [] rfl rfl
  refine m_stp [1] [] H rfl rfl rfl rfl (o_box [.int .u8 v_.Kind, .string ⟨⟨v_.Word⟩⟩, .int .i64 v_.Num, .int .u8 v_.Color.Red, .int .u8 v_.Color.Green, .int .u8 v_.Color.Blue, .int .u8 v_.Color.Alpha] H hd rfl rfl) (fun _ => rfl) fun _ wd2 v H3 hq => ?_
  clear H hd
  obtain ⟨b1, rfl, hq⟩ := hq
  replace hS : SH M X w [Ent.blk b1 [.int .u8 v_.Kind, .string ⟨⟨v_.Word⟩⟩, .int .i64 v_.Num, .int .u8 v_.Color.Red, .int .u8 v_.Color.Green, .int .u8 v_.Color.Blue, .int .u8 v_.Color.Alpha]] _ := hS.join [] [] rfl rfl hq
  clear hq
  refine wl_batch 1 2 [] [1] [(1, [], .pointer (some ⟨b1, 0, none⟩))] [] H3 (by decide) (by kernel_rfl) trivial fun _ wd4 H5 hb => ?_
  clear H3
  replace hS := hS.below hb
  clear hb
  refine wl_end rfl ?_
  refine w_seq ?_
  refine wl_start ?_
  refine wl_batch 0 3 [(.int .u8 v_.Kind)] [1, 7] [(1, [], .pointer (some ⟨b1, 0, none⟩)), (7, [], .agg ⟨[.int .u8 v_.Kind, .string ⟨⟨[]⟩⟩, .int .i64 0, .int .u8 0, .int .u8 0, .int .u8 0, .int .u8 0]⟩)] [fun wz => V.at1 ⟨b1, 0, none⟩ (.int .u8 v_.Kind) wz] H5 (by decide) (by kernel_rfl) ⟨((hS.bk 0 rfl).at1 rfl), trivial⟩ fun _ wd6 H7 hb => ?_
  clear H5
  replace hS := hS.below hb
  clear hb
  have hd : S0 (AvL M [Ent.blk b1 [.int .u8 v_.Kind, .string ⟨⟨v_.Word⟩⟩, .int .i64 v_.Num, .int .u8 v_.Color.Red, .int .u8 v_.Color.Green, .int .u8 v_.Color.Blue, .int .u8 v_.Color.Alpha]]) [] _ := hS.hand [] [0] rfl rfl
  refine m_stp [3, 1, 7] [(1, [], .pointer (some ⟨b1, 0, none⟩)), (7, [], .agg ⟨[.int .u8 v_.Kind, .string ⟨⟨[]⟩⟩, .int .i64 0, .int .u8 0, .int .u8 0, .int .u8 0, .int .u8 0]⟩)] H7 rfl rfl rfl rfl (o_alloc [.int .u8 0, .string ⟨⟨[]⟩⟩, .int .i64 0, .int .u8 0, .int .u8 0, .int .u8 0, .int .u8 0] (z := .agg ⟨[.int .u8 0, .string ⟨⟨[]⟩⟩, .int .i64 0, .int .u8 0, .int .u8 0, .int .u8 0, .int .u8 0]⟩) hd (by kernel_rfl) rfl) (fun _ => rfl) fun _ wd9 v H10 hq => ?_
  clear H7 hd
  obtain ⟨b8, rfl, hq⟩ := hq
  replace hS : SH M X w [Ent.blk b8 [.int .u8 0, .string ⟨⟨[]⟩⟩, .int .i64 0, .int .u8 0, .int .u8 0, .int .u8 0, .int .u8 0], Ent.blk b1 [.int .u8 v_.Kind, .string ⟨⟨v_.Word⟩⟩, .int .i64 v_.Num, .int .u8 v_.Color.Red, .int .u8 v_.Color.Green, .int .u8 v_.Color.Blue, .int .u8 v_.Color.Alpha]] _ := hS.join [] [0] rfl rfl hq
  clear hq
  have hd : S0 (AvL M [Ent.blk b1 [.int .u8 v_.Kind, .string ⟨⟨v_.Word⟩⟩, .int .i64 v_.Num, .int .u8 v_.Color.Red, .int .u8 v_.Color.Green, .int .u8 v_.Color.Blue, .int .u8 v_.Color.Alpha]]) [Ent.blk b8 [.int .u8 0, .string ⟨⟨[]⟩⟩, .int .i64 0, .int .u8 0, .int .u8 0, .int .u8 0, .int .u8 0]] _ := hS.hand [0] [1] rfl rfl
  refine m_stp0 [1, 3] [(1, [], .pointer (some ⟨b1, 0, none⟩)), (3, [], .pointer (some ⟨b8, 0, none⟩))] H10 rfl rfl rfl (o_store [.int .u8 v_.Kind, .string ⟨⟨[]⟩⟩, .int .i64 0, .int .u8 0, .int .u8 0, .int .u8 0, .int .u8 0] H10 hd rfl rfl (by kernel_rfl) rfl rfl rfl) rfl fun _ wd11 H12 hq => ?_
  clear H10 hd
  obtain ⟨_, hq⟩ := hq
  replace hS : SH M X w [Ent.blk b8 [.int .u8 v_.Kind, .string ⟨⟨[]⟩⟩, .int .i64 0, .int .u8 0, .int .u8 0, .int .u8 0, .int .u8 0], Ent.blk b1 [.int .u8 v_.Kind, .string ⟨⟨v_.Word⟩⟩, .int .i64 v_.Num, .int .u8 v_.Color.Red, .int .u8 v_.Color.Green, .int .u8 v_.Color.Blue, .int .u8 v_.Color.Alpha]] _ := hS.join [0] [1] rfl rfl hq
  clear hq
  refine wl_end rfl ?_
  refine s_reg [] [1, 3, 4] [(1, [], .pointer (some ⟨b1, 0, none⟩)), (3, [], .pointer (some ⟨b8, 0, none⟩)), (4, [], .int .i64 1000000000000)] [] H12 (by kernel_rfl) trivial fun _ wd13 H14 hb => ?_
  clear H12
  replace hS := hS.below hb
  clear hb
  obtain ⟨z15, hz, hm_z15⟩ := bindE hm
  refine w_cut (fun a' w' => ∃ s_z15 : Str × Int × Int × Int × Int × Int, z15 = Sum.inr s_z15 ∧ Fr 52 [(1, [], .pointer (some ⟨b1, 0, none⟩)), (3, [], .pointer (some ⟨b8, 0, none⟩))] a' ∧ SH M X w [Ent.blk b8 [.int .u8 v_.Kind, .string ⟨⟨s_z15.1⟩⟩, .int .i64 s_z15.2.2.2.2.2, .int .u8 s_z15.2.1, .int .u8 s_z15.2.2.1, .int .u8 s_z15.2.2.2.1, .int .u8 s_z15.2.2.2.2.1], Ent.blk b1 [.int .u8 v_.Kind, .string ⟨⟨v_.Word⟩⟩, .int .i64 v_.Num, .int .u8 v_.Color.Red, .int .u8 v_.Color.Green, .int .u8 v_.Color.Blue, .int .u8 v_.Color.Alpha]] w') ?_ ?_
  · replace hm := hz
    refine s_reg [(.int .u8 v_.Kind)] [1, 3, 4, 9] [(1, [], .pointer (some ⟨b1, 0, none⟩)), (3, [], .pointer (some ⟨b8, 0, none⟩)), (4, [], .int .i64 1000000000000), (9, [], .int .u8 v_.Kind)] [fun wz => V.at1 ⟨b1, 0, none⟩ (.int .u8 v_.Kind) wz] H14 (by kernel_rfl) ⟨((hS.bk 1 rfl).at1 rfl), trivial⟩ fun _ wd16 H17 hb => ?_
    clear H14
    replace hS := hS.below hb
    clear hb
    refine w_block ?_
    refine w_seq ?_
    refine w_block ?_
    refine w_seq ?_
    refine w_block ?_
    refine w_seq ?_
    refine w_block ?_
    obtain ⟨z18, hz, hm_z18⟩ := bindE hm
    refine w_cut (fun a' w' => ∃ s_z18 : Int, z18 = Sum.inr s_z18 ∧ Fr 52 [(1, [], .pointer (some ⟨b1, 0, none⟩)), (3, [], .pointer (some ⟨b8, 0, none⟩)), (4, [], .int .i64 s_z18)] a' ∧ SH M X w [Ent.blk b8 [.int .u8 v_.Kind, .string ⟨⟨[]⟩⟩, .int .i64 0, .int .u8 0, .int .u8 0, .int .u8 0, .int .u8 0], Ent.blk b1 [.int .u8 v_.Kind, .string ⟨⟨v_.Word⟩⟩, .int .i64 v_.Num, .int .u8 v_.Color.Red, .int .u8 v_.Color.Green, .int .u8 v_.Color.Blue, .int .u8 v_.Color.Alpha]] w') ?_ ?_
    · replace hm := hz
      refine w_block ?_
      refine w_seq ?_
      refine w_block ?_
      refine w_seq ?_
      refine w_block ?_
      refine w_seq ?_
      refine w_seq ?_
      refine s_reg [] [1, 3, 4, 9, 10] [(1, [], .pointer (some ⟨b1, 0, none⟩)), (3, [], .pointer (some ⟨b8, 0, none⟩)), (4, [], .int .i64 1000000000000), (9, [], .int .u8 v_.Kind), (10, [], .bool (v_.Kind == 1))] [] H17 (by kernel_rfl) trivial fun _ wd19 H20 hb => ?_
      clear H17
      replace hS := hS.below hb
      clear hb
      refine w_if H20 rfl (fun hc => ?_) (fun hc => ?_)
      · replace hm := bT hc hm
        refine w_exit rfl ?_
        refine w_seq ?_
        refine wl_start ?_
        refine wl_batch 0 3 [(.string ⟨⟨v_.Word⟩⟩)] [1, 3, 24, 25] [(1, [], .pointer (some ⟨b1, 0, none⟩)), (3, [], .pointer (some ⟨b8, 0, none⟩)), (24, [], .string ⟨⟨v_.Word⟩⟩), (25, [], .pointer (some ⟨b8, 1, none⟩))] [fun wz => V.at1 ⟨b1, 1, none⟩ (.string ⟨⟨v_.Word⟩⟩) wz] H20 (by decide) (by kernel_rfl) ⟨((hS.bk 1 rfl).at1 rfl), trivial⟩ fun _ wd21 H22 hb => ?_
        clear H20
        replace hS := hS.below hb
        clear hb
        have hd : S0 (AvL M [Ent.blk b1 [.int .u8 v_.Kind, .string ⟨⟨v_.Word⟩⟩, .int .i64 v_.Num, .int .u8 v_.Color.Red, .int .u8 v_.Color.Green, .int .u8 v_.Color.Blue, .int .u8 v_.Color.Alpha]]) [Ent.blk b8 [.int .u8 v_.Kind, .string ⟨⟨[]⟩⟩, .int .i64 0, .int .u8 0, .int .u8 0, .int .u8 0, .int .u8 0]] _ := hS.hand [0] [1] rfl rfl
        refine m_stp0 [1, 3] [(1, [], .pointer (some ⟨b1, 0, none⟩)), (3, [], .pointer (some ⟨b8, 0, none⟩))] H22 rfl rfl rfl (o_store [.int .u8 v_.Kind, .string ⟨⟨v_.Word⟩⟩, .int .i64 0, .int .u8 0, .int .u8 0, .int .u8 0, .int .u8 0] H22 hd rfl rfl (by kernel_rfl) rfl rfl rfl) rfl fun _ wd23 H24 hq => ?_
        clear H22 hd
        obtain ⟨_, hq⟩ := hq
        replace hS : SH M X w [Ent.blk b8 [.int .u8 v_.Kind, .string ⟨⟨v_.Word⟩⟩, .int .i64 0, .int .u8 0, .int .u8 0, .int .u8 0, .int .u8 0], Ent.blk b1 [.int .u8 v_.Kind, .string ⟨⟨v_.Word⟩⟩, .int .i64 v_.Num, .int .u8 v_.Color.Red, .int .u8 v_.Color.Green, .int .u8 v_.Color.Blue, .int .u8 v_.Color.Alpha]] _ := hS.join [0] [1] rfl rfl hq
        clear hq
        refine wl_end rfl ?_
        refine w_exit rfl ?_
        obtain ⟨r25, hr_r25, hm⟩ := bindE hm
        obtain rfl := someE hm
        have hm := hm_z18
        obtain rfl := someE hm
        have hm := hr_r25
        clear hr_r25
        obtain rfl := someE hm
        exact ⟨_, rfl, Fr.keep (ks := [1, 3]) H24 (by kernel_rfl), hS⟩
      · replace hm := bF hc hm
        refine w_skip ?_
        refine w_seq ?_
        refine s_reg [] [1, 3, 4, 9, 12] [(1, [], .pointer (some ⟨b1, 0, none⟩)), (3, [], .pointer (some ⟨b8, 0, none⟩)), (4, [], .int .i64 1000000000000), (9, [], .int .u8 v_.Kind), (12, [], .bool (v_.Kind == 6))] [] H20 (by kernel_rfl) trivial fun _ wd26 H27 hb => ?_
        clear H20
        replace hS := hS.below hb
        clear hb
        refine w_if H27 rfl (fun hc => ?_) (fun hc => ?_)
        · replace hm := bT hc hm
          refine w_exit rfl ?_
          refine w_reg [] [1, 3, 4] [(1, [], .pointer (some ⟨b1, 0, none⟩)), (3, [], .pointer (some ⟨b8, 0, none⟩)), (4, [], .int .i64 (w64 (Int.tdiv 1000000000000 1000)))] [fun _ => (1000 : Int) ≠ 0] H27 (by kernel_rfl) ⟨(by show (1000 : Int) ≠ 0; decide), trivial⟩ fun _ wd28 H29 hb => ?_
          clear H27
          replace hS := hS.below hb
          clear hb
          obtain rfl := someE hm
          exact ⟨_, rfl, Fr.keep (ks := [1, 3, 4]) H29 (by kernel_rfl), hS⟩
        · replace hm := bF hc hm
          refine w_skip ?_
          refine w_seq ?_
          obtain ⟨z30, hz, hm⟩ := bindE hm
          refine w_cut (fun a' w' => Fr 52 [(1, [], .pointer (some ⟨b1, 0, none⟩)), (3, [], .pointer (some ⟨b8, 0, none⟩)), (4, [], .int .i64 1000000000000), (9, [], .int .u8 v_.Kind), (14, [], .bool z30)] a' ∧ SH M X w [Ent.blk b8 [.int .u8 v_.Kind, .string ⟨⟨[]⟩⟩, .int .i64 0, .int .u8 0, .int .u8 0, .int .u8 0, .int .u8 0], Ent.blk b1 [.int .u8 v_.Kind, .string ⟨⟨v_.Word⟩⟩, .int .i64 v_.Num, .int .u8 v_.Color.Red, .int .u8 v_.Color.Green, .int .u8 v_.Color.Blue, .int .u8 v_.Color.Alpha]] w') ?_ ?_
          · replace hm := hz
            refine s_reg [] [1, 3, 4, 9, 14] [(1, [], .pointer (some ⟨b1, 0, none⟩)), (3, [], .pointer (some ⟨b8, 0, none⟩)), (4, [], .int .i64 1000000000000), (9, [], .int .u8 v_.Kind), (14, [], .bool (v_.Kind == 2))] [] H27 (by kernel_rfl) trivial fun _ wd31 H32 hb => ?_
            clear H27
            replace hS := hS.below hb
            clear hb
            refine w_if H32 rfl (fun hc => ?_) (fun hc => ?_)
            · replace hm := bT hc hm
              refine w_skip ?_
              obtain rfl := someE hm
              exact ⟨Fr.keep (ks := [1, 3, 4, 9, 14]) H32 (by kernel_rfl), hS⟩
            · replace hm := bF hc hm
              refine s_reg [] [1, 3, 4, 9, 14] [(1, [], .pointer (some ⟨b1, 0, none⟩)), (3, [], .pointer (some ⟨b8, 0, none⟩)), (4, [], .int .i64 1000000000000), (9, [], .int .u8 v_.Kind), (14, [], .bool (v_.Kind == 3))] [] H32 (by kernel_rfl) trivial fun _ wd33 H34 hb => ?_
              clear H32
              replace hS := hS.below hb
              clear hb
              refine w_if H34 rfl (fun hc => ?_) (fun hc => ?_)
              · replace hm := bT hc hm
                refine w_skip ?_
                obtain rfl := someE hm
                exact ⟨Fr.keep (ks := [1, 3, 4, 9, 14]) H34 (by kernel_rfl), hS⟩
              · replace hm := bF hc hm
                refine s_reg [] [1, 3, 4, 9, 14] [(1, [], .pointer (some ⟨b1, 0, none⟩)), (3, [], .pointer (some ⟨b8, 0, none⟩)), (4, [], .int .i64 1000000000000), (9, [], .int .u8 v_.Kind), (14, [], .bool (v_.Kind == 4))] [] H34 (by kernel_rfl) trivial fun _ wd35 H36 hb => ?_
                clear H34
                replace hS := hS.below hb
                clear hb
                refine w_if H36 rfl (fun hc => ?_) (fun hc => ?_)
                · replace hm := bT hc hm
                  refine w_skip ?_
                  obtain rfl := someE hm
                  exact ⟨Fr.keep (ks := [1, 3, 4, 9, 14]) H36 (by kernel_rfl), hS⟩
                · replace hm := bF hc hm
                  refine w_reg [] [1, 3, 4, 9, 14] [(1, [], .pointer (some ⟨b1, 0, none⟩)), (3, [], .pointer (some ⟨b8, 0, none⟩)), (4, [], .int .i64 1000000000000), (9, [], .int .u8 v_.Kind), (14, [], .bool (v_.Kind == 5))] [] H36 (by kernel_rfl) trivial fun _ wd37 H38 hb => ?_
                  clear H36
                  replace hS := hS.below hb
                  clear hb
                  obtain rfl := someE hm
                  exact ⟨Fr.keep (ks := [1, 3, 4, 9, 14]) H38 (by kernel_rfl), hS⟩
          · rintro _ wd52 ⟨H, hS⟩
            refine w_if H rfl (fun hc => ?_) (fun hc => ?_)
            · replace hm := bT hc hm
              refine w_exit rfl ?_
              obtain rfl := someE hm
              exact ⟨_, rfl, Fr.keep (ks := [1, 3, 4]) H (by kernel_rfl), hS⟩
            · replace hm := bF hc hm
              refine w_skip ?_
              refine w_seq ?_
              refine s_reg [] [1, 3, 9, 19] [(1, [], .pointer (some ⟨b1, 0, none⟩)), (3, [], .pointer (some ⟨b8, 0, none⟩)), (9, [], .int .u8 v_.Kind), (19, [], .bool (v_.Kind == 7))] [] H (by kernel_rfl) trivial fun _ wd39 H40 hb => ?_
              clear H
              replace hS := hS.below hb
              clear hb
              refine w_if H40 rfl (fun hc => ?_) (fun hc => ?_)
              · replace hm := bT hc hm
                refine w_exit rfl ?_
                obtain ⟨r45, hr_r45, hm⟩ := bindE hm
                obtain rfl := someE hm
                have hm := hm_z18
                obtain rfl := someE hm
                have hm := hr_r45
                clear hr_r45
                refine w_seq ?_
                refine wl_start ?_
                refine wl_batch 0 3 [(.agg ⟨[.int .u8 v_.Color.Red, .int .u8 v_.Color.Green, .int .u8 v_.Color.Blue, .int .u8 v_.Color.Alpha]⟩)] [1, 3, 37, 38] [(1, [], .pointer (some ⟨b1, 0, none⟩)), (3, [], .pointer (some ⟨b8, 0, none⟩)), (37, [], .agg ⟨[.int .u8 v_.Color.Red, .int .u8 v_.Color.Green, .int .u8 v_.Color.Blue, .int .u8 v_.Color.Alpha]⟩), (38, [], .pointer (some ⟨b8, 3, none⟩))] [fun wz => V.atN b1 3 [.int .u8 v_.Color.Red, .int .u8 v_.Color.Green, .int .u8 v_.Color.Blue, .int .u8 v_.Color.Alpha] 0 wz] H40 (by decide) (by kernel_rfl) ⟨((hS.bk 1 rfl).atD rfl), trivial⟩ fun _ wd41 H42 hb => ?_
                clear H40
                replace hS := hS.below hb
                clear hb
                have hd : S0 (AvL M [Ent.blk b1 [.int .u8 v_.Kind, .string ⟨⟨v_.Word⟩⟩, .int .i64 v_.Num, .int .u8 v_.Color.Red, .int .u8 v_.Color.Green, .int .u8 v_.Color.Blue, .int .u8 v_.Color.Alpha]]) [Ent.blk b8 [.int .u8 v_.Kind, .string ⟨⟨[]⟩⟩, .int .i64 0, .int .u8 0, .int .u8 0, .int .u8 0, .int .u8 0]] _ := hS.hand [0] [1] rfl rfl
                refine m_stp0 [1, 3] [(1, [], .pointer (some ⟨b1, 0, none⟩)), (3, [], .pointer (some ⟨b8, 0, none⟩))] H42 rfl rfl rfl (o_store [.int .u8 v_.Kind, .string ⟨⟨[]⟩⟩, .int .i64 0, .int .u8 v_.Color.Red, .int .u8 v_.Color.Green, .int .u8 v_.Color.Blue, .int .u8 v_.Color.Alpha] H42 hd rfl rfl (by kernel_rfl) rfl rfl rfl) rfl fun _ wd43 H44 hq => ?_
                clear H42 hd
                obtain ⟨_, hq⟩ := hq
                replace hS : SH M X w [Ent.blk b8 [.int .u8 v_.Kind, .string ⟨⟨[]⟩⟩, .int .i64 0, .int .u8 v_.Color.Red, .int .u8 v_.Color.Green, .int .u8 v_.Color.Blue, .int .u8 v_.Color.Alpha], Ent.blk b1 [.int .u8 v_.Kind, .string ⟨⟨v_.Word⟩⟩, .int .i64 v_.Num, .int .u8 v_.Color.Red, .int .u8 v_.Color.Green, .int .u8 v_.Color.Blue, .int .u8 v_.Color.Alpha]] _ := hS.join [0] [1] rfl rfl hq
                clear hq
                refine wl_end rfl ?_
                refine w_exit rfl ?_
                obtain rfl := someE hm
                exact ⟨_, rfl, Fr.keep (ks := [1, 3]) H44 (by kernel_rfl), hS⟩
              · replace hm := bF hc hm
                refine w_skip ?_
                refine s_reg [] [1, 3, 21] [(1, [], .pointer (some ⟨b1, 0, none⟩)), (3, [], .pointer (some ⟨b8, 0, none⟩)), (21, [], .bool (v_.Kind == 8))] [] H40 (by kernel_rfl) trivial fun _ wd46 H47 hb => ?_
                clear H40
                replace hS := hS.below hb
                clear hb
                refine w_if H47 rfl (fun hc => ?_) (fun hc => ?_)
                · replace hm := bT hc hm
                  refine w_exit rfl ?_
                  obtain ⟨r48, hr_r48, hm⟩ := bindE hm
                  obtain rfl := someE hm
                  have hm := hm_z18
                  obtain rfl := someE hm
                  have hm := hr_r48
                  clear hr_r48
                  refine w_exit rfl ?_
                  obtain rfl := someE hm
                  exact ⟨_, rfl, Fr.keep (ks := [1, 3]) H47 (by kernel_rfl), hS⟩
                · replace hm := bF hc hm
                  refine w_skip ?_
                  refine w_exit rfl ?_
                  obtain ⟨r51, hr_r51, hm⟩ := bindE hm
                  obtain rfl := someE hm
                  have hm := hm_z18
                  obtain rfl := someE hm
                  have hm := hr_r51
                  clear hr_r51
                  refine w_seq ?_
                  refine s_reg [] [2] [(2, [], .int .i64 8)] [] H47 (by kernel_rfl) trivial fun _ wd49 H50 hb => ?_
                  clear H47
                  replace hS := hS.below hb
                  clear hb
                  refine w_ret ?_
                  obtain rfl := someE hm
                  have hm := hm_z15
                  obtain rfl := someE hm
                  exact retR1 H50 rfl rfl ⟨_, rfl, rfl, (hS.sel [] rfl)⟩
    · rintro _ wd58 ⟨s_z18, hz, H, hS⟩
      subst hz
      replace hm := sumR hm_z18
      refine w_seq ?_
      refine wl_start ?_
      obtain ⟨x53, hx53, hm⟩ := letE hm
      refine wl_batch 0 8 [(.int .i64 v_.Num)] [1, 3, 34, 35] [(1, [], .pointer (some ⟨b1, 0, none⟩)), (3, [], .pointer (some ⟨b8, 0, none⟩)), (34, [], .int .i64 x53), (35, [], .pointer (some ⟨b8, 2, none⟩))] [fun wz => V.at1 ⟨b1, 2, none⟩ (.int .i64 v_.Num) wz] H (by decide) (by subst hx53; kernel_rfl) ⟨((hS.bk 1 rfl).at1 rfl), trivial⟩ fun _ wd54 H55 hb => ?_
      clear H
      replace hS := hS.below hb
      clear hb
      have hd : S0 (AvL M [Ent.blk b1 [.int .u8 v_.Kind, .string ⟨⟨v_.Word⟩⟩, .int .i64 v_.Num, .int .u8 v_.Color.Red, .int .u8 v_.Color.Green, .int .u8 v_.Color.Blue, .int .u8 v_.Color.Alpha]]) [Ent.blk b8 [.int .u8 v_.Kind, .string ⟨⟨[]⟩⟩, .int .i64 0, .int .u8 0, .int .u8 0, .int .u8 0, .int .u8 0]] _ := hS.hand [0] [1] rfl rfl
      refine m_stp0 [1, 3] [(1, [], .pointer (some ⟨b1, 0, none⟩)), (3, [], .pointer (some ⟨b8, 0, none⟩))] H55 rfl rfl rfl (o_store [.int .u8 v_.Kind, .string ⟨⟨[]⟩⟩, .int .i64 x53, .int .u8 0, .int .u8 0, .int .u8 0, .int .u8 0] H55 hd rfl rfl (by kernel_rfl) rfl rfl rfl) rfl fun _ wd56 H57 hq => ?_
      clear H55 hd
      obtain ⟨_, hq⟩ := hq
      replace hS : SH M X w [Ent.blk b8 [.int .u8 v_.Kind, .string ⟨⟨[]⟩⟩, .int .i64 x53, .int .u8 0, .int .u8 0, .int .u8 0, .int .u8 0], Ent.blk b1 [.int .u8 v_.Kind, .string ⟨⟨v_.Word⟩⟩, .int .i64 v_.Num, .int .u8 v_.Color.Red, .int .u8 v_.Color.Green, .int .u8 v_.Color.Blue, .int .u8 v_.Color.Alpha]] _ := hS.join [0] [1] rfl rfl hq
      clear hq
      refine wl_end rfl ?_
      refine w_exit rfl ?_
      obtain rfl := someE hm
      exact ⟨_, rfl, Fr.keep (ks := [1, 3]) H57 (by kernel_rfl), hS⟩
  · rintro _ wd67 ⟨s_z15, hz, H, hS⟩
    subst hz
    replace hm := sumR hm_z15
    refine w_seq ?_
    obtain ⟨x59, hx59, hm⟩ := letE hm
    obtain ⟨x60, hx60, hm⟩ := letE hm
    refine s_reg [(.agg ⟨[.int .u8 v_.Kind, .string ⟨⟨v_.Word⟩⟩, .int .i64 v_.Num, .int .u8 v_.Color.Red, .int .u8 v_.Color.Green, .int .u8 v_.Color.Blue, .int .u8 v_.Color.Alpha]⟩), (.agg ⟨[.int .u8 v_.Kind, .string ⟨⟨s_z15.1⟩⟩, .int .i64 s_z15.2.2.2.2.2, .int .u8 s_z15.2.1, .int .u8 s_z15.2.2.1, .int .u8 s_z15.2.2.2.1, .int .u8 s_z15.2.2.2.2.1]⟩), (.int .u8 v_.Kind), (.string ⟨⟨v_.Word⟩⟩)] [51] [(51, [], .bool x60)] [fun wz => V.atN b1 0 [.int .u8 v_.Kind, .string ⟨⟨v_.Word⟩⟩, .int .i64 v_.Num, .int .u8 v_.Color.Red, .int .u8 v_.Color.Green, .int .u8 v_.Color.Blue, .int .u8 v_.Color.Alpha] 0 wz, fun wz => V.atN b8 0 [.int .u8 v_.Kind, .string ⟨⟨s_z15.1⟩⟩, .int .i64 s_z15.2.2.2.2.2, .int .u8 s_z15.2.1, .int .u8 s_z15.2.2.1, .int .u8 s_z15.2.2.2.1, .int .u8 s_z15.2.2.2.2.1] 0 wz, fun wz => (x59 = false ∧ True → V.at1 ⟨b1, 0, none⟩ (.int .u8 v_.Kind) wz), fun wz => ((v_.Kind == 1) = true ∧ x59 = false ∧ True → V.at1 ⟨b1, 1, none⟩ (.string ⟨⟨v_.Word⟩⟩) wz)] H (by subst hx59 hx60; kernel_rfl) ⟨((hS.bk 1 rfl).atD rfl), ((hS.bk 0 rfl).atD rfl), fun hg => (hS.bk 1 rfl).at1 rfl, fun hg => (hS.bk 1 rfl).at1 rfl, trivial⟩ fun _ wd61 H62 hb => ?_
    clear H
    replace hS := hS.below hb
    clear hb
    replace hS : SH M X w [] _ := hS.sel [] rfl
    refine w_if H62 rfl (fun hc => ?_) (fun hc => ?_)
    · replace hm := bT hc hm
      refine s_reg [] [2] [(2, [], .int .i64 8)] [] H62 (by kernel_rfl) trivial fun _ wd63 H64 hb => ?_
      clear H62
      replace hS := hS.below hb
      clear hb
      refine w_ret ?_
      obtain rfl := someE hm
      exact retR1 H64 rfl rfl ⟨_, rfl, rfl, (hS.sel [] rfl)⟩
    · replace hm := bF hc hm
      refine w_skip ?_
      refine s_reg [] [2] [(2, [], .int .i64 0)] [] H62 (by kernel_rfl) trivial fun _ wd65 H66 hb => ?_
      clear H62
      replace hS := hS.below hb
      clear hb
      refine w_ret ?_
      obtain rfl := someE hm
      exact retR1 H66 rfl rfl ⟨_, rfl, rfl, (hS.sel [] rfl)⟩
theorem props_Check_ok  (v_ : TVal) (r : Int) (hm : props_Check v_ = some r) : Ret Tryd.prog 17 ⟨[.agg ⟨[.int .u8 v_.Kind, .string ⟨⟨v_.Word⟩⟩, .int .i64 v_.Num, .int .u8 v_.Color.Red, .int .u8 v_.Color.Green, .int .u8 v_.Color.Blue, .int .u8 v_.Color.Alpha]⟩]⟩ (.int .i64 r) := retP_of (Tryd.call17 _) (fun w h => props_Check_w F0   v_ r hm w h)

def slices_Index_string_string_L1 (m : Nat) (s : List Str) (v_ : Str) : Nat → Int → Option (Sum (Int) (Unit))
  | 0, _ => none
  | kk + 1, v6 =>
    cond (decide (v6 < (ln s))) (
    chk (0 ≤ v6 ∧ v6 < ln s) <|
    cond (v_ == (gi s v6)) (
    some (.inl v6)) (
    slices_Index_string_string_L1 m s v_ kk (w64 (v6 + 1)))) (
    some (.inr ()))
def slices_Index_string_string (m : Nat) (s : List Str) (v_ : Str) : Option (Int) :=
  Option.bind (
  slices_Index_string_string_L1 m s v_ m 0) fun (z3 : Sum (Int) (Unit)) => sumK z3 fun s_z3 =>
  some (-1)
theorem slices_Index_string_string_w {g_s : Gh} (M : Av) (m : Nat) (s : List Str) (v_ : Str) (r : Int) (hm : slices_Index_string_string m s v_ = some r) (w : World) (hS : S0 M [Ent.im tS s g_s] w) : Calls Tryd.prog 37 ⟨[.slice g_s.a s.length g_s.c, .string ⟨⟨v_⟩⟩]⟩ w (fun e w' => ∃ v, e = .returned v ∧ v = .int .i64 r ∧ SH M (fpl [Ent.im tS s g_s]) w [] w') := by
  rw [slices_Index_string_string] at hm
  have hS0 : SH M (fpl [Ent.im tS s g_s]) w [Ent.im tS s g_s] w := hS
  generalize hX : fpl [Ent.im tS s g_s] = X at hS0 ⊢
  clear hS hX
  have hS := hS0
  clear hS0
  refine calls_entryP Tryd.func37 rfl Tryd.ntmps37 rfl fun _ H => ?_
  refine s_reg [] [0, 1] [(0, [], .slice g_s.a s.length g_s.c), (1, [], .string ⟨⟨v_⟩⟩)] [] H (by kernel_rfl) trivial fun _ wd1 H2 hb => ?_
  clear H
  replace hS := hS.below hb
  clear hb
  obtain ⟨z3, hz, hm_z3⟩ := bindE hm
  refine w_cut (fun a' w' => ∃ s_z3 : Unit, z3 = Sum.inr s_z3 ∧ Fr 19 [] a' ∧ SH M X w [Ent.im tS s g_s] w') ?_ ?_
  · replace hm := hz
    refine s_reg [] [0, 1, 7, 8] [(0, [], .slice g_s.a s.length g_s.c), (1, [], .string ⟨⟨v_⟩⟩), (7, [], .int .i64 (ln s)), (8, [], .int .i64 0)] [] H2 (by kernel_rfl) trivial fun _ wd4 H5 hb => ?_
    clear H2
    replace hS := hS.below hb
    clear hb
    refine w_block ?_
    refine w_loop (fun kk a' w' => ∃ (v6 : Int), slices_Index_string_string_L1 m s v_ kk v6 = some _ ∧ Fr 19 [(0, [], .slice g_s.a s.length g_s.c), (1, [], .string ⟨⟨v_⟩⟩), (7, [], .int .i64 (ln s)), (8, [], .int .i64 v6)] a' ∧ SH M X w [Ent.im tS s g_s] w') ⟨_, 0, hm, Fr.keep (ks := [0, 1, 7, 8]) H5 (by kernel_rfl), hS⟩ ?_
    clear hm H5 hS
    rintro kk _ wd18 ⟨v6, hm, H, hS⟩
    cases kk with
    | zero => exact noneE hm
    | succ kk =>
      rw [slices_Index_string_string_L1] at hm
      refine s_reg [] [0, 1, 7, 8, 9] [(0, [], .slice g_s.a s.length g_s.c), (1, [], .string ⟨⟨v_⟩⟩), (7, [], .int .i64 (ln s)), (8, [], .int .i64 v6), (9, [], .bool (decide (v6 < (ln s))))] [] H (by kernel_rfl) trivial fun _ wd7 H8 hb => ?_
      clear H
      replace hS := hS.below hb
      clear hb
      refine w_seq ?_
      refine w_if H8 rfl (fun hc => ?_) (fun hc => ?_)
      · replace hm := bT hc hm
        refine w_skip ?_
        refine w_seq ?_
        refine w_block ?_
        refine s_reg [] [0, 1, 5, 7, 8] [(0, [], .slice g_s.a s.length g_s.c), (1, [], .string ⟨⟨v_⟩⟩), (5, [], .int .i64 v6), (7, [], .int .i64 (ln s)), (8, [], .int .i64 v6)] [] H8 (by kernel_rfl) trivial fun _ wd9 H10 hb => ?_
        clear H8
        replace hS := hS.below hb
        clear hb
        obtain ⟨ho11, hm⟩ := chkE hm
        refine s_reg [(.string ⟨⟨(gi s v6)⟩⟩)] [0, 1, 5, 7, 8, 16] [(0, [], .slice g_s.a s.length g_s.c), (1, [], .string ⟨⟨v_⟩⟩), (5, [], .int .i64 v6), (7, [], .int .i64 (ln s)), (8, [], .int .i64 v6), (16, [], .bool (v_ == (gi s v6)))] [fun _ => oka g_s.a ∧ 0 ≤ v6 ∧ v6 < ln s, fun wz => V.at1 ⟨ab g_s.a, ao g_s.a + (v6).toNat * 1, none⟩ (.string ⟨⟨(gi s v6)⟩⟩) wz] H10 (by kernel_rfl) ⟨((hS.im 0 rfl).oki ho11), ((hS.im 0 rfl).at1 ho11 0 rfl), trivial⟩ fun _ wd12 H13 hb => ?_
        clear H10
        replace hS := hS.below hb
        clear hb
        refine w_if H13 rfl (fun hc => ?_) (fun hc => ?_)
        · replace hm := bT hc hm
          refine s_reg [] [4] [(4, [], .int .i64 v6)] [] H13 (by kernel_rfl) trivial fun _ wd14 H15 hb => ?_
          clear H13
          replace hS := hS.below hb
          clear hb
          refine w_ret ?_
          obtain rfl := someE hm
          have hm := hm_z3
          obtain rfl := someE hm
          exact retR1 H15 rfl rfl ⟨_, rfl, rfl, (hS.sel [] rfl)⟩
        · replace hm := bF hc hm
          refine w_skip ?_
          refine w_reg [] [0, 1, 7, 8] [(0, [], .slice g_s.a s.length g_s.c), (1, [], .string ⟨⟨v_⟩⟩), (7, [], .int .i64 (ln s)), (8, [], .int .i64 (w64 (v6 + 1)))] [] H13 (by kernel_rfl) trivial fun _ wd16 H17 hb => ?_
          clear H13
          replace hS := hS.below hb
          clear hb
          exact ⟨_, Nat.lt_succ_self _, w64 (v6 + 1), hm, Fr.keep (ks := [0, 1, 7, 8]) H17 (by kernel_rfl), hS⟩
      · replace hm := bF hc hm
        refine w_exit rfl ?_
        obtain rfl := someE hm
        exact ⟨_, rfl, Fr.keep (ks := []) H8 (by kernel_rfl), hS⟩
  · rintro _ wd21 ⟨s_z3, hz, H, hS⟩
    subst hz
    replace hm := sumR hm_z3
    replace hS : SH M X w [] _ := hS.sel [] rfl
    refine s_reg [] [4] [(4, [], .int .i64 (-1))] [] H (by kernel_rfl) trivial fun _ wd19 H20 hb => ?_
    clear H
    replace hS := hS.below hb
    clear hb
    refine w_ret ?_
    obtain rfl := someE hm
    exact retR1 H20 rfl rfl ⟨_, rfl, rfl, (hS.sel [] rfl)⟩
theorem slices_Index_string_string_ok {g_s : Gh} (m : Nat) (s : List Str) (v_ : Str) (r : Int) (hm : slices_Index_string_string m s v_ = some r) (w : World) (hL : S0 F0 [Ent.im tS s g_s] w ∧ fpl [Ent.im tS s g_s] = []) : RetB Tryd.prog 37 ⟨[.slice g_s.a s.length g_s.c, .string ⟨⟨v_⟩⟩]⟩ (.int .i64 r) w := retB_of hL (Tryd.call37 _) (fun w' h => slices_Index_string_string_w F0 m   s v_ r hm w' h)

def slices_Contains_string_string (m : Nat) (s : List Str) (v_ : Str) : Option (Bool) :=
  Option.bind (slices_Index_string_string m s v_) fun y3 =>
  some (decide (0 ≤ y3))
theorem slices_Contains_string_string_w {g_s : Gh} (M : Av) (m : Nat) (s : List Str) (v_ : Str) (r : Bool) (hm : slices_Contains_string_string m s v_ = some r) (w : World) (hS : S0 M [Ent.im tS s g_s] w) : Calls Tryd.prog 27 ⟨[.slice g_s.a s.length g_s.c, .string ⟨⟨v_⟩⟩]⟩ w (fun e w' => ∃ v, e = .returned v ∧ v = .bool r ∧ SH M (fpl [Ent.im tS s g_s]) w [] w') := by
  rw [slices_Contains_string_string] at hm
  have hS0 : SH M (fpl [Ent.im tS s g_s]) w [Ent.im tS s g_s] w := hS
  generalize hX : fpl [Ent.im tS s g_s] = X at hS0 ⊢
  clear hS hX
  have hS := hS0
  clear hS0
  refine calls_entryP Tryd.func27 rfl Tryd.ntmps27 rfl fun _ H => ?_
  refine s_reg [] [0, 1] [(0, [], .slice g_s.a s.length g_s.c), (1, [], .string ⟨⟨v_⟩⟩)] [] H (by kernel_rfl) trivial fun _ wd1 H2 hb => ?_
  clear H
  replace hS := hS.below hb
  clear hb
  obtain ⟨y3, hy3, hm⟩ := bindE hm
  refine s_reg [(.int .i64 y3)] [4] [(4, [], .bool (decide (0 ≤ y3)))] [fun wz => RetB Tryd.prog 37 ⟨[.slice g_s.a s.length g_s.c, .string ⟨⟨v_⟩⟩]⟩ (.int .i64 y3) wz] H2 (by kernel_rfl) ⟨(slices_Index_string_string_ok (g_s := g_s) m _ _ _ hy3 _ (s0im s0nil (hS.im 0 rfl))), trivial⟩ fun _ wd4 H5 hb => ?_
  clear H2
  replace hS := hS.below hb
  clear hb
  replace hS : SH M X w [] _ := hS.sel [] rfl
  refine w_ret ?_
  obtain rfl := someE hm
  exact retR1 H5 rfl rfl ⟨_, rfl, rfl, (hS.sel [] rfl)⟩
theorem slices_Contains_string_string_ok {g_s : Gh} (m : Nat) (s : List Str) (v_ : Str) (r : Bool) (hm : slices_Contains_string_string m s v_ = some r) (w : World) (hL : S0 F0 [Ent.im tS s g_s] w ∧ fpl [Ent.im tS s g_s] = []) : RetB Tryd.prog 27 ⟨[.slice g_s.a s.length g_s.c, .string ⟨⟨v_⟩⟩]⟩ (.bool r) w := retB_of hL (Tryd.call27 _) (fun w' h => slices_Contains_string_string_w F0 m   s v_ r hm w' h)

def slices_Index_uint8_uint8_L1 (m : Nat) (s : List Int) (v_ : Int) : Nat → Int → Option (Sum (Int) (Unit))
  | 0, _ => none
  | kk + 1, v6 =>
    cond (decide (v6 < (ln s))) (
    chk (0 ≤ v6 ∧ v6 < ln s) <|
    cond (v_ == (gi s v6)) (
    some (.inl v6)) (
    slices_Index_uint8_uint8_L1 m s v_ kk (w64 (v6 + 1)))) (
    some (.inr ()))
def slices_Index_uint8_uint8 (m : Nat) (s : List Int) (v_ : Int) : Option (Int) :=
  Option.bind (
  slices_Index_uint8_uint8_L1 m s v_ m 0) fun (z3 : Sum (Int) (Unit)) => sumK z3 fun s_z3 =>
  some (-1)
theorem slices_Index_uint8_uint8_w {g_s : Gh} (M : Av) (m : Nat) (s : List Int) (v_ : Int) (r : Int) (hm : slices_Index_uint8_uint8 m s v_ = some r) (w : World) (hS : S0 M [Ent.im (tI .u8) s g_s] w) : Calls Tryd.prog 38 ⟨[.slice g_s.a s.length g_s.c, .int .u8 v_]⟩ w (fun e w' => ∃ v, e = .returned v ∧ v = .int .i64 r ∧ SH M (fpl [Ent.im (tI .u8) s g_s]) w [] w') := by
  rw [slices_Index_uint8_uint8] at hm
  have hS0 : SH M (fpl [Ent.im (tI .u8) s g_s]) w [Ent.im (tI .u8) s g_s] w := hS
  generalize hX : fpl [Ent.im (tI .u8) s g_s] = X at hS0 ⊢
  clear hS hX
  have hS := hS0
  clear hS0
  refine calls_entryP Tryd.func38 rfl Tryd.ntmps38 rfl fun _ H => ?_
  refine s_reg [] [0, 1] [(0, [], .slice g_s.a s.length g_s.c), (1, [], .int .u8 v_)] [] H (by kernel_rfl) trivial fun _ wd1 H2 hb => ?_
  clear H
  replace hS := hS.below hb
  clear hb
  obtain ⟨z3, hz, hm_z3⟩ := bindE hm
  refine w_cut (fun a' w' => ∃ s_z3 : Unit, z3 = Sum.inr s_z3 ∧ Fr 19 [] a' ∧ SH M X w [Ent.im (tI .u8) s g_s] w') ?_ ?_
  · replace hm := hz
    refine s_reg [] [0, 1, 7, 8] [(0, [], .slice g_s.a s.length g_s.c), (1, [], .int .u8 v_), (7, [], .int .i64 (ln s)), (8, [], .int .i64 0)] [] H2 (by kernel_rfl) trivial fun _ wd4 H5 hb => ?_
    clear H2
    replace hS := hS.below hb
    clear hb
    refine w_block ?_
    refine w_loop (fun kk a' w' => ∃ (v6 : Int), slices_Index_uint8_uint8_L1 m s v_ kk v6 = some _ ∧ Fr 19 [(0, [], .slice g_s.a s.length g_s.c), (1, [], .int .u8 v_), (7, [], .int .i64 (ln s)), (8, [], .int .i64 v6)] a' ∧ SH M X w [Ent.im (tI .u8) s g_s] w') ⟨_, 0, hm, Fr.keep (ks := [0, 1, 7, 8]) H5 (by kernel_rfl), hS⟩ ?_
    clear hm H5 hS
    rintro kk _ wd18 ⟨v6, hm, H, hS⟩
    cases kk with
    | zero => exact noneE hm
    | succ kk =>
      rw [slices_Index_uint8_uint8_L1] at hm
      refine s_reg [] [0, 1, 7, 8, 9] [(0, [], .slice g_s.a s.length g_s.c), (1, [], .int .u8 v_), (7, [], .int .i64 (ln s)), (8, [], .int .i64 v6), (9, [], .bool (decide (v6 < (ln s))))] [] H (by kernel_rfl) trivial fun _ wd7 H8 hb => ?_
      clear H
      replace hS := hS.below hb
      clear hb
      refine w_seq ?_
      refine w_if H8 rfl (fun hc => ?_) (fun hc => ?_)
      · replace hm := bT hc hm
        refine w_skip ?_
        refine w_seq ?_
        refine w_block ?_
        refine s_reg [] [0, 1, 5, 7, 8] [(0, [], .slice g_s.a s.length g_s.c), (1, [], .int .u8 v_), (5, [], .int .i64 v6), (7, [], .int .i64 (ln s)), (8, [], .int .i64 v6)] [] H8 (by kernel_rfl) trivial fun _ wd9 H10 hb => ?_
        clear H8
        replace hS := hS.below hb
        clear hb
        obtain ⟨ho11, hm⟩ := chkE hm
        refine s_reg [(.int .u8 (gi s v6))] [0, 1, 5, 7, 8, 16] [(0, [], .slice g_s.a s.length g_s.c), (1, [], .int .u8 v_), (5, [], .int .i64 v6), (7, [], .int .i64 (ln s)), (8, [], .int .i64 v6), (16, [], .bool (v_ == (gi s v6)))] [fun _ => oka g_s.a ∧ 0 ≤ v6 ∧ v6 < ln s, fun wz => V.at1 ⟨ab g_s.a, ao g_s.a + (v6).toNat * 1, none⟩ (.int .u8 (gi s v6)) wz] H10 (by kernel_rfl) ⟨((hS.im 0 rfl).oki ho11), ((hS.im 0 rfl).at1 ho11 0 rfl), trivial⟩ fun _ wd12 H13 hb => ?_
        clear H10
        replace hS := hS.below hb
        clear hb
        refine w_if H13 rfl (fun hc => ?_) (fun hc => ?_)
        · replace hm := bT hc hm
          refine s_reg [] [4] [(4, [], .int .i64 v6)] [] H13 (by kernel_rfl) trivial fun _ wd14 H15 hb => ?_
          clear H13
          replace hS := hS.below hb
          clear hb
          refine w_ret ?_
          obtain rfl := someE hm
          have hm := hm_z3
          obtain rfl := someE hm
          exact retR1 H15 rfl rfl ⟨_, rfl, rfl, (hS.sel [] rfl)⟩
        · replace hm := bF hc hm
          refine w_skip ?_
          refine w_reg [] [0, 1, 7, 8] [(0, [], .slice g_s.a s.length g_s.c), (1, [], .int .u8 v_), (7, [], .int .i64 (ln s)), (8, [], .int .i64 (w64 (v6 + 1)))] [] H13 (by kernel_rfl) trivial fun _ wd16 H17 hb => ?_
          clear H13
          replace hS := hS.below hb
          clear hb
          exact ⟨_, Nat.lt_succ_self _, w64 (v6 + 1), hm, Fr.keep (ks := [0, 1, 7, 8]) H17 (by kernel_rfl), hS⟩
      · replace hm := bF hc hm
        refine w_exit rfl ?_
        obtain rfl := someE hm
        exact ⟨_, rfl, Fr.keep (ks := []) H8 (by kernel_rfl), hS⟩
  · rintro _ wd21 ⟨s_z3, hz, H, hS⟩
    subst hz
    replace hm := sumR hm_z3
    replace hS : SH M X w [] _ := hS.sel [] rfl
    refine s_reg [] [4] [(4, [], .int .i64 (-1))] [] H (by kernel_rfl) trivial fun _ wd19 H20 hb => ?_
    clear H
    replace hS := hS.below hb
    clear hb
    refine w_ret ?_
    obtain rfl := someE hm
    exact retR1 H20 rfl rfl ⟨_, rfl, rfl, (hS.sel [] rfl)⟩
theorem slices_Index_uint8_uint8_ok {g_s : Gh} (m : Nat) (s : List Int) (v_ : Int) (r : Int) (hm : slices_Index_uint8_uint8 m s v_ = some r) (w : World) (hL : S0 F0 [Ent.im (tI .u8) s g_s] w ∧ fpl [Ent.im (tI .u8) s g_s] = []) : RetB Tryd.prog 38 ⟨[.slice g_s.a s.length g_s.c, .int .u8 v_]⟩ (.int .i64 r) w := retB_of hL (Tryd.call38 _) (fun w' h => slices_Index_uint8_uint8_w F0 m   s v_ r hm w' h)

def slices_Contains_uint8_uint8 (m : Nat) (s : List Int) (v_ : Int) : Option (Bool) :=
  Option.bind (slices_Index_uint8_uint8 m s v_) fun y3 =>
  some (decide (0 ≤ y3))
theorem slices_Contains_uint8_uint8_w {g_s : Gh} (M : Av) (m : Nat) (s : List Int) (v_ : Int) (r : Bool) (hm : slices_Contains_uint8_uint8 m s v_ = some r) (w : World) (hS : S0 M [Ent.im (tI .u8) s g_s] w) : Calls Tryd.prog 28 ⟨[.slice g_s.a s.length g_s.c, .int .u8 v_]⟩ w (fun e w' => ∃ v, e = .returned v ∧ v = .bool r ∧ SH M (fpl [Ent.im (tI .u8) s g_s]) w [] w') := by
  rw [slices_Contains_uint8_uint8] at hm
  have hS0 : SH M (fpl [Ent.im (tI .u8) s g_s]) w [Ent.im (tI .u8) s g_s] w := hS
  generalize hX : fpl [Ent.im (tI .u8) s g_s] = X at hS0 ⊢
  clear hS hX
  have hS := hS0
  clear hS0
  refine calls_entryP Tryd.func28 rfl Tryd.ntmps28 rfl fun _ H => ?_
  refine s_reg [] [0, 1] [(0, [], .slice g_s.a s.length g_s.c), (1, [], .int .u8 v_)] [] H (by kernel_rfl) trivial fun _ wd1 H2 hb => ?_
  clear H
  replace hS := hS.below hb
  clear hb
  obtain ⟨y3, hy3, hm⟩ := bindE hm
  refine s_reg [(.int .i64 y3)] [4] [(4, [], .bool (decide (0 ≤ y3)))] [fun wz => RetB Tryd.prog 38 ⟨[.slice g_s.a s.length g_s.c, .int .u8 v_]⟩ (.int .i64 y3) wz] H2 (by kernel_rfl) ⟨(slices_Index_uint8_uint8_ok (g_s := g_s) m _ _ _ hy3 _ (s0im s0nil (hS.im 0 rfl))), trivial⟩ fun _ wd4 H5 hb => ?_
  clear H2
  replace hS := hS.below hb
  clear hb
  replace hS : SH M X w [] _ := hS.sel [] rfl
  refine w_ret ?_
  obtain rfl := someE hm
  exact retR1 H5 rfl rfl ⟨_, rfl, rfl, (hS.sel [] rfl)⟩
theorem slices_Contains_uint8_uint8_ok {g_s : Gh} (m : Nat) (s : List Int) (v_ : Int) (r : Bool) (hm : slices_Contains_uint8_uint8 m s v_ = some r) (w : World) (hL : S0 F0 [Ent.im (tI .u8) s g_s] w ∧ fpl [Ent.im (tI .u8) s g_s] = []) : RetB Tryd.prog 28 ⟨[.slice g_s.a s.length g_s.c, .int .u8 v_]⟩ (.bool r) w := retB_of hL (Tryd.call28 _) (fun w' h => slices_Contains_uint8_uint8_w F0 m   s v_ r hm w' h)

def props_Has (m : Nat) (prop : Int) (v_ : TVal) : Option (Bool × Int) :=
  lt (cond (decide (prop < 0)) true (decide (18 ≤ prop))) fun x6 =>
  cond x6 (
  some (false, 2)) (
  Option.bind (props_Table m) fun y11 =>
  chk (0 ≤ prop ∧ prop < ln y11) <|
  Option.bind (props_Check v_) fun y24 =>
  cond (y24 != 0) (
  some (false, 0)) (
  cond (v_.Kind == 1) (
  Option.bind (slices_Contains_string_string m ((gi y11 prop).Words) v_.Word) fun y31 =>
  some (y31, 0)) (
  Option.bind (slices_Contains_uint8_uint8 m ((gi y11 prop).Kinds) v_.Kind) fun y34 =>
  lt (cond y34 (cond (!((gi y11 prop).Least)) true (decide (0 ≤ v_.Num))) false) fun x35 =>
  some (x35, 0))))
end Go.Proofs.YtfcnkhiohnjepaaDoor
