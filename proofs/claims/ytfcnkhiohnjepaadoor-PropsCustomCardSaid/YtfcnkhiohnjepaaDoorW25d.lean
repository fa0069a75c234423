/-
  What the Go functions compute, as Lean functions, and that a call returns just that. Printed by a program.
-/
import Derived.Test.YtfcnkhiohnjepaaDoorRows
import Derived.Test.YtfcnkhiohnjepaaDoorD
import Derived.Test.YtfcnkhiohnjepaaDoorW25c
set_option linter.unusedVariables false
set_option maxRecDepth 20000
set_option maxHeartbeats 4000000
namespace Go.Proofs.YtfcnkhiohnjepaaDoor
open Go.V Go.RowKit

theorem law25_PropsHas_w  (M : Av) (m : Nat) (prop : Int) (v_ : TVal) (r : Bool) (hm : law25_PropsHas m prop v_ = some r) (w : World) (hS : S0 M [Ent.im (tI .u8) gl_strings_asciiSpace (Gh.mk (some ⟨0, 0, none⟩) 256 fun _ _ => .nil)] w) : Calls Tryd.prog 7 ⟨[.int .i64 prop, .agg ⟨[.int .u8 v_.Kind, .string ⟨⟨v_.Word⟩⟩, .int .i64 v_.Num, .int .u8 v_.Color.Red, .int .u8 v_.Color.Green, .int .u8 v_.Color.Blue, .int .u8 v_.Color.Alpha]⟩]⟩ w (fun e w' => ∃ v, e = .returned v ∧ v = .bool r ∧ SH M (fpl [Ent.im (tI .u8) gl_strings_asciiSpace (Gh.mk (some ⟨0, 0, none⟩) 256 fun _ _ => .nil)]) w [] w') := by
  rw [law25_PropsHas] at hm
  have hS0 : SH M (fpl [Ent.im (tI .u8) gl_strings_asciiSpace (Gh.mk (some ⟨0, 0, none⟩) 256 fun _ _ => .nil)]) w [Ent.im (tI .u8) gl_strings_asciiSpace (Gh.mk (some ⟨0, 0, none⟩) 256 fun _ _ => .nil)] w := hS
  generalize hX : fpl [Ent.im (tI .u8) gl_strings_asciiSpace (Gh.mk (some ⟨0, 0, none⟩) 256 fun _ _ => .nil)] = X at hS0 ⊢
  clear hS hX
  have hS := hS0
  clear hS0
  refine calls_entryP Tryd.func7 rfl Tryd.ntmps7 rfl fun _ H => ?_
  refine w_seq ?_
  refine wl_start ?_
  have hd : S0 (AvL M [Ent.im (tI .u8) gl_strings_asciiSpace (Gh.mk (some ⟨0, 0, none⟩) 256 fun _ _ => .nil)]) [] _ := hS.hand [] [0] rfl rfl
  refine m_stp [3, 0] [(0, [], .int .i64 prop)] H rfl rfl rfl rfl (o_box [.int .u8 v_.Kind, .string ⟨⟨v_.Word⟩⟩, .int .i64 v_.Num, .int .u8 v_.Color.Red, .int .u8 v_.Color.Green, .int .u8 v_.Color.Blue, .int .u8 v_.Color.Alpha] H hd rfl rfl) (fun _ => rfl) fun _ wd2 v H3 hq => ?_
  clear H hd
  obtain ⟨b1, rfl, hq⟩ := hq
  replace hS : SH M X w [Ent.blk b1 [.int .u8 v_.Kind, .string ⟨⟨v_.Word⟩⟩, .int .i64 v_.Num, .int .u8 v_.Color.Red, .int .u8 v_.Color.Green, .int .u8 v_.Color.Blue, .int .u8 v_.Color.Alpha], Ent.im (tI .u8) gl_strings_asciiSpace (Gh.mk (some ⟨0, 0, none⟩) 256 fun _ _ => .nil)] _ := hS.join [] [0] rfl rfl hq
  clear hq
  refine wl_batch 1 2 [] [0, 3] [(0, [], .int .i64 prop), (3, [], .pointer (some ⟨b1, 0, none⟩))] [] H3 (by decide) (by kernel_rfl) trivial fun _ wd4 H5 hb => ?_
  clear H3
  replace hS := hS.below hb
  clear hb
  refine wl_end rfl ?_
  obtain ⟨y6, hy6, hm⟩ := bindE hm
  refine s_reg [(.bool y6)] [0, 3, 5] [(0, [], .int .i64 prop), (3, [], .pointer (some ⟨b1, 0, none⟩)), (5, [], .bool y6)] [fun wz => RetB Tryd.prog 20 ⟨[]⟩ (.bool y6) wz] H5 (by kernel_rfl) ⟨(law25_alive_ok m _ hy6 _ (s0im s0nil (hS.im 1 rfl))), trivial⟩ fun _ wd7 H8 hb => ?_
  clear H5
  replace hS := hS.below hb
  clear hb
  refine w_seq ?_
  refine wl_start ?_
  obtain ⟨y9, hy9, hm⟩ := bindE hm
  have hd : S0 (AvL M [Ent.blk b1 [.int .u8 v_.Kind, .string ⟨⟨v_.Word⟩⟩, .int .i64 v_.Num, .int .u8 v_.Color.Red, .int .u8 v_.Color.Green, .int .u8 v_.Color.Blue, .int .u8 v_.Color.Alpha], Ent.im (tI .u8) gl_strings_asciiSpace (Gh.mk (some ⟨0, 0, none⟩) 256 fun _ _ => .nil)]) [Ent.im (tI .u8) gl_strings_asciiSpace (Gh.mk (some ⟨0, 0, none⟩) 256 fun _ _ => .nil)] _ := hS.hand [1] [0, 1] rfl rfl
  refine m_stp [14, 0, 3, 5] [(0, [], .int .i64 prop), (3, [], .pointer (some ⟨b1, 0, none⟩)), (5, [], .bool y6)] H8 rfl rfl rfl rfl (o_callx H8 rfl rfl (props_Table_ok m _ hy9 _ _ hd)) (fun _ => rfl) fun _ wd12 v H13 hq => ?_
  clear H8 hd
  obtain ⟨g10, rfl, hq⟩ := hq
  replace hS : SH M X w [Ent.own 51 tyProp y9 g10, Ent.blk b1 [.int .u8 v_.Kind, .string ⟨⟨v_.Word⟩⟩, .int .i64 v_.Num, .int .u8 v_.Color.Red, .int .u8 v_.Color.Green, .int .u8 v_.Color.Blue, .int .u8 v_.Color.Alpha], Ent.im (tI .u8) gl_strings_asciiSpace (Gh.mk (some ⟨0, 0, none⟩) 256 fun _ _ => .nil)] _ := hS.join [1] [0, 1] rfl rfl hq
  clear hq
  refine wl_batch 1 2 [] [0, 3, 5, 6] [(0, [], .int .i64 prop), (3, [], .pointer (some ⟨b1, 0, none⟩)), (5, [], .bool y6), (6, [], .slice g10.a y9.length g10.c)] [] H13 (by decide) (by kernel_rfl) trivial fun _ wd14 H15 hb => ?_
  clear H13
  replace hS := hS.below hb
  clear hb
  refine wl_end rfl ?_
  refine w_seq ?_
  obtain ⟨x16, hx16, hm⟩ := letE hm
  obtain ⟨x17, hx17, hm⟩ := letE hm
  refine s_reg [(.string ⟨⟨v_.Word⟩⟩)] [0, 3, 5, 6, 35] [(0, [], .int .i64 prop), (3, [], .pointer (some ⟨b1, 0, none⟩)), (5, [], .bool y6), (6, [], .slice g10.a y9.length g10.c), (35, [], .bool (cond x17 true (!y6)))] [fun wz => ((cond x16 true ((ln y9) != 18)) = false ∧ True → V.at1 ⟨b1, 1, none⟩ (.string ⟨⟨v_.Word⟩⟩) wz)] H15 (by subst hx16 hx17; kernel_rfl) ⟨fun hg => (hS.bk 1 rfl).at1 rfl, trivial⟩ fun _ wd18 H19 hb => ?_
  clear H15
  replace hS := hS.below hb
  clear hb
  refine w_if H19 rfl (fun hc => ?_) (fun hc => ?_)
  · replace hm := bT hc hm
    refine s_reg [] [4] [(4, [], .bool y6)] [] H19 (by kernel_rfl) trivial fun _ wd20 H21 hb => ?_
    clear H19
    replace hS := hS.below hb
    clear hb
    replace hS : SH M X w [Ent.im (tI .u8) gl_strings_asciiSpace (Gh.mk (some ⟨0, 0, none⟩) 256 fun _ _ => .nil)] _ := hS.sel [2] rfl
    refine w_ret ?_
    obtain rfl := someE hm
    exact retR1 H21 rfl rfl ⟨_, rfl, rfl, (hS.sel [] rfl)⟩
  · replace hm := bF hc hm
    refine w_skip ?_
    obtain ⟨y22, hy22, hm⟩ := bindE hm
    refine s_reg [(.agg ⟨[.int .u8 v_.Kind, .string ⟨⟨v_.Word⟩⟩, .int .i64 v_.Num, .int .u8 v_.Color.Red, .int .u8 v_.Color.Green, .int .u8 v_.Color.Blue, .int .u8 v_.Color.Alpha]⟩), (.tuple ⟨[.bool y22.1, .int .i64 y22.2]⟩)] [0, 3, 5, 6, 7, 8] [(0, [], .int .i64 prop), (3, [], .pointer (some ⟨b1, 0, none⟩)), (5, [], .bool y6), (6, [], .slice g10.a y9.length g10.c), (7, [], .bool y22.1), (8, [], .int .i64 y22.2)] [fun wz => V.atN b1 0 [.int .u8 v_.Kind, .string ⟨⟨v_.Word⟩⟩, .int .i64 v_.Num, .int .u8 v_.Color.Red, .int .u8 v_.Color.Green, .int .u8 v_.Color.Blue, .int .u8 v_.Color.Alpha] 0 wz, fun wz => RetB Tryd.prog 13 ⟨[.int .i64 prop, .agg ⟨[.int .u8 v_.Kind, .string ⟨⟨v_.Word⟩⟩, .int .i64 v_.Num, .int .u8 v_.Color.Red, .int .u8 v_.Color.Green, .int .u8 v_.Color.Blue, .int .u8 v_.Color.Alpha]⟩]⟩ (.tuple ⟨[.bool y22.1, .int .i64 y22.2]⟩) wz] H19 (by kernel_rfl) ⟨((hS.bk 1 rfl).atD rfl), (props_Has_ok m _ _ _ hy22 _ (s0im s0nil (hS.im 2 rfl))), trivial⟩ fun _ wd23 H24 hb => ?_
    clear H19
    replace hS := hS.below hb
    clear hb
    refine w_seq ?_
    refine s_reg [] [0, 3, 5, 6, 7, 44] [(0, [], .int .i64 prop), (3, [], .pointer (some ⟨b1, 0, none⟩)), (5, [], .bool y6), (6, [], .slice g10.a y9.length g10.c), (7, [], .bool y22.1), (44, [], .bool (y22.2 != 0))] [] H24 (by kernel_rfl) trivial fun _ wd25 H26 hb => ?_
    clear H24
    replace hS := hS.below hb
    clear hb
    refine w_if H26 rfl (fun hc => ?_) (fun hc => ?_)
    · replace hm := bT hc hm
      refine s_reg [] [4] [(4, [], .bool false)] [] H26 (by kernel_rfl) trivial fun _ wd27 H28 hb => ?_
      clear H26
      replace hS := hS.below hb
      clear hb
      replace hS : SH M X w [Ent.im (tI .u8) gl_strings_asciiSpace (Gh.mk (some ⟨0, 0, none⟩) 256 fun _ _ => .nil)] _ := hS.sel [2] rfl
      refine w_ret ?_
      obtain rfl := someE hm
      exact retR1 H28 rfl rfl ⟨_, rfl, rfl, (hS.sel [] rfl)⟩
    · replace hm := bF hc hm
      refine w_skip ?_
      refine w_seq ?_
      refine wl_start ?_
      obtain ⟨ho29, hm⟩ := chkE hm
      refine wl_batch 0 4 [(.agg ⟨[.string ⟨⟨(gi y9 prop).Name⟩⟩, .bool ((gi y9 prop).Inherited), .int .u8 ((gi y9 prop).Initial.Kind), .string ⟨⟨(gi y9 prop).Initial.Word⟩⟩, .int .i64 ((gi y9 prop).Initial.Num), .int .u8 ((gi y9 prop).Initial.Color.Red), .int .u8 ((gi y9 prop).Initial.Color.Green), .int .u8 ((gi y9 prop).Initial.Color.Blue), .int .u8 ((gi y9 prop).Initial.Color.Alpha), .slice (g10.s (prop).toNat 0).a (((gi y9 prop).Words).length) (g10.s (prop).toNat 0).c, .slice (g10.s (prop).toNat 1).a (((gi y9 prop).Kinds).length) (g10.s (prop).toNat 1).c, .bool ((gi y9 prop).Least)]⟩)] [3, 5, 7, 48] [(3, [], .pointer (some ⟨b1, 0, none⟩)), (5, [], .bool y6), (7, [], .bool y22.1), (48, [], .agg ⟨[.string ⟨⟨(gi y9 prop).Name⟩⟩, .bool ((gi y9 prop).Inherited), .int .u8 ((gi y9 prop).Initial.Kind), .string ⟨⟨(gi y9 prop).Initial.Word⟩⟩, .int .i64 ((gi y9 prop).Initial.Num), .int .u8 ((gi y9 prop).Initial.Color.Red), .int .u8 ((gi y9 prop).Initial.Color.Green), .int .u8 ((gi y9 prop).Initial.Color.Blue), .int .u8 ((gi y9 prop).Initial.Color.Alpha), .slice (g10.s (prop).toNat 0).a (((gi y9 prop).Words).length) (g10.s (prop).toNat 0).c, .slice (g10.s (prop).toNat 1).a (((gi y9 prop).Kinds).length) (g10.s (prop).toNat 1).c, .bool ((gi y9 prop).Least)]⟩)] [fun _ => oka g10.a ∧ 0 ≤ prop ∧ prop < ln y9, fun wz => V.atN (ab g10.a) (ao g10.a + (prop).toNat * 12) [.string ⟨⟨(gi y9 prop).Name⟩⟩, .bool ((gi y9 prop).Inherited), .int .u8 ((gi y9 prop).Initial.Kind), .string ⟨⟨(gi y9 prop).Initial.Word⟩⟩, .int .i64 ((gi y9 prop).Initial.Num), .int .u8 ((gi y9 prop).Initial.Color.Red), .int .u8 ((gi y9 prop).Initial.Color.Green), .int .u8 ((gi y9 prop).Initial.Color.Blue), .int .u8 ((gi y9 prop).Initial.Color.Alpha), .slice (g10.s (prop).toNat 0).a (((gi y9 prop).Words).length) (g10.s (prop).toNat 0).c, .slice (g10.s (prop).toNat 1).a (((gi y9 prop).Kinds).length) (g10.s (prop).toNat 1).c, .bool ((gi y9 prop).Least)] 0 wz] H26 (by decide) (by kernel_rfl) ⟨((hS.osl 0 rfl).oki ho29), ((hS.osl 0 rfl).atA ho29 0 rfl), trivial⟩ fun _ wd30 H31 hb => ?_
      clear H26
      replace hS := hS.below hb
      clear hb
      have hd : S0 (AvL M [Ent.own 51 tyProp y9 g10, Ent.blk b1 [.int .u8 v_.Kind, .string ⟨⟨v_.Word⟩⟩, .int .i64 v_.Num, .int .u8 v_.Color.Red, .int .u8 v_.Color.Green, .int .u8 v_.Color.Blue, .int .u8 v_.Color.Alpha], Ent.im (tI .u8) gl_strings_asciiSpace (Gh.mk (some ⟨0, 0, none⟩) 256 fun _ _ => .nil)]) [] _ := hS.hand [] [0, 1, 2] rfl rfl
      refine m_stp [9, 3, 5, 7, 48] [(3, [], .pointer (some ⟨b1, 0, none⟩)), (5, [], .bool y6), (7, [], .bool y22.1), (48, [], .agg ⟨[.string ⟨⟨(gi y9 prop).Name⟩⟩, .bool ((gi y9 prop).Inherited), .int .u8 ((gi y9 prop).Initial.Kind), .string ⟨⟨(gi y9 prop).Initial.Word⟩⟩, .int .i64 ((gi y9 prop).Initial.Num), .int .u8 ((gi y9 prop).Initial.Color.Red), .int .u8 ((gi y9 prop).Initial.Color.Green), .int .u8 ((gi y9 prop).Initial.Color.Blue), .int .u8 ((gi y9 prop).Initial.Color.Alpha), .slice (g10.s (prop).toNat 0).a (((gi y9 prop).Words).length) (g10.s (prop).toNat 0).c, .slice (g10.s (prop).toNat 1).a (((gi y9 prop).Kinds).length) (g10.s (prop).toNat 1).c, .bool ((gi y9 prop).Least)]⟩)] H31 rfl rfl rfl rfl (o_alloc [.string ⟨⟨[]⟩⟩, .bool false, .int .u8 0, .string ⟨⟨[]⟩⟩, .int .i64 0, .int .u8 0, .int .u8 0, .int .u8 0, .int .u8 0, .slice none 0 0, .slice none 0 0, .bool false] (z := .agg ⟨[.string ⟨⟨[]⟩⟩, .bool false, .int .u8 0, .string ⟨⟨[]⟩⟩, .int .i64 0, .int .u8 0, .int .u8 0, .int .u8 0, .int .u8 0, .slice none 0 0, .slice none 0 0, .bool false]⟩) hd (by kernel_rfl) rfl) (fun _ => rfl) fun _ wd33 v H34 hq => ?_
      clear H31 hd
      obtain ⟨b32, rfl, hq⟩ := hq
      replace hS : SH M X w [Ent.blk b32 [.string ⟨⟨[]⟩⟩, .bool false, .int .u8 0, .string ⟨⟨[]⟩⟩, .int .i64 0, .int .u8 0, .int .u8 0, .int .u8 0, .int .u8 0, .slice none 0 0, .slice none 0 0, .bool false], Ent.own 51 tyProp y9 g10, Ent.blk b1 [.int .u8 v_.Kind, .string ⟨⟨v_.Word⟩⟩, .int .i64 v_.Num, .int .u8 v_.Color.Red, .int .u8 v_.Color.Green, .int .u8 v_.Color.Blue, .int .u8 v_.Color.Alpha], Ent.im (tI .u8) gl_strings_asciiSpace (Gh.mk (some ⟨0, 0, none⟩) 256 fun _ _ => .nil)] _ := hS.join [] [0, 1, 2] rfl rfl hq
      clear hq
      have hd : S0 (AvL M [Ent.own 51 tyProp y9 g10, Ent.blk b1 [.int .u8 v_.Kind, .string ⟨⟨v_.Word⟩⟩, .int .i64 v_.Num, .int .u8 v_.Color.Red, .int .u8 v_.Color.Green, .int .u8 v_.Color.Blue, .int .u8 v_.Color.Alpha], Ent.im (tI .u8) gl_strings_asciiSpace (Gh.mk (some ⟨0, 0, none⟩) 256 fun _ _ => .nil)]) [Ent.blk b32 [.string ⟨⟨[]⟩⟩, .bool false, .int .u8 0, .string ⟨⟨[]⟩⟩, .int .i64 0, .int .u8 0, .int .u8 0, .int .u8 0, .int .u8 0, .slice none 0 0, .slice none 0 0, .bool false]] _ := hS.hand [0] [1, 2, 3] rfl rfl
      refine m_stp0 [3, 5, 7, 9] [(3, [], .pointer (some ⟨b1, 0, none⟩)), (5, [], .bool y6), (7, [], .bool y22.1), (9, [], .pointer (some ⟨b32, 0, none⟩))] H34 rfl rfl rfl (o_store [.string ⟨⟨(gi y9 prop).Name⟩⟩, .bool ((gi y9 prop).Inherited), .int .u8 ((gi y9 prop).Initial.Kind), .string ⟨⟨(gi y9 prop).Initial.Word⟩⟩, .int .i64 ((gi y9 prop).Initial.Num), .int .u8 ((gi y9 prop).Initial.Color.Red), .int .u8 ((gi y9 prop).Initial.Color.Green), .int .u8 ((gi y9 prop).Initial.Color.Blue), .int .u8 ((gi y9 prop).Initial.Color.Alpha), .slice (g10.s (prop).toNat 0).a (((gi y9 prop).Words).length) (g10.s (prop).toNat 0).c, .slice (g10.s (prop).toNat 1).a (((gi y9 prop).Kinds).length) (g10.s (prop).toNat 1).c, .bool ((gi y9 prop).Least)] H34 hd rfl rfl (by kernel_rfl) rfl rfl rfl) rfl fun _ wd35 H36 hq => ?_
      clear H34 hd
      obtain ⟨_, hq⟩ := hq
      replace hS : SH M X w [Ent.blk b32 [.string ⟨⟨(gi y9 prop).Name⟩⟩, .bool ((gi y9 prop).Inherited), .int .u8 ((gi y9 prop).Initial.Kind), .string ⟨⟨(gi y9 prop).Initial.Word⟩⟩, .int .i64 ((gi y9 prop).Initial.Num), .int .u8 ((gi y9 prop).Initial.Color.Red), .int .u8 ((gi y9 prop).Initial.Color.Green), .int .u8 ((gi y9 prop).Initial.Color.Blue), .int .u8 ((gi y9 prop).Initial.Color.Alpha), .slice (g10.s (prop).toNat 0).a (((gi y9 prop).Words).length) (g10.s (prop).toNat 0).c, .slice (g10.s (prop).toNat 1).a (((gi y9 prop).Kinds).length) (g10.s (prop).toNat 1).c, .bool ((gi y9 prop).Least)], Ent.own 51 tyProp y9 g10, Ent.blk b1 [.int .u8 v_.Kind, .string ⟨⟨v_.Word⟩⟩, .int .i64 v_.Num, .int .u8 v_.Color.Red, .int .u8 v_.Color.Green, .int .u8 v_.Color.Blue, .int .u8 v_.Color.Alpha], Ent.im (tI .u8) gl_strings_asciiSpace (Gh.mk (some ⟨0, 0, none⟩) 256 fun _ _ => .nil)] _ := hS.join [0] [1, 2, 3] rfl rfl hq
      clear hq
      refine wl_end rfl ?_
      refine s_reg [] [3, 5, 7, 9, 10] [(3, [], .pointer (some ⟨b1, 0, none⟩)), (5, [], .bool y6), (7, [], .bool y22.1), (9, [], .pointer (some ⟨b32, 0, none⟩)), (10, [], .bool false)] [] H36 (by kernel_rfl) trivial fun _ wd37 H38 hb => ?_
      clear H36
      replace hS := hS.below hb
      clear hb
      obtain ⟨z39, hz, hm⟩ := bindE hm
      refine w_cut (fun a' w' => Fr 109 [(3, [], .pointer (some ⟨b1, 0, none⟩)), (5, [], .bool y6), (7, [], .bool y22.1), (9, [], .pointer (some ⟨b32, 0, none⟩)), (10, [], .bool z39)] a' ∧ SH M X w [Ent.blk b32 [.string ⟨⟨(gi y9 prop).Name⟩⟩, .bool ((gi y9 prop).Inherited), .int .u8 ((gi y9 prop).Initial.Kind), .string ⟨⟨(gi y9 prop).Initial.Word⟩⟩, .int .i64 ((gi y9 prop).Initial.Num), .int .u8 ((gi y9 prop).Initial.Color.Red), .int .u8 ((gi y9 prop).Initial.Color.Green), .int .u8 ((gi y9 prop).Initial.Color.Blue), .int .u8 ((gi y9 prop).Initial.Color.Alpha), .slice (g10.s (prop).toNat 0).a (((gi y9 prop).Words).length) (g10.s (prop).toNat 0).c, .slice (g10.s (prop).toNat 1).a (((gi y9 prop).Kinds).length) (g10.s (prop).toNat 1).c, .bool ((gi y9 prop).Least)], Ent.own 51 tyProp y9 g10, Ent.blk b1 [.int .u8 v_.Kind, .string ⟨⟨v_.Word⟩⟩, .int .i64 v_.Num, .int .u8 v_.Color.Red, .int .u8 v_.Color.Green, .int .u8 v_.Color.Blue, .int .u8 v_.Color.Alpha], Ent.im (tI .u8) gl_strings_asciiSpace (Gh.mk (some ⟨0, 0, none⟩) 256 fun _ _ => .nil)] w') ?_ ?_
      · replace hm := hz
        refine s_reg [(.int .u8 v_.Kind)] [3, 5, 7, 9, 10, 51] [(3, [], .pointer (some ⟨b1, 0, none⟩)), (5, [], .bool y6), (7, [], .bool y22.1), (9, [], .pointer (some ⟨b32, 0, none⟩)), (10, [], .bool false), (51, [], .bool (v_.Kind == 1))] [fun wz => V.at1 ⟨b1, 0, none⟩ (.int .u8 v_.Kind) wz] H38 (by kernel_rfl) ⟨((hS.bk 2 rfl).at1 rfl), trivial⟩ fun _ wd40 H41 hb => ?_
        clear H38
        replace hS := hS.below hb
        clear hb
        refine w_if H41 rfl (fun hc => ?_) (fun hc => ?_)
        · replace hm := bT hc hm
          refine s_reg [] [3, 5, 7, 9, 10, 11] [(3, [], .pointer (some ⟨b1, 0, none⟩)), (5, [], .bool y6), (7, [], .bool y22.1), (9, [], .pointer (some ⟨b32, 0, none⟩)), (10, [], .bool false), (11, [], .int .i64 0)] [] H41 (by kernel_rfl) trivial fun _ wd42 H43 hb => ?_
          clear H41
          replace hS := hS.below hb
          clear hb
          refine w_block ?_
          refine w_loop (fun kk a' w' => ∃ (v44 : Bool) (v45 : Int), law25_PropsHas_L1 m prop v_ y9 kk v44 v45 = some _ ∧ Fr 109 [(3, [], .pointer (some ⟨b1, 0, none⟩)), (5, [], .bool y6), (7, [], .bool y22.1), (9, [], .pointer (some ⟨b32, 0, none⟩)), (10, [], .bool v44), (11, [], .int .i64 v45)] a' ∧ SH M X w [Ent.blk b32 [.string ⟨⟨(gi y9 prop).Name⟩⟩, .bool ((gi y9 prop).Inherited), .int .u8 ((gi y9 prop).Initial.Kind), .string ⟨⟨(gi y9 prop).Initial.Word⟩⟩, .int .i64 ((gi y9 prop).Initial.Num), .int .u8 ((gi y9 prop).Initial.Color.Red), .int .u8 ((gi y9 prop).Initial.Color.Green), .int .u8 ((gi y9 prop).Initial.Color.Blue), .int .u8 ((gi y9 prop).Initial.Color.Alpha), .slice (g10.s (prop).toNat 0).a (((gi y9 prop).Words).length) (g10.s (prop).toNat 0).c, .slice (g10.s (prop).toNat 1).a (((gi y9 prop).Kinds).length) (g10.s (prop).toNat 1).c, .bool ((gi y9 prop).Least)], Ent.own 51 tyProp y9 g10, Ent.blk b1 [.int .u8 v_.Kind, .string ⟨⟨v_.Word⟩⟩, .int .i64 v_.Num, .int .u8 v_.Color.Red, .int .u8 v_.Color.Green, .int .u8 v_.Color.Blue, .int .u8 v_.Color.Alpha], Ent.im (tI .u8) gl_strings_asciiSpace (Gh.mk (some ⟨0, 0, none⟩) 256 fun _ _ => .nil)] w') ⟨_, false, 0, hm, Fr.keep (ks := [3, 5, 7, 9, 10, 11]) H43 (by kernel_rfl), hS⟩ ?_
          clear hm H43 hS
          rintro kk _ wd54 ⟨v44, v45, hm, H, hS⟩
          cases kk with
          | zero => exact noneE hm
          | succ kk =>
            rw [law25_PropsHas_L1] at hm
            refine w_seq ?_
            refine s_reg [(.slice (g10.s (prop).toNat 0).a (((gi y9 prop).Words).length) (g10.s (prop).toNat 0).c)] [3, 5, 7, 9, 10, 11, 56] [(3, [], .pointer (some ⟨b1, 0, none⟩)), (5, [], .bool y6), (7, [], .bool y22.1), (9, [], .pointer (some ⟨b32, 0, none⟩)), (10, [], .bool v44), (11, [], .int .i64 v45), (56, [], .bool (decide (v45 < (ln ((gi y9 prop).Words)))))] [fun wz => V.at1 ⟨b32, 9, none⟩ (.slice (g10.s (prop).toNat 0).a (((gi y9 prop).Words).length) (g10.s (prop).toNat 0).c) wz] H (by kernel_rfl) ⟨((hS.bk 0 rfl).at1 rfl), trivial⟩ fun _ wd46 H47 hb => ?_
            clear H
            replace hS := hS.below hb
            clear hb
            refine w_if H47 rfl (fun hc => ?_) (fun hc => ?_)
            · replace hm := bT hc hm
              refine w_skip ?_
              refine w_seq ?_
              refine w_block ?_
              obtain ⟨ho48, hm⟩ := chkE hm
              obtain ⟨x49, hx49, hm⟩ := letE hm
              refine w_draw [(.slice (g10.s (prop).toNat 0).a (((gi y9 prop).Words).length) (g10.s (prop).toNat 0).c), (.string ⟨⟨(gi ((gi y9 prop).Words) v45)⟩⟩), (.string ⟨⟨v_.Word⟩⟩)] [3, 5, 7, 9, 10, 11] [(3, [], .pointer (some ⟨b1, 0, none⟩)), (5, [], .bool y6), (7, [], .bool y22.1), (9, [], .pointer (some ⟨b32, 0, none⟩)), (10, [], .bool x49), (11, [], .int .i64 v45)] [fun wz => (v44 = false ∧ True → V.at1 ⟨b32, 9, none⟩ (.slice (g10.s (prop).toNat 0).a (((gi y9 prop).Words).length) (g10.s (prop).toNat 0).c) wz), fun _ => (v44 = false ∧ True → oka (g10.s (prop).toNat 0).a ∧ 0 ≤ v45 ∧ v45 < ln ((gi y9 prop).Words)), fun wz => (v44 = false ∧ True → V.at1 ⟨ab (g10.s (prop).toNat 0).a, ao (g10.s (prop).toNat 0).a + (v45).toNat * 1, none⟩ (.string ⟨⟨(gi ((gi y9 prop).Words) v45)⟩⟩) wz), fun wz => (v44 = false ∧ True → V.at1 ⟨b1, 1, none⟩ (.string ⟨⟨v_.Word⟩⟩) wz)] H47 (by kernel_rfl) (by kernel_rfl) (by subst hx49; kernel_rfl) ⟨fun hg => (hS.bk 0 rfl).at1 rfl, fun hg => (tyProp_i0 ((hS.osl 1 rfl).el ho29)).oki (ho48 hg.1), fun hg => (tyProp_i0 ((hS.osl 1 rfl).el ho29)).at1 (ho48 hg.1) 0 rfl, fun hg => (hS.bk 2 rfl).at1 rfl, trivial⟩ fun _ wd50 H51 hb => ?_
              clear H47
              replace hS := hS.below hb
              clear hb
              refine w_reg [] [3, 5, 7, 9, 10, 11] [(3, [], .pointer (some ⟨b1, 0, none⟩)), (5, [], .bool y6), (7, [], .bool y22.1), (9, [], .pointer (some ⟨b32, 0, none⟩)), (10, [], .bool x49), (11, [], .int .i64 (w64 (v45 + 1)))] [] H51 (by kernel_rfl) trivial fun _ wd52 H53 hb => ?_
              clear H51
              replace hS := hS.below hb
              clear hb
              exact ⟨_, Nat.lt_succ_self _, x49, w64 (v45 + 1), hm, Fr.keep (ks := [3, 5, 7, 9, 10, 11]) H53 (by kernel_rfl), hS⟩
            · replace hm := bF hc hm
              refine w_exit rfl ?_
              obtain rfl := someE hm
              exact ⟨Fr.keep (ks := [3, 5, 7, 9, 10]) H47 (by kernel_rfl), hS⟩
        · replace hm := bF hc hm
          refine w_skip ?_
          obtain rfl := someE hm
          exact ⟨Fr.keep (ks := [3, 5, 7, 9, 10]) H41 (by kernel_rfl), hS⟩
      · rintro _ wd74 ⟨H, hS⟩
        obtain ⟨z55, hz, hm⟩ := bindE hm
        refine w_cut (fun a' w' => Fr 109 [(3, [], .pointer (some ⟨b1, 0, none⟩)), (5, [], .bool y6), (7, [], .bool y22.1), (10, [], .bool z55)] a' ∧ SH M X w [Ent.blk b32 [.string ⟨⟨(gi y9 prop).Name⟩⟩, .bool ((gi y9 prop).Inherited), .int .u8 ((gi y9 prop).Initial.Kind), .string ⟨⟨(gi y9 prop).Initial.Word⟩⟩, .int .i64 ((gi y9 prop).Initial.Num), .int .u8 ((gi y9 prop).Initial.Color.Red), .int .u8 ((gi y9 prop).Initial.Color.Green), .int .u8 ((gi y9 prop).Initial.Color.Blue), .int .u8 ((gi y9 prop).Initial.Color.Alpha), .slice (g10.s (prop).toNat 0).a (((gi y9 prop).Words).length) (g10.s (prop).toNat 0).c, .slice (g10.s (prop).toNat 1).a (((gi y9 prop).Kinds).length) (g10.s (prop).toNat 1).c, .bool ((gi y9 prop).Least)], Ent.own 51 tyProp y9 g10, Ent.blk b1 [.int .u8 v_.Kind, .string ⟨⟨v_.Word⟩⟩, .int .i64 v_.Num, .int .u8 v_.Color.Red, .int .u8 v_.Color.Green, .int .u8 v_.Color.Blue, .int .u8 v_.Color.Alpha], Ent.im (tI .u8) gl_strings_asciiSpace (Gh.mk (some ⟨0, 0, none⟩) 256 fun _ _ => .nil)] w') ?_ ?_
        · replace hm := hz
          refine s_reg [] [3, 5, 7, 9, 10, 12] [(3, [], .pointer (some ⟨b1, 0, none⟩)), (5, [], .bool y6), (7, [], .bool y22.1), (9, [], .pointer (some ⟨b32, 0, none⟩)), (10, [], .bool z39), (12, [], .int .i64 0)] [] H (by kernel_rfl) trivial fun _ wd56 H57 hb => ?_
          clear H
          replace hS := hS.below hb
          clear hb
          refine w_block ?_
          refine w_loop (fun kk a' w' => ∃ (v58 : Bool) (v59 : Int), law25_PropsHas_L2 m prop v_ y9 kk v58 v59 = some _ ∧ Fr 109 [(3, [], .pointer (some ⟨b1, 0, none⟩)), (5, [], .bool y6), (7, [], .bool y22.1), (9, [], .pointer (some ⟨b32, 0, none⟩)), (10, [], .bool v58), (12, [], .int .i64 v59)] a' ∧ SH M X w [Ent.blk b32 [.string ⟨⟨(gi y9 prop).Name⟩⟩, .bool ((gi y9 prop).Inherited), .int .u8 ((gi y9 prop).Initial.Kind), .string ⟨⟨(gi y9 prop).Initial.Word⟩⟩, .int .i64 ((gi y9 prop).Initial.Num), .int .u8 ((gi y9 prop).Initial.Color.Red), .int .u8 ((gi y9 prop).Initial.Color.Green), .int .u8 ((gi y9 prop).Initial.Color.Blue), .int .u8 ((gi y9 prop).Initial.Color.Alpha), .slice (g10.s (prop).toNat 0).a (((gi y9 prop).Words).length) (g10.s (prop).toNat 0).c, .slice (g10.s (prop).toNat 1).a (((gi y9 prop).Kinds).length) (g10.s (prop).toNat 1).c, .bool ((gi y9 prop).Least)], Ent.own 51 tyProp y9 g10, Ent.blk b1 [.int .u8 v_.Kind, .string ⟨⟨v_.Word⟩⟩, .int .i64 v_.Num, .int .u8 v_.Color.Red, .int .u8 v_.Color.Green, .int .u8 v_.Color.Blue, .int .u8 v_.Color.Alpha], Ent.im (tI .u8) gl_strings_asciiSpace (Gh.mk (some ⟨0, 0, none⟩) 256 fun _ _ => .nil)] w') ⟨_, z39, 0, hm, Fr.keep (ks := [3, 5, 7, 9, 10, 12]) H57 (by kernel_rfl), hS⟩ ?_
          clear hm H57 hS
          rintro kk _ wd68 ⟨v58, v59, hm, H, hS⟩
          cases kk with
          | zero => exact noneE hm
          | succ kk =>
            rw [law25_PropsHas_L2] at hm
            refine w_seq ?_
            refine s_reg [(.slice (g10.s (prop).toNat 1).a (((gi y9 prop).Kinds).length) (g10.s (prop).toNat 1).c)] [3, 5, 7, 9, 10, 12, 74] [(3, [], .pointer (some ⟨b1, 0, none⟩)), (5, [], .bool y6), (7, [], .bool y22.1), (9, [], .pointer (some ⟨b32, 0, none⟩)), (10, [], .bool v58), (12, [], .int .i64 v59), (74, [], .bool (decide (v59 < (ln ((gi y9 prop).Kinds)))))] [fun wz => V.at1 ⟨b32, 10, none⟩ (.slice (g10.s (prop).toNat 1).a (((gi y9 prop).Kinds).length) (g10.s (prop).toNat 1).c) wz] H (by kernel_rfl) ⟨((hS.bk 0 rfl).at1 rfl), trivial⟩ fun _ wd60 H61 hb => ?_
            clear H
            replace hS := hS.below hb
            clear hb
            refine w_if H61 rfl (fun hc => ?_) (fun hc => ?_)
            · replace hm := bT hc hm
              refine w_skip ?_
              refine w_seq ?_
              refine w_block ?_
              obtain ⟨ho62, hm⟩ := chkE hm
              obtain ⟨x63, hx63, hm⟩ := letE hm
              refine w_draw [(.slice (g10.s (prop).toNat 1).a (((gi y9 prop).Kinds).length) (g10.s (prop).toNat 1).c), (.int .u8 (gi ((gi y9 prop).Kinds) v59)), (.int .u8 v_.Kind), (.bool ((gi y9 prop).Least)), (.int .i64 v_.Num)] [3, 5, 7, 9, 10, 12] [(3, [], .pointer (some ⟨b1, 0, none⟩)), (5, [], .bool y6), (7, [], .bool y22.1), (9, [], .pointer (some ⟨b32, 0, none⟩)), (10, [], .bool x63), (12, [], .int .i64 v59)] [fun wz => (v58 = false ∧ True → V.at1 ⟨b32, 10, none⟩ (.slice (g10.s (prop).toNat 1).a (((gi y9 prop).Kinds).length) (g10.s (prop).toNat 1).c) wz), fun _ => (v58 = false ∧ True → oka (g10.s (prop).toNat 1).a ∧ 0 ≤ v59 ∧ v59 < ln ((gi y9 prop).Kinds)), fun wz => (v58 = false ∧ True → V.at1 ⟨ab (g10.s (prop).toNat 1).a, ao (g10.s (prop).toNat 1).a + (v59).toNat * 1, none⟩ (.int .u8 (gi ((gi y9 prop).Kinds) v59)) wz), fun wz => (v58 = false ∧ True → V.at1 ⟨b1, 0, none⟩ (.int .u8 v_.Kind) wz), fun wz => (((gi ((gi y9 prop).Kinds) v59) == v_.Kind) = true ∧ v58 = false ∧ True → V.at1 ⟨b32, 11, none⟩ (.bool ((gi y9 prop).Least)) wz), fun wz => ((!((gi y9 prop).Least)) = false ∧ ((gi ((gi y9 prop).Kinds) v59) == v_.Kind) = true ∧ v58 = false ∧ True → V.at1 ⟨b1, 2, none⟩ (.int .i64 v_.Num) wz)] H61 (by kernel_rfl) (by kernel_rfl) (by subst hx63; kernel_rfl) ⟨fun hg => (hS.bk 0 rfl).at1 rfl, fun hg => (tyProp_i1 ((hS.osl 1 rfl).el ho29)).oki (ho62 hg.1), fun hg => (tyProp_i1 ((hS.osl 1 rfl).el ho29)).at1 (ho62 hg.1) 0 rfl, fun hg => (hS.bk 2 rfl).at1 rfl, fun hg => (hS.bk 0 rfl).at1 rfl, fun hg => (hS.bk 2 rfl).at1 rfl, trivial⟩ fun _ wd64 H65 hb => ?_
              clear H61
              replace hS := hS.below hb
              clear hb
              refine w_reg [] [3, 5, 7, 9, 10, 12] [(3, [], .pointer (some ⟨b1, 0, none⟩)), (5, [], .bool y6), (7, [], .bool y22.1), (9, [], .pointer (some ⟨b32, 0, none⟩)), (10, [], .bool x63), (12, [], .int .i64 (w64 (v59 + 1)))] [] H65 (by kernel_rfl) trivial fun _ wd66 H67 hb => ?_
              clear H65
              replace hS := hS.below hb
              clear hb
              exact ⟨_, Nat.lt_succ_self _, x63, w64 (v59 + 1), hm, Fr.keep (ks := [3, 5, 7, 9, 10, 12]) H67 (by kernel_rfl), hS⟩
            · replace hm := bF hc hm
              refine w_exit rfl ?_
              obtain rfl := someE hm
              exact ⟨Fr.keep (ks := [3, 5, 7, 10]) H61 (by kernel_rfl), hS⟩
        · rintro _ wd73 ⟨H, hS⟩
          replace hS : SH M X w [Ent.blk b1 [.int .u8 v_.Kind, .string ⟨⟨v_.Word⟩⟩, .int .i64 v_.Num, .int .u8 v_.Color.Red, .int .u8 v_.Color.Green, .int .u8 v_.Color.Blue, .int .u8 v_.Color.Alpha], Ent.im (tI .u8) gl_strings_asciiSpace (Gh.mk (some ⟨0, 0, none⟩) 256 fun _ _ => .nil)] _ := hS.sel [2, 3] rfl
          obtain ⟨y69, hy69, hm⟩ := bindE hm
          obtain ⟨x70, hx70, hm⟩ := letE hm
          refine s_reg [(.agg ⟨[.int .u8 v_.Kind, .string ⟨⟨v_.Word⟩⟩, .int .i64 v_.Num, .int .u8 v_.Color.Red, .int .u8 v_.Color.Green, .int .u8 v_.Color.Blue, .int .u8 v_.Color.Alpha]⟩), (.int .i64 y69)] [4] [(4, [], .bool x70)] [fun wz => (z55 = true ∧ y6 = true ∧ True → V.atN b1 0 [.int .u8 v_.Kind, .string ⟨⟨v_.Word⟩⟩, .int .i64 v_.Num, .int .u8 v_.Color.Red, .int .u8 v_.Color.Green, .int .u8 v_.Color.Blue, .int .u8 v_.Color.Alpha] 0 wz), fun wz => (z55 = true ∧ y6 = true ∧ True → RetB Tryd.prog 17 ⟨[.agg ⟨[.int .u8 v_.Kind, .string ⟨⟨v_.Word⟩⟩, .int .i64 v_.Num, .int .u8 v_.Color.Red, .int .u8 v_.Color.Green, .int .u8 v_.Color.Blue, .int .u8 v_.Color.Alpha]⟩]⟩ (.int .i64 y69) wz)] H (by subst hx70; kernel_rfl) ⟨fun hg => (hS.bk 0 rfl).atD rfl, fun hg => (props_Check_ok _ _ (bT (hg.1) (bT (hg.2.1) hy69))).b, trivial⟩ fun _ wd71 H72 hb => ?_
          clear H
          replace hS := hS.below hb
          clear hb
          replace hS : SH M X w [Ent.im (tI .u8) gl_strings_asciiSpace (Gh.mk (some ⟨0, 0, none⟩) 256 fun _ _ => .nil)] _ := hS.sel [1] rfl
          refine w_ret ?_
          obtain rfl := someE hm
          exact retR1 H72 rfl rfl ⟨_, rfl, rfl, (hS.sel [] rfl)⟩
theorem law25_PropsHas_ok  (m : Nat) (prop : Int) (v_ : TVal) (r : Bool) (hm : law25_PropsHas m prop v_ = some r) (w : World) (hL : S0 F0 [Ent.im (tI .u8) gl_strings_asciiSpace (Gh.mk (some ⟨0, 0, none⟩) 256 fun _ _ => .nil)] w ∧ fpl [Ent.im (tI .u8) gl_strings_asciiSpace (Gh.mk (some ⟨0, 0, none⟩) 256 fun _ _ => .nil)] = []) : RetB Tryd.prog 7 ⟨[.int .i64 prop, .agg ⟨[.int .u8 v_.Kind, .string ⟨⟨v_.Word⟩⟩, .int .i64 v_.Num, .int .u8 v_.Color.Red, .int .u8 v_.Color.Green, .int .u8 v_.Color.Blue, .int .u8 v_.Color.Alpha]⟩]⟩ (.bool r) w := retB_of hL (Tryd.call7 _) (fun w' h => law25_PropsHas_w F0 m   prop v_ r hm w' h)

def law25_PropsCustom (m : Nat) (s : Str) : Option (Bool) :=
  Option.bind (law25_alive m) fun y3 =>
  cond (cond (decide (100 < (ln s))) true (!y3)) (
  some y3) (
  chk (ln [45, 45] + ln s ≤ 9223372036854775807) <|
  Option.bind (props_Custom ([45, 45] ++ s)) fun y11 =>
  Option.bind (props_Inherited m ([45, 45] ++ s)) fun y14 =>
  lt (cond y3 (y11 == (cond (decide (0 < (ln s))) (decide ((ln s) ≤ 62)) false)) false) fun x17 =>
  lt (cond (cond x17 ((y14.2 == 0) == y11) false) (y14.1 == y11) false) fun x18 =>
  chk (x18 = true → ln [45] + ln s ≤ 9223372036854775807) <|
  Option.bind (cond x18 (props_Custom ([45] ++ s)) (some default)) fun y20 =>
  chk ((decide (1 < (ln s))) = true → x18 = true → 0 ≤ (0 : Int) ∧ (0 : Int) < ln s) <|
  lt (cond x18 ((!y20) == (!(cond (cond (decide (1 < (ln s))) ((bat s 0) == 45) false) (decide ((ln s) ≤ 63)) false))) false) fun x22 =>
  some x22)
theorem law25_PropsCustom_w  (M : Av) (m : Nat) (s : Str) (r : Bool) (hm : law25_PropsCustom m s = some r) (w : World) (hS : S0 M [Ent.im (tI .u8) gl_strings_asciiSpace (Gh.mk (some ⟨0, 0, none⟩) 256 fun _ _ => .nil)] w) : Calls Tryd.prog 8 ⟨[.string ⟨⟨s⟩⟩]⟩ w (fun e w' => ∃ v, e = .returned v ∧ v = .bool r ∧ SH M (fpl [Ent.im (tI .u8) gl_strings_asciiSpace (Gh.mk (some ⟨0, 0, none⟩) 256 fun _ _ => .nil)]) w [] w') := by
  rw [law25_PropsCustom] at hm
  have hS0 : SH M (fpl [Ent.im (tI .u8) gl_strings_asciiSpace (Gh.mk (some ⟨0, 0, none⟩) 256 fun _ _ => .nil)]) w [Ent.im (tI .u8) gl_strings_asciiSpace (Gh.mk (some ⟨0, 0, none⟩) 256 fun _ _ => .nil)] w := hS
  generalize hX : fpl [Ent.im (tI .u8) gl_strings_asciiSpace (Gh.mk (some ⟨0, 0, none⟩) 256 fun _ _ => .nil)] = X at hS0 ⊢
  clear hS hX
  have hS := hS0
  clear hS0
  refine calls_entryP Tryd.func8 rfl Tryd.ntmps8 rfl fun _ H => ?_
  refine s_reg [] [0] [(0, [], .string ⟨⟨s⟩⟩)] [] H (by kernel_rfl) trivial fun _ wd1 H2 hb => ?_
  clear H
  replace hS := hS.below hb
  clear hb
  obtain ⟨y3, hy3, hm⟩ := bindE hm
  refine s_reg [(.bool y3)] [0, 3] [(0, [], .string ⟨⟨s⟩⟩), (3, [], .bool y3)] [fun wz => RetB Tryd.prog 20 ⟨[]⟩ (.bool y3) wz] H2 (by kernel_rfl) ⟨(law25_alive_ok m _ hy3 _ (s0im s0nil (hS.im 0 rfl))), trivial⟩ fun _ wd4 H5 hb => ?_
  clear H2
  replace hS := hS.below hb
  clear hb
  refine w_seq ?_
  refine s_reg [] [0, 3, 14] [(0, [], .string ⟨⟨s⟩⟩), (3, [], .bool y3), (14, [], .bool (cond (decide (100 < (ln s))) true (!y3)))] [] H5 (by kernel_rfl) trivial fun _ wd6 H7 hb => ?_
  clear H5
  replace hS := hS.below hb
  clear hb
  refine w_if H7 rfl (fun hc => ?_) (fun hc => ?_)
  · replace hm := bT hc hm
    refine s_reg [] [2] [(2, [], .bool y3)] [] H7 (by kernel_rfl) trivial fun _ wd8 H9 hb => ?_
    clear H7
    replace hS := hS.below hb
    clear hb
    refine w_ret ?_
    obtain rfl := someE hm
    exact retR1 H9 rfl rfl ⟨_, rfl, rfl, (hS.sel [] rfl)⟩
  · replace hm := bF hc hm
    refine w_skip ?_
    obtain ⟨ho10, hm⟩ := chkE hm
    obtain ⟨y11, hy11, hm⟩ := bindE hm
    refine s_reg [(.bool y11)] [0, 3, 4] [(0, [], .string ⟨⟨s⟩⟩), (3, [], .bool y3), (4, [], .bool y11)] [fun _ => ln [45, 45] + ln s ≤ 9223372036854775807, fun wz => RetB Tryd.prog 15 ⟨[.string ⟨⟨[45, 45] ++ s⟩⟩]⟩ (.bool y11) wz] H7 (by kernel_rfl) ⟨ho10, ((props_Custom_ok _ _ hy11).b), trivial⟩ fun _ wd12 H13 hb => ?_
    clear H7
    replace hS := hS.below hb
    clear hb
    obtain ⟨y14, hy14, hm⟩ := bindE hm
    refine s_reg [(.tuple ⟨[.bool y14.1, .int .i64 y14.2]⟩)] [0, 3, 4, 5, 6] [(0, [], .string ⟨⟨s⟩⟩), (3, [], .bool y3), (4, [], .bool y11), (5, [], .bool y14.1), (6, [], .int .i64 y14.2)] [fun _ => ln [45, 45] + ln s ≤ 9223372036854775807, fun wz => RetB Tryd.prog 11 ⟨[.string ⟨⟨[45, 45] ++ s⟩⟩]⟩ (.tuple ⟨[.bool y14.1, .int .i64 y14.2]⟩) wz] H13 (by kernel_rfl) ⟨ho10, (props_Inherited_ok m _ _ hy14 _ (s0im s0nil (hS.im 0 rfl))), trivial⟩ fun _ wd15 H16 hb => ?_
    clear H13
    replace hS := hS.below hb
    clear hb
    obtain ⟨x17, hx17, hm⟩ := letE hm
    obtain ⟨x18, hx18, hm⟩ := letE hm
    obtain ⟨ho19, hm⟩ := chkE hm
    obtain ⟨y20, hy20, hm⟩ := bindE hm
    obtain ⟨ho21, hm⟩ := chkE hm
    obtain ⟨x22, hx22, hm⟩ := letE hm
    refine s_reg [(.bool y20)] [2] [(2, [], .bool x22)] [fun _ => (x18 = true ∧ True → ln [45] + ln s ≤ 9223372036854775807), fun wz => (x18 = true ∧ True → RetB Tryd.prog 15 ⟨[.string ⟨⟨[45] ++ s⟩⟩]⟩ (.bool y20) wz), fun _ => ((decide (1 < (ln s))) = true ∧ x18 = true ∧ True → 0 ≤ (0 : Int) ∧ (0 : Int) < ln s)] H16 (by subst hx17 hx18 hx22; kernel_rfl) ⟨fun hg => (ho19 hg.1), fun hg => (props_Custom_ok _ _ (bT (hg.1) hy20)).b, fun hg => (ho21 hg.1 hg.2.1), trivial⟩ fun _ wd23 H24 hb => ?_
    clear H16
    replace hS := hS.below hb
    clear hb
    refine w_ret ?_
    obtain rfl := someE hm
    exact retR1 H24 rfl rfl ⟨_, rfl, rfl, (hS.sel [] rfl)⟩
theorem law25_PropsCustom_ok  (m : Nat) (s : Str) (r : Bool) (hm : law25_PropsCustom m s = some r) (w : World) (hL : S0 F0 [Ent.im (tI .u8) gl_strings_asciiSpace (Gh.mk (some ⟨0, 0, none⟩) 256 fun _ _ => .nil)] w ∧ fpl [Ent.im (tI .u8) gl_strings_asciiSpace (Gh.mk (some ⟨0, 0, none⟩) 256 fun _ _ => .nil)] = []) : RetB Tryd.prog 8 ⟨[.string ⟨⟨s⟩⟩]⟩ (.bool r) w := retB_of hL (Tryd.call8 _) (fun w' h => law25_PropsCustom_w F0 m   s r hm w' h)

end Go.Proofs.YtfcnkhiohnjepaaDoor
