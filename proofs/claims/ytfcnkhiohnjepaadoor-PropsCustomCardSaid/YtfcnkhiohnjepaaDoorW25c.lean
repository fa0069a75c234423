/-
  What the Go functions compute, as Lean functions, and that a call returns just that. Printed by a program.
-/
import Derived.Test.YtfcnkhiohnjepaaDoorRows
import Derived.Test.YtfcnkhiohnjepaaDoorD
import Derived.Test.YtfcnkhiohnjepaaDoorW25b
set_option linter.unusedVariables false
set_option maxRecDepth 20000
set_option maxHeartbeats 4000000
namespace Go.Proofs.YtfcnkhiohnjepaaDoor
open Go.V Go.RowKit

theorem props_Has_w  (M : Av) (m : Nat) (prop : Int) (v_ : TVal) (r : Bool × Int) (hm : props_Has m prop v_ = some r) (w : World) (hS : S0 M [Ent.im (tI .u8) gl_strings_asciiSpace (Gh.mk (some ⟨0, 0, none⟩) 256 fun _ _ => .nil)] w) : Calls Tryd.prog 13 ⟨[.int .i64 prop, .agg ⟨[.int .u8 v_.Kind, .string ⟨⟨v_.Word⟩⟩, .int .i64 v_.Num, .int .u8 v_.Color.Red, .int .u8 v_.Color.Green, .int .u8 v_.Color.Blue, .int .u8 v_.Color.Alpha]⟩]⟩ w (fun e w' => ∃ v, e = .returned v ∧ v = .tuple ⟨[.bool r.1, .int .i64 r.2]⟩ ∧ SH M (fpl [Ent.im (tI .u8) gl_strings_asciiSpace (Gh.mk (some ⟨0, 0, none⟩) 256 fun _ _ => .nil)]) w [] w') := by
  rw [props_Has] at hm
  have hS0 : SH M (fpl [Ent.im (tI .u8) gl_strings_asciiSpace (Gh.mk (some ⟨0, 0, none⟩) 256 fun _ _ => .nil)]) w [Ent.im (tI .u8) gl_strings_asciiSpace (Gh.mk (some ⟨0, 0, none⟩) 256 fun _ _ => .nil)] w := hS
  generalize hX : fpl [Ent.im (tI .u8) gl_strings_asciiSpace (Gh.mk (some ⟨0, 0, none⟩) 256 fun _ _ => .nil)] = X at hS0 ⊢
  clear hS hX
  have hS := hS0
  clear hS0
  refine calls_entryP Tryd.func13 rfl Tryd.ntmps13 rfl fun _ H => ?_
  refine w_seq ?_
  refine wl_start ?_
  have hd : S0 (AvL M [Ent.im (tI .u8) gl_strings_asciiSpace (Gh.mk (some ⟨0, 0, none⟩) 256 fun _ _ => .nil)]) [] _ := hS.hand [] [0] rfl rfl
  refine m_stp [3, 0] [(0, [], .int .i64 prop)] H rfl rfl rfl rfl (o_box [.int .u8 v_.Kind, .string ⟨⟨v_.Word⟩⟩, .int .i64 v_.Num, .int .u8 v_.Color.Red, .int .u8 v_.Color.Green, .int .u8 v_.Color.Blue, .int .u8 v_.Color.Alpha] H hd rfl rfl) (fun _ => rfl) fun _ wd2 v H3 hq => ?_
  clear H hd
  obtain ⟨b1, rfl, hq⟩ := hq
  replace hS : SH M X w [Ent.blk b1 [.int .u8 v_.Kind, .string ⟨⟨v_.Word⟩⟩, .int .i64 v_.Num, .int .u8 v_.Color.Red, .int .u8 v_.Color.Green, .int .u8 v_.Color.Blue, .int .u8 v_.Color.Alpha], Ent.im (tI .u8) gl_strings_asciiSpace (Gh.mk (some ⟨0, 0, none⟩) 256 fun _ _ => .nil)] _ := hS.join [] [0] rfl rfl hq
  clear hq
  refine wl_batch 1 3 [] [0, 3] [(0, [], .int .i64 prop), (3, [], .pointer (some ⟨b1, 0, none⟩))] [] H3 (by decide) (by kernel_rfl) trivial fun _ wd4 H5 hb => ?_
  clear H3
  replace hS := hS.below hb
  clear hb
  refine wl_end rfl ?_
  refine w_seq ?_
  obtain ⟨x6, hx6, hm⟩ := letE hm
  refine s_reg [] [0, 3, 12] [(0, [], .int .i64 prop), (3, [], .pointer (some ⟨b1, 0, none⟩)), (12, [], .bool x6)] [] H5 (by subst hx6; kernel_rfl) trivial fun _ wd7 H8 hb => ?_
  clear H5
  replace hS := hS.below hb
  clear hb
  refine w_if H8 rfl (fun hc => ?_) (fun hc => ?_)
  · replace hm := bT hc hm
    refine s_reg [] [4, 5] [(4, [], .bool false), (5, [], .int .i64 2)] [] H8 (by kernel_rfl) trivial fun _ wd9 H10 hb => ?_
    clear H8
    replace hS := hS.below hb
    clear hb
    replace hS : SH M X w [Ent.im (tI .u8) gl_strings_asciiSpace (Gh.mk (some ⟨0, 0, none⟩) 256 fun _ _ => .nil)] _ := hS.sel [1] rfl
    refine w_ret ?_
    obtain rfl := someE hm
    exact retR2 H10 rfl rfl rfl ⟨_, rfl, rfl, (hS.sel [] rfl)⟩
  · replace hm := bF hc hm
    refine w_skip ?_
    refine w_seq ?_
    refine wl_start ?_
    obtain ⟨y11, hy11, hm⟩ := bindE hm
    have hd : S0 (AvL M [Ent.blk b1 [.int .u8 v_.Kind, .string ⟨⟨v_.Word⟩⟩, .int .i64 v_.Num, .int .u8 v_.Color.Red, .int .u8 v_.Color.Green, .int .u8 v_.Color.Blue, .int .u8 v_.Color.Alpha], Ent.im (tI .u8) gl_strings_asciiSpace (Gh.mk (some ⟨0, 0, none⟩) 256 fun _ _ => .nil)]) [Ent.im (tI .u8) gl_strings_asciiSpace (Gh.mk (some ⟨0, 0, none⟩) 256 fun _ _ => .nil)] _ := hS.hand [1] [0, 1] rfl rfl
    refine m_stp [13, 0, 3] [(0, [], .int .i64 prop), (3, [], .pointer (some ⟨b1, 0, none⟩))] H8 rfl rfl rfl rfl (o_callx H8 rfl rfl (props_Table_ok m _ hy11 _ _ hd)) (fun _ => rfl) fun _ wd14 v H15 hq => ?_
    clear H8 hd
    obtain ⟨g12, rfl, hq⟩ := hq
    replace hS : SH M X w [Ent.own 51 tyProp y11 g12, Ent.blk b1 [.int .u8 v_.Kind, .string ⟨⟨v_.Word⟩⟩, .int .i64 v_.Num, .int .u8 v_.Color.Red, .int .u8 v_.Color.Green, .int .u8 v_.Color.Blue, .int .u8 v_.Color.Alpha], Ent.im (tI .u8) gl_strings_asciiSpace (Gh.mk (some ⟨0, 0, none⟩) 256 fun _ _ => .nil)] _ := hS.join [1] [0, 1] rfl rfl hq
    clear hq
    obtain ⟨ho16, hm⟩ := chkE hm
    refine wl_batch 1 4 [(.agg ⟨[.string ⟨⟨(gi y11 prop).Name⟩⟩, .bool ((gi y11 prop).Inherited), .int .u8 ((gi y11 prop).Initial.Kind), .string ⟨⟨(gi y11 prop).Initial.Word⟩⟩, .int .i64 ((gi y11 prop).Initial.Num), .int .u8 ((gi y11 prop).Initial.Color.Red), .int .u8 ((gi y11 prop).Initial.Color.Green), .int .u8 ((gi y11 prop).Initial.Color.Blue), .int .u8 ((gi y11 prop).Initial.Color.Alpha), .slice (g12.s (prop).toNat 0).a (((gi y11 prop).Words).length) (g12.s (prop).toNat 0).c, .slice (g12.s (prop).toNat 1).a (((gi y11 prop).Kinds).length) (g12.s (prop).toNat 1).c, .bool ((gi y11 prop).Least)]⟩)] [3, 16] [(3, [], .pointer (some ⟨b1, 0, none⟩)), (16, [], .agg ⟨[.string ⟨⟨(gi y11 prop).Name⟩⟩, .bool ((gi y11 prop).Inherited), .int .u8 ((gi y11 prop).Initial.Kind), .string ⟨⟨(gi y11 prop).Initial.Word⟩⟩, .int .i64 ((gi y11 prop).Initial.Num), .int .u8 ((gi y11 prop).Initial.Color.Red), .int .u8 ((gi y11 prop).Initial.Color.Green), .int .u8 ((gi y11 prop).Initial.Color.Blue), .int .u8 ((gi y11 prop).Initial.Color.Alpha), .slice (g12.s (prop).toNat 0).a (((gi y11 prop).Words).length) (g12.s (prop).toNat 0).c, .slice (g12.s (prop).toNat 1).a (((gi y11 prop).Kinds).length) (g12.s (prop).toNat 1).c, .bool ((gi y11 prop).Least)]⟩)] [fun _ => oka g12.a ∧ 0 ≤ prop ∧ prop < ln y11, fun wz => V.atN (ab g12.a) (ao g12.a + (prop).toNat * 12) [.string ⟨⟨(gi y11 prop).Name⟩⟩, .bool ((gi y11 prop).Inherited), .int .u8 ((gi y11 prop).Initial.Kind), .string ⟨⟨(gi y11 prop).Initial.Word⟩⟩, .int .i64 ((gi y11 prop).Initial.Num), .int .u8 ((gi y11 prop).Initial.Color.Red), .int .u8 ((gi y11 prop).Initial.Color.Green), .int .u8 ((gi y11 prop).Initial.Color.Blue), .int .u8 ((gi y11 prop).Initial.Color.Alpha), .slice (g12.s (prop).toNat 0).a (((gi y11 prop).Words).length) (g12.s (prop).toNat 0).c, .slice (g12.s (prop).toNat 1).a (((gi y11 prop).Kinds).length) (g12.s (prop).toNat 1).c, .bool ((gi y11 prop).Least)] 0 wz] H15 (by decide) (by kernel_rfl) ⟨((hS.osl 0 rfl).oki ho16), ((hS.osl 0 rfl).atA ho16 0 rfl), trivial⟩ fun _ wd17 H18 hb => ?_
    clear H15
    replace hS := hS.below hb
    clear hb
    have hd : S0 (AvL M [Ent.own 51 tyProp y11 g12, Ent.blk b1 [.int .u8 v_.Kind, .string ⟨⟨v_.Word⟩⟩, .int .i64 v_.Num, .int .u8 v_.Color.Red, .int .u8 v_.Color.Green, .int .u8 v_.Color.Blue, .int .u8 v_.Color.Alpha], Ent.im (tI .u8) gl_strings_asciiSpace (Gh.mk (some ⟨0, 0, none⟩) 256 fun _ _ => .nil)]) [] _ := hS.hand [] [0, 1, 2] rfl rfl
    refine m_stp [6, 3, 16] [(3, [], .pointer (some ⟨b1, 0, none⟩)), (16, [], .agg ⟨[.string ⟨⟨(gi y11 prop).Name⟩⟩, .bool ((gi y11 prop).Inherited), .int .u8 ((gi y11 prop).Initial.Kind), .string ⟨⟨(gi y11 prop).Initial.Word⟩⟩, .int .i64 ((gi y11 prop).Initial.Num), .int .u8 ((gi y11 prop).Initial.Color.Red), .int .u8 ((gi y11 prop).Initial.Color.Green), .int .u8 ((gi y11 prop).Initial.Color.Blue), .int .u8 ((gi y11 prop).Initial.Color.Alpha), .slice (g12.s (prop).toNat 0).a (((gi y11 prop).Words).length) (g12.s (prop).toNat 0).c, .slice (g12.s (prop).toNat 1).a (((gi y11 prop).Kinds).length) (g12.s (prop).toNat 1).c, .bool ((gi y11 prop).Least)]⟩)] H18 rfl rfl rfl rfl (o_alloc [.string ⟨⟨[]⟩⟩, .bool false, .int .u8 0, .string ⟨⟨[]⟩⟩, .int .i64 0, .int .u8 0, .int .u8 0, .int .u8 0, .int .u8 0, .slice none 0 0, .slice none 0 0, .bool false] (z := .agg ⟨[.string ⟨⟨[]⟩⟩, .bool false, .int .u8 0, .string ⟨⟨[]⟩⟩, .int .i64 0, .int .u8 0, .int .u8 0, .int .u8 0, .int .u8 0, .slice none 0 0, .slice none 0 0, .bool false]⟩) hd (by kernel_rfl) rfl) (fun _ => rfl) fun _ wd20 v H21 hq => ?_
    clear H18 hd
    obtain ⟨b19, rfl, hq⟩ := hq
    replace hS : SH M X w [Ent.blk b19 [.string ⟨⟨[]⟩⟩, .bool false, .int .u8 0, .string ⟨⟨[]⟩⟩, .int .i64 0, .int .u8 0, .int .u8 0, .int .u8 0, .int .u8 0, .slice none 0 0, .slice none 0 0, .bool false], Ent.own 51 tyProp y11 g12, Ent.blk b1 [.int .u8 v_.Kind, .string ⟨⟨v_.Word⟩⟩, .int .i64 v_.Num, .int .u8 v_.Color.Red, .int .u8 v_.Color.Green, .int .u8 v_.Color.Blue, .int .u8 v_.Color.Alpha], Ent.im (tI .u8) gl_strings_asciiSpace (Gh.mk (some ⟨0, 0, none⟩) 256 fun _ _ => .nil)] _ := hS.join [] [0, 1, 2] rfl rfl hq
    clear hq
    have hd : S0 (AvL M [Ent.own 51 tyProp y11 g12, Ent.blk b1 [.int .u8 v_.Kind, .string ⟨⟨v_.Word⟩⟩, .int .i64 v_.Num, .int .u8 v_.Color.Red, .int .u8 v_.Color.Green, .int .u8 v_.Color.Blue, .int .u8 v_.Color.Alpha], Ent.im (tI .u8) gl_strings_asciiSpace (Gh.mk (some ⟨0, 0, none⟩) 256 fun _ _ => .nil)]) [Ent.blk b19 [.string ⟨⟨[]⟩⟩, .bool false, .int .u8 0, .string ⟨⟨[]⟩⟩, .int .i64 0, .int .u8 0, .int .u8 0, .int .u8 0, .int .u8 0, .slice none 0 0, .slice none 0 0, .bool false]] _ := hS.hand [0] [1, 2, 3] rfl rfl
    refine m_stp0 [3, 6] [(3, [], .pointer (some ⟨b1, 0, none⟩)), (6, [], .pointer (some ⟨b19, 0, none⟩))] H21 rfl rfl rfl (o_store [.string ⟨⟨(gi y11 prop).Name⟩⟩, .bool ((gi y11 prop).Inherited), .int .u8 ((gi y11 prop).Initial.Kind), .string ⟨⟨(gi y11 prop).Initial.Word⟩⟩, .int .i64 ((gi y11 prop).Initial.Num), .int .u8 ((gi y11 prop).Initial.Color.Red), .int .u8 ((gi y11 prop).Initial.Color.Green), .int .u8 ((gi y11 prop).Initial.Color.Blue), .int .u8 ((gi y11 prop).Initial.Color.Alpha), .slice (g12.s (prop).toNat 0).a (((gi y11 prop).Words).length) (g12.s (prop).toNat 0).c, .slice (g12.s (prop).toNat 1).a (((gi y11 prop).Kinds).length) (g12.s (prop).toNat 1).c, .bool ((gi y11 prop).Least)] H21 hd rfl rfl (by kernel_rfl) rfl rfl rfl) rfl fun _ wd22 H23 hq => ?_
    clear H21 hd
    obtain ⟨_, hq⟩ := hq
    replace hS : SH M X w [Ent.blk b19 [.string ⟨⟨(gi y11 prop).Name⟩⟩, .bool ((gi y11 prop).Inherited), .int .u8 ((gi y11 prop).Initial.Kind), .string ⟨⟨(gi y11 prop).Initial.Word⟩⟩, .int .i64 ((gi y11 prop).Initial.Num), .int .u8 ((gi y11 prop).Initial.Color.Red), .int .u8 ((gi y11 prop).Initial.Color.Green), .int .u8 ((gi y11 prop).Initial.Color.Blue), .int .u8 ((gi y11 prop).Initial.Color.Alpha), .slice (g12.s (prop).toNat 0).a (((gi y11 prop).Words).length) (g12.s (prop).toNat 0).c, .slice (g12.s (prop).toNat 1).a (((gi y11 prop).Kinds).length) (g12.s (prop).toNat 1).c, .bool ((gi y11 prop).Least)], Ent.own 51 tyProp y11 g12, Ent.blk b1 [.int .u8 v_.Kind, .string ⟨⟨v_.Word⟩⟩, .int .i64 v_.Num, .int .u8 v_.Color.Red, .int .u8 v_.Color.Green, .int .u8 v_.Color.Blue, .int .u8 v_.Color.Alpha], Ent.im (tI .u8) gl_strings_asciiSpace (Gh.mk (some ⟨0, 0, none⟩) 256 fun _ _ => .nil)] _ := hS.join [0] [1, 2, 3] rfl rfl hq
    clear hq
    refine wl_end rfl ?_
    refine w_seq ?_
    refine w_block ?_
    obtain ⟨y24, hy24, hm⟩ := bindE hm
    refine s_reg [(.agg ⟨[.int .u8 v_.Kind, .string ⟨⟨v_.Word⟩⟩, .int .i64 v_.Num, .int .u8 v_.Color.Red, .int .u8 v_.Color.Green, .int .u8 v_.Color.Blue, .int .u8 v_.Color.Alpha]⟩), (.int .i64 y24)] [3, 6, 17] [(3, [], .pointer (some ⟨b1, 0, none⟩)), (6, [], .pointer (some ⟨b19, 0, none⟩)), (17, [], .bool (y24 != 0))] [fun wz => V.atN b1 0 [.int .u8 v_.Kind, .string ⟨⟨v_.Word⟩⟩, .int .i64 v_.Num, .int .u8 v_.Color.Red, .int .u8 v_.Color.Green, .int .u8 v_.Color.Blue, .int .u8 v_.Color.Alpha] 0 wz, fun wz => RetB Tryd.prog 17 ⟨[.agg ⟨[.int .u8 v_.Kind, .string ⟨⟨v_.Word⟩⟩, .int .i64 v_.Num, .int .u8 v_.Color.Red, .int .u8 v_.Color.Green, .int .u8 v_.Color.Blue, .int .u8 v_.Color.Alpha]⟩]⟩ (.int .i64 y24) wz] H23 (by kernel_rfl) ⟨((hS.bk 2 rfl).atD rfl), ((props_Check_ok _ _ hy24).b), trivial⟩ fun _ wd25 H26 hb => ?_
    clear H23
    replace hS := hS.below hb
    clear hb
    refine w_if H26 rfl (fun hc => ?_) (fun hc => ?_)
    · replace hm := bT hc hm
      refine s_reg [] [4, 5] [(4, [], .bool false), (5, [], .int .i64 0)] [] H26 (by kernel_rfl) trivial fun _ wd27 H28 hb => ?_
      clear H26
      replace hS := hS.below hb
      clear hb
      replace hS : SH M X w [Ent.im (tI .u8) gl_strings_asciiSpace (Gh.mk (some ⟨0, 0, none⟩) 256 fun _ _ => .nil)] _ := hS.sel [3] rfl
      refine w_ret ?_
      obtain rfl := someE hm
      exact retR2 H28 rfl rfl rfl ⟨_, rfl, rfl, (hS.sel [] rfl)⟩
    · replace hm := bF hc hm
      refine s_reg [(.int .u8 v_.Kind)] [3, 6, 21] [(3, [], .pointer (some ⟨b1, 0, none⟩)), (6, [], .pointer (some ⟨b19, 0, none⟩)), (21, [], .bool (v_.Kind == 1))] [fun wz => V.at1 ⟨b1, 0, none⟩ (.int .u8 v_.Kind) wz] H26 (by kernel_rfl) ⟨((hS.bk 2 rfl).at1 rfl), trivial⟩ fun _ wd29 H30 hb => ?_
      clear H26
      replace hS := hS.below hb
      clear hb
      refine w_if H30 rfl (fun hc => ?_) (fun hc => ?_)
      · replace hm := bT hc hm
        obtain ⟨y31, hy31, hm⟩ := bindE hm
        refine s_reg [(.slice (g12.s (prop).toNat 0).a (((gi y11 prop).Words).length) (g12.s (prop).toNat 0).c), (.string ⟨⟨v_.Word⟩⟩), (.bool y31)] [4, 5] [(4, [], .bool y31), (5, [], .int .i64 0)] [fun wz => V.at1 ⟨b19, 9, none⟩ (.slice (g12.s (prop).toNat 0).a (((gi y11 prop).Words).length) (g12.s (prop).toNat 0).c) wz, fun wz => V.at1 ⟨b1, 1, none⟩ (.string ⟨⟨v_.Word⟩⟩) wz, fun wz => RetB Tryd.prog 27 ⟨[.slice (g12.s (prop).toNat 0).a (((gi y11 prop).Words).length) (g12.s (prop).toNat 0).c, .string ⟨⟨v_.Word⟩⟩]⟩ (.bool y31) wz] H30 (by kernel_rfl) ⟨((hS.bk 0 rfl).at1 rfl), ((hS.bk 2 rfl).at1 rfl), (slices_Contains_string_string_ok (g_s := (g12.s (prop).toNat 0)) m _ _ _ hy31 _ (s0im s0nil (tyProp_i0 ((hS.osl 1 rfl).el ho16)))), trivial⟩ fun _ wd32 H33 hb => ?_
        clear H30
        replace hS := hS.below hb
        clear hb
        replace hS : SH M X w [Ent.im (tI .u8) gl_strings_asciiSpace (Gh.mk (some ⟨0, 0, none⟩) 256 fun _ _ => .nil)] _ := hS.sel [3] rfl
        refine w_ret ?_
        obtain rfl := someE hm
        exact retR2 H33 rfl rfl rfl ⟨_, rfl, rfl, (hS.sel [] rfl)⟩
      · replace hm := bF hc hm
        refine w_skip ?_
        obtain ⟨y34, hy34, hm⟩ := bindE hm
        obtain ⟨x35, hx35, hm⟩ := letE hm
        refine s_reg [(.slice (g12.s (prop).toNat 1).a (((gi y11 prop).Kinds).length) (g12.s (prop).toNat 1).c), (.int .u8 v_.Kind), (.bool y34), (.bool ((gi y11 prop).Least)), (.int .i64 v_.Num)] [4, 5] [(4, [], .bool x35), (5, [], .int .i64 0)] [fun wz => V.at1 ⟨b19, 10, none⟩ (.slice (g12.s (prop).toNat 1).a (((gi y11 prop).Kinds).length) (g12.s (prop).toNat 1).c) wz, fun wz => V.at1 ⟨b1, 0, none⟩ (.int .u8 v_.Kind) wz, fun wz => RetB Tryd.prog 28 ⟨[.slice (g12.s (prop).toNat 1).a (((gi y11 prop).Kinds).length) (g12.s (prop).toNat 1).c, .int .u8 v_.Kind]⟩ (.bool y34) wz, fun wz => (y34 = true ∧ True → V.at1 ⟨b19, 11, none⟩ (.bool ((gi y11 prop).Least)) wz), fun wz => ((!((gi y11 prop).Least)) = false ∧ y34 = true ∧ True → V.at1 ⟨b1, 2, none⟩ (.int .i64 v_.Num) wz)] H30 (by subst hx35; kernel_rfl) ⟨((hS.bk 0 rfl).at1 rfl), ((hS.bk 2 rfl).at1 rfl), (slices_Contains_uint8_uint8_ok (g_s := (g12.s (prop).toNat 1)) m _ _ _ hy34 _ (s0im s0nil (tyProp_i1 ((hS.osl 1 rfl).el ho16)))), fun hg => (hS.bk 0 rfl).at1 rfl, fun hg => (hS.bk 2 rfl).at1 rfl, trivial⟩ fun _ wd36 H37 hb => ?_
        clear H30
        replace hS := hS.below hb
        clear hb
        replace hS : SH M X w [Ent.im (tI .u8) gl_strings_asciiSpace (Gh.mk (some ⟨0, 0, none⟩) 256 fun _ _ => .nil)] _ := hS.sel [3] rfl
        refine w_ret ?_
        obtain rfl := someE hm
        exact retR2 H37 rfl rfl rfl ⟨_, rfl, rfl, (hS.sel [] rfl)⟩
theorem props_Has_ok  (m : Nat) (prop : Int) (v_ : TVal) (r : Bool × Int) (hm : props_Has m prop v_ = some r) (w : World) (hL : S0 F0 [Ent.im (tI .u8) gl_strings_asciiSpace (Gh.mk (some ⟨0, 0, none⟩) 256 fun _ _ => .nil)] w ∧ fpl [Ent.im (tI .u8) gl_strings_asciiSpace (Gh.mk (some ⟨0, 0, none⟩) 256 fun _ _ => .nil)] = []) : RetB Tryd.prog 13 ⟨[.int .i64 prop, .agg ⟨[.int .u8 v_.Kind, .string ⟨⟨v_.Word⟩⟩, .int .i64 v_.Num, .int .u8 v_.Color.Red, .int .u8 v_.Color.Green, .int .u8 v_.Color.Blue, .int .u8 v_.Color.Alpha]⟩]⟩ (.tuple ⟨[.bool r.1, .int .i64 r.2]⟩) w := retB_of hL (Tryd.call13 _) (fun w' h => props_Has_w F0 m   prop v_ r hm w' h)

def r25_Check (v_ : TVal) : Option (Int) :=
  Option.bind (
  cond (v_.Kind == 1) (
  cond (v_.Word == []) (
  some (.inl 8)) (
  some (.inr (1000000000000, v_.Word, 0, 0, 0, 0, 0)))) (
  Option.bind (
  cond (v_.Kind == 2) (
  some (v_.Kind == 2)) (
  cond (v_.Kind == 3) (
  some (v_.Kind == 3)) (
  cond (v_.Kind == 4) (
  some (v_.Kind == 4)) (
  some (v_.Kind == 5))))) fun (z28 : Bool) =>
  cond z28 (
  some (.inr (1000000000000, [], v_.Num, 0, 0, 0, 0))) (
  cond (v_.Kind == 6) (
  some (.inr (1000000000, [], v_.Num, 0, 0, 0, 0))) (
  cond (v_.Kind == 7) (
  some (.inr (1000000000000, [], 0, v_.Color.Red, v_.Color.Green, v_.Color.Blue, v_.Color.Alpha))) (
  cond (v_.Kind == 8) (
  some (.inr (1000000000000, [], 0, 0, 0, 0, 0))) (
  some (.inl 8))))))) fun (z15 : Sum (Int) (Int × Str × Int × Int × Int × Int × Int)) => sumK z15 fun s_z15 =>
  lt (!((v_.Kind == v_.Kind) && ((v_.Word == s_z15.2.1) && ((v_.Num == s_z15.2.2.1) && (((v_.Color.Red == s_z15.2.2.2.1) && ((v_.Color.Green == s_z15.2.2.2.2.1) && ((v_.Color.Blue == s_z15.2.2.2.2.2.1) && ((v_.Color.Alpha == s_z15.2.2.2.2.2.2) && true)))) && true))))) fun x60 =>
  lt (cond x60 true (decide (s_z15.1 < v_.Num))) fun x61 =>
  lt (cond x61 true (decide (v_.Num < (w64 (0 - s_z15.1))))) fun x62 =>
  cond x62 (
  some 8) (
  some 0)
theorem r25_Check_w  (M : Av) (v_ : TVal) (r : Int) (hm : r25_Check v_ = some r) (w : World) (hS : S0 M [] w) : Calls Tryd.prog 18 ⟨[.agg ⟨[.int .u8 v_.Kind, .string ⟨⟨v_.Word⟩⟩, .int .i64 v_.Num, .int .u8 v_.Color.Red, .int .u8 v_.Color.Green, .int .u8 v_.Color.Blue, .int .u8 v_.Color.Alpha]⟩]⟩ w (fun e w' => ∃ v, e = .returned v ∧ v = .int .i64 r ∧ SH M (fpl []) w [] w') := by
  rw [r25_Check] at hm
  have hS0 : SH M (fpl []) w [] w := hS
  generalize hX : fpl [] = X at hS0 ⊢
  clear hS hX
  have hS := hS0
  clear hS0
  refine calls_entryP Tryd.func18 rfl Tryd.ntmps18 rfl fun _ H => ?_
  refine w_seq ?_
  refine wl_start ?_
  have hd : S0 (AvL M []) [] _ := hS.hand [] [] rfl rfl
  refine m_stp [1] [] H rfl rfl rfl rfl (o_box [.int .u8 v_.Kind, .string ⟨⟨v_.Word⟩⟩, .int .i64 v_.Num, .int .u8 v_.Color.Red, .int .u8 v_.Color.Green, .int .u8 v_.Color.Blue, .int .u8 v_.Color.Alpha] H hd rfl rfl) (fun _ => rfl) fun _ wd2 v H3 hq => ?_
  clear H hd
  obtain ⟨b1, rfl, hq⟩ := hq
  replace hS : SH M X w [Ent.blk b1 [.int .u8 v_.Kind, .string ⟨⟨v_.Word⟩⟩, .int .i64 v_.Num, .int .u8 v_.Color.Red, .int .u8 v_.Color.Green, .int .u8 v_.Color.Blue, .int .u8 v_.Color.Alpha]] _ := hS.join [] [] rfl rfl hq
  clear hq
  refine wl_batch 1 2 [] [1] [(1, [], .pointer (some ⟨b1, 0, none⟩))] [] H3 (by decide) (by kernel_rfl) trivial fun _ wd4 H5 hb => ?_
  clear H3
  replace hS := hS.below hb
  clear hb
  refine wl_end rfl ?_
  refine w_seq ?_
  refine wl_start ?_
  refine wl_batch 0 3 [(.int .u8 v_.Kind)] [1, 7] [(1, [], .pointer (some ⟨b1, 0, none⟩)), (7, [], .agg ⟨[.int .u8 v_.Kind, .string ⟨⟨[]⟩⟩, .int .i64 0, .int .u8 0, .int .u8 0, .int .u8 0, .int .u8 0]⟩)] [fun wz => V.at1 ⟨b1, 0, none⟩ (.int .u8 v_.Kind) wz] H5 (by decide) (by kernel_rfl) ⟨((hS.bk 0 rfl).at1 rfl), trivial⟩ fun _ wd6 H7 hb => ?_
  clear H5
  replace hS := hS.below hb
  clear hb
  have hd : S0 (AvL M [Ent.blk b1 [.int .u8 v_.Kind, .string ⟨⟨v_.Word⟩⟩, .int .i64 v_.Num, .int .u8 v_.Color.Red, .int .u8 v_.Color.Green, .int .u8 v_.Color.Blue, .int .u8 v_.Color.Alpha]]) [] _ := hS.hand [] [0] rfl rfl
  refine m_stp [3, 1, 7] [(1, [], .pointer (some ⟨b1, 0, none⟩)), (7, [], .agg ⟨[.int .u8 v_.Kind, .string ⟨⟨[]⟩⟩, .int .i64 0, .int .u8 0, .int .u8 0, .int .u8 0, .int .u8 0]⟩)] H7 rfl rfl rfl rfl (o_alloc [.int .u8 0, .string ⟨⟨[]⟩⟩, .int .i64 0, .int .u8 0, .int .u8 0, .int .u8 0, .int .u8 0] (z := .agg ⟨[.int .u8 0, .string ⟨⟨[]⟩⟩, .int .i64 0, .int .u8 0, .int .u8 0, .int .u8 0, .int .u8 0]⟩) hd (by kernel_rfl) rfl) (fun _ => rfl) fun _ wd9 v H10 hq => ?_
  clear H7 hd
  obtain ⟨b8, rfl, hq⟩ := hq
  replace hS : SH M X w [Ent.blk b8 [.int .u8 0, .string ⟨⟨[]⟩⟩, .int .i64 0, .int .u8 0, .int .u8 0, .int .u8 0, .int .u8 0], Ent.blk b1 [.int .u8 v_.Kind, .string ⟨⟨v_.Word⟩⟩, .int .i64 v_.Num, .int .u8 v_.Color.Red, .int .u8 v_.Color.Green, .int .u8 v_.Color.Blue, .int .u8 v_.Color.Alpha]] _ := hS.join [] [0] rfl rfl hq
  clear hq
  have hd : S0 (AvL M [Ent.blk b1 [.int .u8 v_.Kind, .string ⟨⟨v_.Word⟩⟩, .int .i64 v_.Num, .int .u8 v_.Color.Red, .int .u8 v_.Color.Green, .int .u8 v_.Color.Blue, .int .u8 v_.Color.Alpha]]) [Ent.blk b8 [.int .u8 0, .string ⟨⟨[]⟩⟩, .int .i64 0, .int .u8 0, .int .u8 0, .int .u8 0, .int .u8 0]] _ := hS.hand [0] [1] rfl rfl
  refine m_stp0 [1, 3] [(1, [], .pointer (some ⟨b1, 0, none⟩)), (3, [], .pointer (some ⟨b8, 0, none⟩))] H10 rfl rfl rfl (o_store [.int .u8 v_.Kind, .string ⟨⟨[]⟩⟩, .int .i64 0, .int .u8 0, .int .u8 0, .int .u8 0, .int .u8 0] H10 hd rfl rfl (by kernel_rfl) rfl rfl rfl) rfl fun _ wd11 H12 hq => ?_
  clear H10 hd
  obtain ⟨_, hq⟩ := hq
  replace hS : SH M X w [Ent.blk b8 [.int .u8 v_.Kind, .string ⟨⟨[]⟩⟩, .int .i64 0, .int .u8 0, .int .u8 0, .int .u8 0, .int .u8 0], Ent.blk b1 [.int .u8 v_.Kind, .string ⟨⟨v_.Word⟩⟩, .int .i64 v_.Num, .int .u8 v_.Color.Red, .int .u8 v_.Color.Green, .int .u8 v_.Color.Blue, .int .u8 v_.Color.Alpha]] _ := hS.join [0] [1] rfl rfl hq
  clear hq
  refine wl_end rfl ?_
  refine s_reg [] [1, 3, 4] [(1, [], .pointer (some ⟨b1, 0, none⟩)), (3, [], .pointer (some ⟨b8, 0, none⟩)), (4, [], .int .i64 1000000000000)] [] H12 (by kernel_rfl) trivial fun _ wd13 H14 hb => ?_
  clear H12
  replace hS := hS.below hb
  clear hb
  obtain ⟨z15, hz, hm_z15⟩ := bindE hm
  refine w_cut (fun a' w' => ∃ s_z15 : Int × Str × Int × Int × Int × Int × Int, z15 = Sum.inr s_z15 ∧ Fr 54 [(1, [], .pointer (some ⟨b1, 0, none⟩)), (3, [], .pointer (some ⟨b8, 0, none⟩)), (4, [], .int .i64 s_z15.1)] a' ∧ SH M X w [Ent.blk b8 [.int .u8 v_.Kind, .string ⟨⟨s_z15.2.1⟩⟩, .int .i64 s_z15.2.2.1, .int .u8 s_z15.2.2.2.1, .int .u8 s_z15.2.2.2.2.1, .int .u8 s_z15.2.2.2.2.2.1, .int .u8 s_z15.2.2.2.2.2.2], Ent.blk b1 [.int .u8 v_.Kind, .string ⟨⟨v_.Word⟩⟩, .int .i64 v_.Num, .int .u8 v_.Color.Red, .int .u8 v_.Color.Green, .int .u8 v_.Color.Blue, .int .u8 v_.Color.Alpha]] w') ?_ ?_
  · replace hm := hz
    refine s_reg [(.int .u8 v_.Kind)] [1, 3, 4, 9] [(1, [], .pointer (some ⟨b1, 0, none⟩)), (3, [], .pointer (some ⟨b8, 0, none⟩)), (4, [], .int .i64 1000000000000), (9, [], .int .u8 v_.Kind)] [fun wz => V.at1 ⟨b1, 0, none⟩ (.int .u8 v_.Kind) wz] H14 (by kernel_rfl) ⟨((hS.bk 1 rfl).at1 rfl), trivial⟩ fun _ wd16 H17 hb => ?_
    clear H14
    replace hS := hS.below hb
    clear hb
    refine w_block ?_
    refine s_reg [] [1, 3, 4, 9, 10] [(1, [], .pointer (some ⟨b1, 0, none⟩)), (3, [], .pointer (some ⟨b8, 0, none⟩)), (4, [], .int .i64 1000000000000), (9, [], .int .u8 v_.Kind), (10, [], .bool (v_.Kind == 1))] [] H17 (by kernel_rfl) trivial fun _ wd18 H19 hb => ?_
    clear H17
    replace hS := hS.below hb
    clear hb
    refine w_if H19 rfl (fun hc => ?_) (fun hc => ?_)
    · replace hm := bT hc hm
      refine w_seq ?_
      refine wl_start ?_
      refine wl_batch 0 3 [(.string ⟨⟨v_.Word⟩⟩)] [1, 3, 4, 13, 14] [(1, [], .pointer (some ⟨b1, 0, none⟩)), (3, [], .pointer (some ⟨b8, 0, none⟩)), (4, [], .int .i64 1000000000000), (13, [], .string ⟨⟨v_.Word⟩⟩), (14, [], .pointer (some ⟨b8, 1, none⟩))] [fun wz => V.at1 ⟨b1, 1, none⟩ (.string ⟨⟨v_.Word⟩⟩) wz] H19 (by decide) (by kernel_rfl) ⟨((hS.bk 1 rfl).at1 rfl), trivial⟩ fun _ wd20 H21 hb => ?_
      clear H19
      replace hS := hS.below hb
      clear hb
      have hd : S0 (AvL M [Ent.blk b1 [.int .u8 v_.Kind, .string ⟨⟨v_.Word⟩⟩, .int .i64 v_.Num, .int .u8 v_.Color.Red, .int .u8 v_.Color.Green, .int .u8 v_.Color.Blue, .int .u8 v_.Color.Alpha]]) [Ent.blk b8 [.int .u8 v_.Kind, .string ⟨⟨[]⟩⟩, .int .i64 0, .int .u8 0, .int .u8 0, .int .u8 0, .int .u8 0]] _ := hS.hand [0] [1] rfl rfl
      refine m_stp0 [1, 3, 4] [(1, [], .pointer (some ⟨b1, 0, none⟩)), (3, [], .pointer (some ⟨b8, 0, none⟩)), (4, [], .int .i64 1000000000000)] H21 rfl rfl rfl (o_store [.int .u8 v_.Kind, .string ⟨⟨v_.Word⟩⟩, .int .i64 0, .int .u8 0, .int .u8 0, .int .u8 0, .int .u8 0] H21 hd rfl rfl (by kernel_rfl) rfl rfl rfl) rfl fun _ wd22 H23 hq => ?_
      clear H21 hd
      obtain ⟨_, hq⟩ := hq
      replace hS : SH M X w [Ent.blk b8 [.int .u8 v_.Kind, .string ⟨⟨v_.Word⟩⟩, .int .i64 0, .int .u8 0, .int .u8 0, .int .u8 0, .int .u8 0], Ent.blk b1 [.int .u8 v_.Kind, .string ⟨⟨v_.Word⟩⟩, .int .i64 v_.Num, .int .u8 v_.Color.Red, .int .u8 v_.Color.Green, .int .u8 v_.Color.Blue, .int .u8 v_.Color.Alpha]] _ := hS.join [0] [1] rfl rfl hq
      clear hq
      refine wl_end rfl ?_
      refine s_reg [(.string ⟨⟨v_.Word⟩⟩)] [1, 3, 4, 17] [(1, [], .pointer (some ⟨b1, 0, none⟩)), (3, [], .pointer (some ⟨b8, 0, none⟩)), (4, [], .int .i64 1000000000000), (17, [], .bool (v_.Word == []))] [fun wz => V.at1 ⟨b1, 1, none⟩ (.string ⟨⟨v_.Word⟩⟩) wz] H23 (by kernel_rfl) ⟨((hS.bk 1 rfl).at1 rfl), trivial⟩ fun _ wd24 H25 hb => ?_
      clear H23
      replace hS := hS.below hb
      clear hb
      refine w_if H25 rfl (fun hc => ?_) (fun hc => ?_)
      · replace hm := bT hc hm
        refine s_reg [] [2] [(2, [], .int .i64 8)] [] H25 (by kernel_rfl) trivial fun _ wd26 H27 hb => ?_
        clear H25
        replace hS := hS.below hb
        clear hb
        refine w_ret ?_
        obtain rfl := someE hm
        have hm := hm_z15
        obtain rfl := someE hm
        exact retR1 H27 rfl rfl ⟨_, rfl, rfl, (hS.sel [] rfl)⟩
      · replace hm := bF hc hm
        refine w_skip ?_
        obtain rfl := someE hm
        exact ⟨_, rfl, Fr.keep (ks := [1, 3, 4]) H25 (by kernel_rfl), hS⟩
    · replace hm := bF hc hm
      obtain ⟨z28, hz, hm⟩ := bindE hm
      refine w_cut (fun a' w' => Fr 54 [(1, [], .pointer (some ⟨b1, 0, none⟩)), (3, [], .pointer (some ⟨b8, 0, none⟩)), (4, [], .int .i64 1000000000000), (9, [], .int .u8 v_.Kind), (18, [], .bool z28)] a' ∧ SH M X w [Ent.blk b8 [.int .u8 v_.Kind, .string ⟨⟨[]⟩⟩, .int .i64 0, .int .u8 0, .int .u8 0, .int .u8 0, .int .u8 0], Ent.blk b1 [.int .u8 v_.Kind, .string ⟨⟨v_.Word⟩⟩, .int .i64 v_.Num, .int .u8 v_.Color.Red, .int .u8 v_.Color.Green, .int .u8 v_.Color.Blue, .int .u8 v_.Color.Alpha]] w') ?_ ?_
      · replace hm := hz
        refine s_reg [] [1, 3, 4, 9, 18] [(1, [], .pointer (some ⟨b1, 0, none⟩)), (3, [], .pointer (some ⟨b8, 0, none⟩)), (4, [], .int .i64 1000000000000), (9, [], .int .u8 v_.Kind), (18, [], .bool (v_.Kind == 2))] [] H19 (by kernel_rfl) trivial fun _ wd29 H30 hb => ?_
        clear H19
        replace hS := hS.below hb
        clear hb
        refine w_if H30 rfl (fun hc => ?_) (fun hc => ?_)
        · replace hm := bT hc hm
          refine w_skip ?_
          obtain rfl := someE hm
          exact ⟨Fr.keep (ks := [1, 3, 4, 9, 18]) H30 (by kernel_rfl), hS⟩
        · replace hm := bF hc hm
          refine s_reg [] [1, 3, 4, 9, 18] [(1, [], .pointer (some ⟨b1, 0, none⟩)), (3, [], .pointer (some ⟨b8, 0, none⟩)), (4, [], .int .i64 1000000000000), (9, [], .int .u8 v_.Kind), (18, [], .bool (v_.Kind == 3))] [] H30 (by kernel_rfl) trivial fun _ wd31 H32 hb => ?_
          clear H30
          replace hS := hS.below hb
          clear hb
          refine w_if H32 rfl (fun hc => ?_) (fun hc => ?_)
          · replace hm := bT hc hm
            refine w_skip ?_
            obtain rfl := someE hm
            exact ⟨Fr.keep (ks := [1, 3, 4, 9, 18]) H32 (by kernel_rfl), hS⟩
          · replace hm := bF hc hm
            refine s_reg [] [1, 3, 4, 9, 18] [(1, [], .pointer (some ⟨b1, 0, none⟩)), (3, [], .pointer (some ⟨b8, 0, none⟩)), (4, [], .int .i64 1000000000000), (9, [], .int .u8 v_.Kind), (18, [], .bool (v_.Kind == 4))] [] H32 (by kernel_rfl) trivial fun _ wd33 H34 hb => ?_
            clear H32
            replace hS := hS.below hb
            clear hb
            refine w_if H34 rfl (fun hc => ?_) (fun hc => ?_)
            · replace hm := bT hc hm
              refine w_skip ?_
              obtain rfl := someE hm
              exact ⟨Fr.keep (ks := [1, 3, 4, 9, 18]) H34 (by kernel_rfl), hS⟩
            · replace hm := bF hc hm
              refine w_reg [] [1, 3, 4, 9, 18] [(1, [], .pointer (some ⟨b1, 0, none⟩)), (3, [], .pointer (some ⟨b8, 0, none⟩)), (4, [], .int .i64 1000000000000), (9, [], .int .u8 v_.Kind), (18, [], .bool (v_.Kind == 5))] [] H34 (by kernel_rfl) trivial fun _ wd35 H36 hb => ?_
              clear H34
              replace hS := hS.below hb
              clear hb
              obtain rfl := someE hm
              exact ⟨Fr.keep (ks := [1, 3, 4, 9, 18]) H36 (by kernel_rfl), hS⟩
      · rintro _ wd59 ⟨H, hS⟩
        refine w_if H rfl (fun hc => ?_) (fun hc => ?_)
        · replace hm := bT hc hm
          refine wl_start ?_
          refine wl_batch 0 3 [(.int .i64 v_.Num)] [1, 3, 4, 24, 25] [(1, [], .pointer (some ⟨b1, 0, none⟩)), (3, [], .pointer (some ⟨b8, 0, none⟩)), (4, [], .int .i64 1000000000000), (24, [], .int .i64 v_.Num), (25, [], .pointer (some ⟨b8, 2, none⟩))] [fun wz => V.at1 ⟨b1, 2, none⟩ (.int .i64 v_.Num) wz] H (by decide) (by kernel_rfl) ⟨((hS.bk 1 rfl).at1 rfl), trivial⟩ fun _ wd37 H38 hb => ?_
          clear H
          replace hS := hS.below hb
          clear hb
          have hd : S0 (AvL M [Ent.blk b1 [.int .u8 v_.Kind, .string ⟨⟨v_.Word⟩⟩, .int .i64 v_.Num, .int .u8 v_.Color.Red, .int .u8 v_.Color.Green, .int .u8 v_.Color.Blue, .int .u8 v_.Color.Alpha]]) [Ent.blk b8 [.int .u8 v_.Kind, .string ⟨⟨[]⟩⟩, .int .i64 0, .int .u8 0, .int .u8 0, .int .u8 0, .int .u8 0]] _ := hS.hand [0] [1] rfl rfl
          refine m_stp0 [1, 3, 4] [(1, [], .pointer (some ⟨b1, 0, none⟩)), (3, [], .pointer (some ⟨b8, 0, none⟩)), (4, [], .int .i64 1000000000000)] H38 rfl rfl rfl (o_store [.int .u8 v_.Kind, .string ⟨⟨[]⟩⟩, .int .i64 v_.Num, .int .u8 0, .int .u8 0, .int .u8 0, .int .u8 0] H38 hd rfl rfl (by kernel_rfl) rfl rfl rfl) rfl fun _ wd39 H40 hq => ?_
          clear H38 hd
          obtain ⟨_, hq⟩ := hq
          replace hS : SH M X w [Ent.blk b8 [.int .u8 v_.Kind, .string ⟨⟨[]⟩⟩, .int .i64 v_.Num, .int .u8 0, .int .u8 0, .int .u8 0, .int .u8 0], Ent.blk b1 [.int .u8 v_.Kind, .string ⟨⟨v_.Word⟩⟩, .int .i64 v_.Num, .int .u8 v_.Color.Red, .int .u8 v_.Color.Green, .int .u8 v_.Color.Blue, .int .u8 v_.Color.Alpha]] _ := hS.join [0] [1] rfl rfl hq
          clear hq
          refine wl_end rfl ?_
          obtain rfl := someE hm
          exact ⟨_, rfl, Fr.keep (ks := [1, 3, 4]) H40 (by kernel_rfl), hS⟩
        · replace hm := bF hc hm
          refine s_reg [] [1, 3, 4, 9, 26] [(1, [], .pointer (some ⟨b1, 0, none⟩)), (3, [], .pointer (some ⟨b8, 0, none⟩)), (4, [], .int .i64 1000000000000), (9, [], .int .u8 v_.Kind), (26, [], .bool (v_.Kind == 6))] [] H (by kernel_rfl) trivial fun _ wd41 H42 hb => ?_
          clear H
          replace hS := hS.below hb
          clear hb
          refine w_if H42 rfl (fun hc => ?_) (fun hc => ?_)
          · replace hm := bT hc hm
            refine w_seq ?_
            refine wl_start ?_
            refine wl_batch 0 3 [(.int .i64 v_.Num)] [1, 3, 29, 30] [(1, [], .pointer (some ⟨b1, 0, none⟩)), (3, [], .pointer (some ⟨b8, 0, none⟩)), (29, [], .int .i64 v_.Num), (30, [], .pointer (some ⟨b8, 2, none⟩))] [fun wz => V.at1 ⟨b1, 2, none⟩ (.int .i64 v_.Num) wz] H42 (by decide) (by kernel_rfl) ⟨((hS.bk 1 rfl).at1 rfl), trivial⟩ fun _ wd43 H44 hb => ?_
            clear H42
            replace hS := hS.below hb
            clear hb
            have hd : S0 (AvL M [Ent.blk b1 [.int .u8 v_.Kind, .string ⟨⟨v_.Word⟩⟩, .int .i64 v_.Num, .int .u8 v_.Color.Red, .int .u8 v_.Color.Green, .int .u8 v_.Color.Blue, .int .u8 v_.Color.Alpha]]) [Ent.blk b8 [.int .u8 v_.Kind, .string ⟨⟨[]⟩⟩, .int .i64 0, .int .u8 0, .int .u8 0, .int .u8 0, .int .u8 0]] _ := hS.hand [0] [1] rfl rfl
            refine m_stp0 [1, 3] [(1, [], .pointer (some ⟨b1, 0, none⟩)), (3, [], .pointer (some ⟨b8, 0, none⟩))] H44 rfl rfl rfl (o_store [.int .u8 v_.Kind, .string ⟨⟨[]⟩⟩, .int .i64 v_.Num, .int .u8 0, .int .u8 0, .int .u8 0, .int .u8 0] H44 hd rfl rfl (by kernel_rfl) rfl rfl rfl) rfl fun _ wd45 H46 hq => ?_
            clear H44 hd
            obtain ⟨_, hq⟩ := hq
            replace hS : SH M X w [Ent.blk b8 [.int .u8 v_.Kind, .string ⟨⟨[]⟩⟩, .int .i64 v_.Num, .int .u8 0, .int .u8 0, .int .u8 0, .int .u8 0], Ent.blk b1 [.int .u8 v_.Kind, .string ⟨⟨v_.Word⟩⟩, .int .i64 v_.Num, .int .u8 v_.Color.Red, .int .u8 v_.Color.Green, .int .u8 v_.Color.Blue, .int .u8 v_.Color.Alpha]] _ := hS.join [0] [1] rfl rfl hq
            clear hq
            refine wl_end rfl ?_
            refine w_reg [] [1, 3, 4] [(1, [], .pointer (some ⟨b1, 0, none⟩)), (3, [], .pointer (some ⟨b8, 0, none⟩)), (4, [], .int .i64 1000000000)] [] H46 (by kernel_rfl) trivial fun _ wd47 H48 hb => ?_
            clear H46
            replace hS := hS.below hb
            clear hb
            obtain rfl := someE hm
            exact ⟨_, rfl, Fr.keep (ks := [1, 3, 4]) H48 (by kernel_rfl), hS⟩
          · replace hm := bF hc hm
            refine s_reg [] [1, 3, 4, 9, 31] [(1, [], .pointer (some ⟨b1, 0, none⟩)), (3, [], .pointer (some ⟨b8, 0, none⟩)), (4, [], .int .i64 1000000000000), (9, [], .int .u8 v_.Kind), (31, [], .bool (v_.Kind == 7))] [] H42 (by kernel_rfl) trivial fun _ wd49 H50 hb => ?_
            clear H42
            replace hS := hS.below hb
            clear hb
            refine w_if H50 rfl (fun hc => ?_) (fun hc => ?_)
            · replace hm := bT hc hm
              refine wl_start ?_
              refine wl_batch 0 3 [(.agg ⟨[.int .u8 v_.Color.Red, .int .u8 v_.Color.Green, .int .u8 v_.Color.Blue, .int .u8 v_.Color.Alpha]⟩)] [1, 3, 4, 34, 35] [(1, [], .pointer (some ⟨b1, 0, none⟩)), (3, [], .pointer (some ⟨b8, 0, none⟩)), (4, [], .int .i64 1000000000000), (34, [], .agg ⟨[.int .u8 v_.Color.Red, .int .u8 v_.Color.Green, .int .u8 v_.Color.Blue, .int .u8 v_.Color.Alpha]⟩), (35, [], .pointer (some ⟨b8, 3, none⟩))] [fun wz => V.atN b1 3 [.int .u8 v_.Color.Red, .int .u8 v_.Color.Green, .int .u8 v_.Color.Blue, .int .u8 v_.Color.Alpha] 0 wz] H50 (by decide) (by kernel_rfl) ⟨((hS.bk 1 rfl).atD rfl), trivial⟩ fun _ wd51 H52 hb => ?_
              clear H50
              replace hS := hS.below hb
              clear hb
              have hd : S0 (AvL M [Ent.blk b1 [.int .u8 v_.Kind, .string ⟨⟨v_.Word⟩⟩, .int .i64 v_.Num, .int .u8 v_.Color.Red, .int .u8 v_.Color.Green, .int .u8 v_.Color.Blue, .int .u8 v_.Color.Alpha]]) [Ent.blk b8 [.int .u8 v_.Kind, .string ⟨⟨[]⟩⟩, .int .i64 0, .int .u8 0, .int .u8 0, .int .u8 0, .int .u8 0]] _ := hS.hand [0] [1] rfl rfl
              refine m_stp0 [1, 3, 4] [(1, [], .pointer (some ⟨b1, 0, none⟩)), (3, [], .pointer (some ⟨b8, 0, none⟩)), (4, [], .int .i64 1000000000000)] H52 rfl rfl rfl (o_store [.int .u8 v_.Kind, .string ⟨⟨[]⟩⟩, .int .i64 0, .int .u8 v_.Color.Red, .int .u8 v_.Color.Green, .int .u8 v_.Color.Blue, .int .u8 v_.Color.Alpha] H52 hd rfl rfl (by kernel_rfl) rfl rfl rfl) rfl fun _ wd53 H54 hq => ?_
              clear H52 hd
              obtain ⟨_, hq⟩ := hq
              replace hS : SH M X w [Ent.blk b8 [.int .u8 v_.Kind, .string ⟨⟨[]⟩⟩, .int .i64 0, .int .u8 v_.Color.Red, .int .u8 v_.Color.Green, .int .u8 v_.Color.Blue, .int .u8 v_.Color.Alpha], Ent.blk b1 [.int .u8 v_.Kind, .string ⟨⟨v_.Word⟩⟩, .int .i64 v_.Num, .int .u8 v_.Color.Red, .int .u8 v_.Color.Green, .int .u8 v_.Color.Blue, .int .u8 v_.Color.Alpha]] _ := hS.join [0] [1] rfl rfl hq
              clear hq
              refine wl_end rfl ?_
              obtain rfl := someE hm
              exact ⟨_, rfl, Fr.keep (ks := [1, 3, 4]) H54 (by kernel_rfl), hS⟩
            · replace hm := bF hc hm
              refine s_reg [] [1, 3, 4, 36] [(1, [], .pointer (some ⟨b1, 0, none⟩)), (3, [], .pointer (some ⟨b8, 0, none⟩)), (4, [], .int .i64 1000000000000), (36, [], .bool (v_.Kind == 8))] [] H50 (by kernel_rfl) trivial fun _ wd55 H56 hb => ?_
              clear H50
              replace hS := hS.below hb
              clear hb
              refine w_if H56 rfl (fun hc => ?_) (fun hc => ?_)
              · replace hm := bT hc hm
                refine w_skip ?_
                obtain rfl := someE hm
                exact ⟨_, rfl, Fr.keep (ks := [1, 3, 4]) H56 (by kernel_rfl), hS⟩
              · replace hm := bF hc hm
                refine s_reg [] [2] [(2, [], .int .i64 8)] [] H56 (by kernel_rfl) trivial fun _ wd57 H58 hb => ?_
                clear H56
                replace hS := hS.below hb
                clear hb
                refine w_ret ?_
                obtain rfl := someE hm
                have hm := hm_z15
                obtain rfl := someE hm
                exact retR1 H58 rfl rfl ⟨_, rfl, rfl, (hS.sel [] rfl)⟩
  · rintro _ wd69 ⟨s_z15, hz, H, hS⟩
    subst hz
    replace hm := sumR hm_z15
    refine w_seq ?_
    obtain ⟨x60, hx60, hm⟩ := letE hm
    obtain ⟨x61, hx61, hm⟩ := letE hm
    obtain ⟨x62, hx62, hm⟩ := letE hm
    refine s_reg [(.agg ⟨[.int .u8 v_.Kind, .string ⟨⟨v_.Word⟩⟩, .int .i64 v_.Num, .int .u8 v_.Color.Red, .int .u8 v_.Color.Green, .int .u8 v_.Color.Blue, .int .u8 v_.Color.Alpha]⟩), (.agg ⟨[.int .u8 v_.Kind, .string ⟨⟨s_z15.2.1⟩⟩, .int .i64 s_z15.2.2.1, .int .u8 s_z15.2.2.2.1, .int .u8 s_z15.2.2.2.2.1, .int .u8 s_z15.2.2.2.2.2.1, .int .u8 s_z15.2.2.2.2.2.2]⟩), (.int .i64 v_.Num), (.int .i64 v_.Num)] [53] [(53, [], .bool x62)] [fun wz => V.atN b1 0 [.int .u8 v_.Kind, .string ⟨⟨v_.Word⟩⟩, .int .i64 v_.Num, .int .u8 v_.Color.Red, .int .u8 v_.Color.Green, .int .u8 v_.Color.Blue, .int .u8 v_.Color.Alpha] 0 wz, fun wz => V.atN b8 0 [.int .u8 v_.Kind, .string ⟨⟨s_z15.2.1⟩⟩, .int .i64 s_z15.2.2.1, .int .u8 s_z15.2.2.2.1, .int .u8 s_z15.2.2.2.2.1, .int .u8 s_z15.2.2.2.2.2.1, .int .u8 s_z15.2.2.2.2.2.2] 0 wz, fun wz => (x60 = false ∧ True → V.at1 ⟨b1, 2, none⟩ (.int .i64 v_.Num) wz), fun wz => (x61 = false ∧ True → V.at1 ⟨b1, 2, none⟩ (.int .i64 v_.Num) wz)] H (by subst hx60 hx61 hx62; kernel_rfl) ⟨((hS.bk 1 rfl).atD rfl), ((hS.bk 0 rfl).atD rfl), fun hg => (hS.bk 1 rfl).at1 rfl, fun hg => (hS.bk 1 rfl).at1 rfl, trivial⟩ fun _ wd63 H64 hb => ?_
    clear H
    replace hS := hS.below hb
    clear hb
    replace hS : SH M X w [] _ := hS.sel [] rfl
    refine w_if H64 rfl (fun hc => ?_) (fun hc => ?_)
    · replace hm := bT hc hm
      refine s_reg [] [2] [(2, [], .int .i64 8)] [] H64 (by kernel_rfl) trivial fun _ wd65 H66 hb => ?_
      clear H64
      replace hS := hS.below hb
      clear hb
      refine w_ret ?_
      obtain rfl := someE hm
      exact retR1 H66 rfl rfl ⟨_, rfl, rfl, (hS.sel [] rfl)⟩
    · replace hm := bF hc hm
      refine w_skip ?_
      refine s_reg [] [2] [(2, [], .int .i64 0)] [] H64 (by kernel_rfl) trivial fun _ wd67 H68 hb => ?_
      clear H64
      replace hS := hS.below hb
      clear hb
      refine w_ret ?_
      obtain rfl := someE hm
      exact retR1 H68 rfl rfl ⟨_, rfl, rfl, (hS.sel [] rfl)⟩
theorem r25_Check_ok  (v_ : TVal) (r : Int) (hm : r25_Check v_ = some r) : Ret Tryd.prog 18 ⟨[.agg ⟨[.int .u8 v_.Kind, .string ⟨⟨v_.Word⟩⟩, .int .i64 v_.Num, .int .u8 v_.Color.Red, .int .u8 v_.Color.Green, .int .u8 v_.Color.Blue, .int .u8 v_.Color.Alpha]⟩]⟩ (.int .i64 r) := retP_of (Tryd.call18 _) (fun w h => r25_Check_w F0   v_ r hm w h)

def r25_Has_L1 (m : Nat) (prop : Int) (v_ : TVal) (y6 : List TProp) : Nat → Int → Option (Sum (Sum (Bool × Int) (Unit)) (Unit))
  | 0, _ => none
  | kk + 1, v37 =>
    cond (decide (v37 < (ln ((gi y6 prop).Words)))) (
    chk (0 ≤ v37 ∧ v37 < ln ((gi y6 prop).Words)) <|
    cond ((gi ((gi y6 prop).Words) v37) == v_.Word) (
    some (.inl (.inl (true, 0)))) (
    r25_Has_L1 m prop v_ y6 kk (w64 (v37 + 1)))) (
    some (.inr ()))
def r25_Has_L2 (m : Nat) (prop : Int) (v_ : TVal) (y6 : List TProp) : Nat → Int → Option (Sum (Bool × Int) (Unit))
  | 0, _ => none
  | kk + 1, v54 =>
    cond (decide (v54 < (ln ((gi y6 prop).Kinds)))) (
    chk (0 ≤ v54 ∧ v54 < ln ((gi y6 prop).Kinds)) <|
    cond ((gi ((gi y6 prop).Kinds) v54) == v_.Kind) (
    lt (cond (!((gi y6 prop).Least)) true (decide (0 ≤ v_.Num))) fun x60 =>
    some (.inl (x60, 0))) (
    r25_Has_L2 m prop v_ y6 kk (w64 (v54 + 1)))) (
    some (.inr ()))
def r25_Has (m : Nat) (prop : Int) (v_ : TVal) : Option (Bool × Int) :=
  Option.bind (r25_Table) fun y6 =>
  lt (cond (decide (prop < 0)) true (decide ((ln y6) ≤ prop))) fun x13 =>
  cond x13 (
  some (false, 2)) (
  Option.bind (r25_Check v_) fun y18 =>
  cond (y18 != 0) (
  some (false, 0)) (
  chk (0 ≤ prop ∧ prop < ln y6) <|
  Option.bind (
  cond (v_.Kind == 1) (
  Option.bind (
  r25_Has_L1 m prop v_ y6 m 0) fun (z34 : Sum (Sum (Bool × Int) (Unit)) (Unit)) => sumK z34 fun s_z34 =>
  some (.inl (false, 0))) (
  some (.inr ()))) fun (z31 : Sum (Bool × Int) (Unit)) => sumK z31 fun s_z31 =>
  Option.bind (
  r25_Has_L2 m prop v_ y6 m 0) fun (z51 : Sum (Bool × Int) (Unit)) => sumK z51 fun s_z51 =>
  some (false, 0)))
theorem r25_Has_w  (M : Av) (m : Nat) (prop : Int) (v_ : TVal) (r : Bool × Int) (hm : r25_Has m prop v_ = some r) (w : World) (hS : S0 M [] w) : Calls Tryd.prog 14 ⟨[.int .i64 prop, .agg ⟨[.int .u8 v_.Kind, .string ⟨⟨v_.Word⟩⟩, .int .i64 v_.Num, .int .u8 v_.Color.Red, .int .u8 v_.Color.Green, .int .u8 v_.Color.Blue, .int .u8 v_.Color.Alpha]⟩]⟩ w (fun e w' => ∃ v, e = .returned v ∧ v = .tuple ⟨[.bool r.1, .int .i64 r.2]⟩ ∧ SH M (fpl []) w [] w') := by
  rw [r25_Has] at hm
  have hS0 : SH M (fpl []) w [] w := hS
  generalize hX : fpl [] = X at hS0 ⊢
  clear hS hX
  have hS := hS0
  clear hS0
  refine calls_entryP Tryd.func14 rfl Tryd.ntmps14 rfl fun _ H => ?_
  refine w_seq ?_
  refine wl_start ?_
  have hd : S0 (AvL M []) [] _ := hS.hand [] [] rfl rfl
  refine m_stp [3, 0] [(0, [], .int .i64 prop)] H rfl rfl rfl rfl (o_box [.int .u8 v_.Kind, .string ⟨⟨v_.Word⟩⟩, .int .i64 v_.Num, .int .u8 v_.Color.Red, .int .u8 v_.Color.Green, .int .u8 v_.Color.Blue, .int .u8 v_.Color.Alpha] H hd rfl rfl) (fun _ => rfl) fun _ wd2 v H3 hq => ?_
  clear H hd
  obtain ⟨b1, rfl, hq⟩ := hq
  replace hS : SH M X w [Ent.blk b1 [.int .u8 v_.Kind, .string ⟨⟨v_.Word⟩⟩, .int .i64 v_.Num, .int .u8 v_.Color.Red, .int .u8 v_.Color.Green, .int .u8 v_.Color.Blue, .int .u8 v_.Color.Alpha]] _ := hS.join [] [] rfl rfl hq
  clear hq
  refine wl_batch 1 3 [] [0, 3] [(0, [], .int .i64 prop), (3, [], .pointer (some ⟨b1, 0, none⟩))] [] H3 (by decide) (by kernel_rfl) trivial fun _ wd4 H5 hb => ?_
  clear H3
  replace hS := hS.below hb
  clear hb
  refine wl_end rfl ?_
  refine w_seq ?_
  refine wl_start ?_
  obtain ⟨y6, hy6, hm⟩ := bindE hm
  have hd : S0 (AvL M [Ent.blk b1 [.int .u8 v_.Kind, .string ⟨⟨v_.Word⟩⟩, .int .i64 v_.Num, .int .u8 v_.Color.Red, .int .u8 v_.Color.Green, .int .u8 v_.Color.Blue, .int .u8 v_.Color.Alpha]]) [] _ := hS.hand [] [0] rfl rfl
  refine m_stp [10, 0, 3] [(0, [], .int .i64 prop), (3, [], .pointer (some ⟨b1, 0, none⟩))] H5 rfl rfl rfl rfl (o_callx H5 rfl rfl (r25_Table_ok _ hy6 _ _ hd)) (fun _ => rfl) fun _ wd9 v H10 hq => ?_
  clear H5 hd
  obtain ⟨g7, rfl, hq⟩ := hq
  replace hS : SH M X w [Ent.own 51 tyProp y6 g7, Ent.blk b1 [.int .u8 v_.Kind, .string ⟨⟨v_.Word⟩⟩, .int .i64 v_.Num, .int .u8 v_.Color.Red, .int .u8 v_.Color.Green, .int .u8 v_.Color.Blue, .int .u8 v_.Color.Alpha]] _ := hS.join [] [0] rfl rfl hq
  clear hq
  refine wl_batch 1 2 [] [0, 3, 6] [(0, [], .int .i64 prop), (3, [], .pointer (some ⟨b1, 0, none⟩)), (6, [], .slice g7.a y6.length g7.c)] [] H10 (by decide) (by kernel_rfl) trivial fun _ wd11 H12 hb => ?_
  clear H10
  replace hS := hS.below hb
  clear hb
  refine wl_end rfl ?_
  refine w_seq ?_
  obtain ⟨x13, hx13, hm⟩ := letE hm
  refine s_reg [] [0, 3, 6, 18] [(0, [], .int .i64 prop), (3, [], .pointer (some ⟨b1, 0, none⟩)), (6, [], .slice g7.a y6.length g7.c), (18, [], .bool x13)] [] H12 (by subst hx13; kernel_rfl) trivial fun _ wd14 H15 hb => ?_
  clear H12
  replace hS := hS.below hb
  clear hb
  refine w_if H15 rfl (fun hc => ?_) (fun hc => ?_)
  · replace hm := bT hc hm
    refine s_reg [] [4, 5] [(4, [], .bool false), (5, [], .int .i64 2)] [] H15 (by kernel_rfl) trivial fun _ wd16 H17 hb => ?_
    clear H15
    replace hS := hS.below hb
    clear hb
    replace hS : SH M X w [] _ := hS.sel [] rfl
    refine w_ret ?_
    obtain rfl := someE hm
    exact retR2 H17 rfl rfl rfl ⟨_, rfl, rfl, (hS.sel [] rfl)⟩
  · replace hm := bF hc hm
    refine w_skip ?_
    refine w_seq ?_
    obtain ⟨y18, hy18, hm⟩ := bindE hm
    refine s_reg [(.agg ⟨[.int .u8 v_.Kind, .string ⟨⟨v_.Word⟩⟩, .int .i64 v_.Num, .int .u8 v_.Color.Red, .int .u8 v_.Color.Green, .int .u8 v_.Color.Blue, .int .u8 v_.Color.Alpha]⟩), (.int .i64 y18)] [0, 3, 6, 21] [(0, [], .int .i64 prop), (3, [], .pointer (some ⟨b1, 0, none⟩)), (6, [], .slice g7.a y6.length g7.c), (21, [], .bool (y18 != 0))] [fun wz => V.atN b1 0 [.int .u8 v_.Kind, .string ⟨⟨v_.Word⟩⟩, .int .i64 v_.Num, .int .u8 v_.Color.Red, .int .u8 v_.Color.Green, .int .u8 v_.Color.Blue, .int .u8 v_.Color.Alpha] 0 wz, fun wz => RetB Tryd.prog 18 ⟨[.agg ⟨[.int .u8 v_.Kind, .string ⟨⟨v_.Word⟩⟩, .int .i64 v_.Num, .int .u8 v_.Color.Red, .int .u8 v_.Color.Green, .int .u8 v_.Color.Blue, .int .u8 v_.Color.Alpha]⟩]⟩ (.int .i64 y18) wz] H15 (by kernel_rfl) ⟨((hS.bk 1 rfl).atD rfl), ((r25_Check_ok _ _ hy18).b), trivial⟩ fun _ wd19 H20 hb => ?_
    clear H15
    replace hS := hS.below hb
    clear hb
    refine w_if H20 rfl (fun hc => ?_) (fun hc => ?_)
    · replace hm := bT hc hm
      refine s_reg [] [4, 5] [(4, [], .bool false), (5, [], .int .i64 0)] [] H20 (by kernel_rfl) trivial fun _ wd21 H22 hb => ?_
      clear H20
      replace hS := hS.below hb
      clear hb
      replace hS : SH M X w [] _ := hS.sel [] rfl
      refine w_ret ?_
      obtain rfl := someE hm
      exact retR2 H22 rfl rfl rfl ⟨_, rfl, rfl, (hS.sel [] rfl)⟩
    · replace hm := bF hc hm
      refine w_skip ?_
      refine w_seq ?_
      refine wl_start ?_
      obtain ⟨ho23, hm⟩ := chkE hm
      refine wl_batch 0 4 [(.agg ⟨[.string ⟨⟨(gi y6 prop).Name⟩⟩, .bool ((gi y6 prop).Inherited), .int .u8 ((gi y6 prop).Initial.Kind), .string ⟨⟨(gi y6 prop).Initial.Word⟩⟩, .int .i64 ((gi y6 prop).Initial.Num), .int .u8 ((gi y6 prop).Initial.Color.Red), .int .u8 ((gi y6 prop).Initial.Color.Green), .int .u8 ((gi y6 prop).Initial.Color.Blue), .int .u8 ((gi y6 prop).Initial.Color.Alpha), .slice (g7.s (prop).toNat 0).a (((gi y6 prop).Words).length) (g7.s (prop).toNat 0).c, .slice (g7.s (prop).toNat 1).a (((gi y6 prop).Kinds).length) (g7.s (prop).toNat 1).c, .bool ((gi y6 prop).Least)]⟩)] [3, 25] [(3, [], .pointer (some ⟨b1, 0, none⟩)), (25, [], .agg ⟨[.string ⟨⟨(gi y6 prop).Name⟩⟩, .bool ((gi y6 prop).Inherited), .int .u8 ((gi y6 prop).Initial.Kind), .string ⟨⟨(gi y6 prop).Initial.Word⟩⟩, .int .i64 ((gi y6 prop).Initial.Num), .int .u8 ((gi y6 prop).Initial.Color.Red), .int .u8 ((gi y6 prop).Initial.Color.Green), .int .u8 ((gi y6 prop).Initial.Color.Blue), .int .u8 ((gi y6 prop).Initial.Color.Alpha), .slice (g7.s (prop).toNat 0).a (((gi y6 prop).Words).length) (g7.s (prop).toNat 0).c, .slice (g7.s (prop).toNat 1).a (((gi y6 prop).Kinds).length) (g7.s (prop).toNat 1).c, .bool ((gi y6 prop).Least)]⟩)] [fun _ => oka g7.a ∧ 0 ≤ prop ∧ prop < ln y6, fun wz => V.atN (ab g7.a) (ao g7.a + (prop).toNat * 12) [.string ⟨⟨(gi y6 prop).Name⟩⟩, .bool ((gi y6 prop).Inherited), .int .u8 ((gi y6 prop).Initial.Kind), .string ⟨⟨(gi y6 prop).Initial.Word⟩⟩, .int .i64 ((gi y6 prop).Initial.Num), .int .u8 ((gi y6 prop).Initial.Color.Red), .int .u8 ((gi y6 prop).Initial.Color.Green), .int .u8 ((gi y6 prop).Initial.Color.Blue), .int .u8 ((gi y6 prop).Initial.Color.Alpha), .slice (g7.s (prop).toNat 0).a (((gi y6 prop).Words).length) (g7.s (prop).toNat 0).c, .slice (g7.s (prop).toNat 1).a (((gi y6 prop).Kinds).length) (g7.s (prop).toNat 1).c, .bool ((gi y6 prop).Least)] 0 wz] H20 (by decide) (by kernel_rfl) ⟨((hS.osl 0 rfl).oki ho23), ((hS.osl 0 rfl).atA ho23 0 rfl), trivial⟩ fun _ wd24 H25 hb => ?_
      clear H20
      replace hS := hS.below hb
      clear hb
      have hd : S0 (AvL M [Ent.own 51 tyProp y6 g7, Ent.blk b1 [.int .u8 v_.Kind, .string ⟨⟨v_.Word⟩⟩, .int .i64 v_.Num, .int .u8 v_.Color.Red, .int .u8 v_.Color.Green, .int .u8 v_.Color.Blue, .int .u8 v_.Color.Alpha]]) [] _ := hS.hand [] [0, 1] rfl rfl
      refine m_stp [7, 3, 25] [(3, [], .pointer (some ⟨b1, 0, none⟩)), (25, [], .agg ⟨[.string ⟨⟨(gi y6 prop).Name⟩⟩, .bool ((gi y6 prop).Inherited), .int .u8 ((gi y6 prop).Initial.Kind), .string ⟨⟨(gi y6 prop).Initial.Word⟩⟩, .int .i64 ((gi y6 prop).Initial.Num), .int .u8 ((gi y6 prop).Initial.Color.Red), .int .u8 ((gi y6 prop).Initial.Color.Green), .int .u8 ((gi y6 prop).Initial.Color.Blue), .int .u8 ((gi y6 prop).Initial.Color.Alpha), .slice (g7.s (prop).toNat 0).a (((gi y6 prop).Words).length) (g7.s (prop).toNat 0).c, .slice (g7.s (prop).toNat 1).a (((gi y6 prop).Kinds).length) (g7.s (prop).toNat 1).c, .bool ((gi y6 prop).Least)]⟩)] H25 rfl rfl rfl rfl (o_alloc [.string ⟨⟨[]⟩⟩, .bool false, .int .u8 0, .string ⟨⟨[]⟩⟩, .int .i64 0, .int .u8 0, .int .u8 0, .int .u8 0, .int .u8 0, .slice none 0 0, .slice none 0 0, .bool false] (z := .agg ⟨[.string ⟨⟨[]⟩⟩, .bool false, .int .u8 0, .string ⟨⟨[]⟩⟩, .int .i64 0, .int .u8 0, .int .u8 0, .int .u8 0, .int .u8 0, .slice none 0 0, .slice none 0 0, .bool false]⟩) hd (by kernel_rfl) rfl) (fun _ => rfl) fun _ wd27 v H28 hq => ?_
      clear H25 hd
      obtain ⟨b26, rfl, hq⟩ := hq
      replace hS : SH M X w [Ent.blk b26 [.string ⟨⟨[]⟩⟩, .bool false, .int .u8 0, .string ⟨⟨[]⟩⟩, .int .i64 0, .int .u8 0, .int .u8 0, .int .u8 0, .int .u8 0, .slice none 0 0, .slice none 0 0, .bool false], Ent.own 51 tyProp y6 g7, Ent.blk b1 [.int .u8 v_.Kind, .string ⟨⟨v_.Word⟩⟩, .int .i64 v_.Num, .int .u8 v_.Color.Red, .int .u8 v_.Color.Green, .int .u8 v_.Color.Blue, .int .u8 v_.Color.Alpha]] _ := hS.join [] [0, 1] rfl rfl hq
      clear hq
      have hd : S0 (AvL M [Ent.own 51 tyProp y6 g7, Ent.blk b1 [.int .u8 v_.Kind, .string ⟨⟨v_.Word⟩⟩, .int .i64 v_.Num, .int .u8 v_.Color.Red, .int .u8 v_.Color.Green, .int .u8 v_.Color.Blue, .int .u8 v_.Color.Alpha]]) [Ent.blk b26 [.string ⟨⟨[]⟩⟩, .bool false, .int .u8 0, .string ⟨⟨[]⟩⟩, .int .i64 0, .int .u8 0, .int .u8 0, .int .u8 0, .int .u8 0, .slice none 0 0, .slice none 0 0, .bool false]] _ := hS.hand [0] [1, 2] rfl rfl
      refine m_stp0 [3, 7] [(3, [], .pointer (some ⟨b1, 0, none⟩)), (7, [], .pointer (some ⟨b26, 0, none⟩))] H28 rfl rfl rfl (o_store [.string ⟨⟨(gi y6 prop).Name⟩⟩, .bool ((gi y6 prop).Inherited), .int .u8 ((gi y6 prop).Initial.Kind), .string ⟨⟨(gi y6 prop).Initial.Word⟩⟩, .int .i64 ((gi y6 prop).Initial.Num), .int .u8 ((gi y6 prop).Initial.Color.Red), .int .u8 ((gi y6 prop).Initial.Color.Green), .int .u8 ((gi y6 prop).Initial.Color.Blue), .int .u8 ((gi y6 prop).Initial.Color.Alpha), .slice (g7.s (prop).toNat 0).a (((gi y6 prop).Words).length) (g7.s (prop).toNat 0).c, .slice (g7.s (prop).toNat 1).a (((gi y6 prop).Kinds).length) (g7.s (prop).toNat 1).c, .bool ((gi y6 prop).Least)] H28 hd rfl rfl (by kernel_rfl) rfl rfl rfl) rfl fun _ wd29 H30 hq => ?_
      clear H28 hd
      obtain ⟨_, hq⟩ := hq
      replace hS : SH M X w [Ent.blk b26 [.string ⟨⟨(gi y6 prop).Name⟩⟩, .bool ((gi y6 prop).Inherited), .int .u8 ((gi y6 prop).Initial.Kind), .string ⟨⟨(gi y6 prop).Initial.Word⟩⟩, .int .i64 ((gi y6 prop).Initial.Num), .int .u8 ((gi y6 prop).Initial.Color.Red), .int .u8 ((gi y6 prop).Initial.Color.Green), .int .u8 ((gi y6 prop).Initial.Color.Blue), .int .u8 ((gi y6 prop).Initial.Color.Alpha), .slice (g7.s (prop).toNat 0).a (((gi y6 prop).Words).length) (g7.s (prop).toNat 0).c, .slice (g7.s (prop).toNat 1).a (((gi y6 prop).Kinds).length) (g7.s (prop).toNat 1).c, .bool ((gi y6 prop).Least)], Ent.own 51 tyProp y6 g7, Ent.blk b1 [.int .u8 v_.Kind, .string ⟨⟨v_.Word⟩⟩, .int .i64 v_.Num, .int .u8 v_.Color.Red, .int .u8 v_.Color.Green, .int .u8 v_.Color.Blue, .int .u8 v_.Color.Alpha]] _ := hS.join [0] [1, 2] rfl rfl hq
      clear hq
      refine wl_end rfl ?_
      obtain ⟨z31, hz, hm_z31⟩ := bindE hm
      refine w_cut (fun a' w' => ∃ s_z31 : Unit, z31 = Sum.inr s_z31 ∧ Fr 67 [(3, [], .pointer (some ⟨b1, 0, none⟩)), (7, [], .pointer (some ⟨b26, 0, none⟩))] a' ∧ SH M X w [Ent.blk b26 [.string ⟨⟨(gi y6 prop).Name⟩⟩, .bool ((gi y6 prop).Inherited), .int .u8 ((gi y6 prop).Initial.Kind), .string ⟨⟨(gi y6 prop).Initial.Word⟩⟩, .int .i64 ((gi y6 prop).Initial.Num), .int .u8 ((gi y6 prop).Initial.Color.Red), .int .u8 ((gi y6 prop).Initial.Color.Green), .int .u8 ((gi y6 prop).Initial.Color.Blue), .int .u8 ((gi y6 prop).Initial.Color.Alpha), .slice (g7.s (prop).toNat 0).a (((gi y6 prop).Words).length) (g7.s (prop).toNat 0).c, .slice (g7.s (prop).toNat 1).a (((gi y6 prop).Kinds).length) (g7.s (prop).toNat 1).c, .bool ((gi y6 prop).Least)], Ent.own 51 tyProp y6 g7, Ent.blk b1 [.int .u8 v_.Kind, .string ⟨⟨v_.Word⟩⟩, .int .i64 v_.Num, .int .u8 v_.Color.Red, .int .u8 v_.Color.Green, .int .u8 v_.Color.Blue, .int .u8 v_.Color.Alpha]] w') ?_ ?_
      · replace hm := hz
        refine s_reg [(.int .u8 v_.Kind)] [3, 7, 28] [(3, [], .pointer (some ⟨b1, 0, none⟩)), (7, [], .pointer (some ⟨b26, 0, none⟩)), (28, [], .bool (v_.Kind == 1))] [fun wz => V.at1 ⟨b1, 0, none⟩ (.int .u8 v_.Kind) wz] H30 (by kernel_rfl) ⟨((hS.bk 2 rfl).at1 rfl), trivial⟩ fun _ wd32 H33 hb => ?_
        clear H30
        replace hS := hS.below hb
        clear hb
        refine w_if H33 rfl (fun hc => ?_) (fun hc => ?_)
        · replace hm := bT hc hm
          obtain ⟨z34, hz, hm_z34⟩ := bindE hm
          refine w_cut (fun a' w' => ∃ s_z34 : Unit, z34 = Sum.inr s_z34 ∧ Fr 67 [] a' ∧ SH M X w [Ent.blk b26 [.string ⟨⟨(gi y6 prop).Name⟩⟩, .bool ((gi y6 prop).Inherited), .int .u8 ((gi y6 prop).Initial.Kind), .string ⟨⟨(gi y6 prop).Initial.Word⟩⟩, .int .i64 ((gi y6 prop).Initial.Num), .int .u8 ((gi y6 prop).Initial.Color.Red), .int .u8 ((gi y6 prop).Initial.Color.Green), .int .u8 ((gi y6 prop).Initial.Color.Blue), .int .u8 ((gi y6 prop).Initial.Color.Alpha), .slice (g7.s (prop).toNat 0).a (((gi y6 prop).Words).length) (g7.s (prop).toNat 0).c, .slice (g7.s (prop).toNat 1).a (((gi y6 prop).Kinds).length) (g7.s (prop).toNat 1).c, .bool ((gi y6 prop).Least)], Ent.own 51 tyProp y6 g7, Ent.blk b1 [.int .u8 v_.Kind, .string ⟨⟨v_.Word⟩⟩, .int .i64 v_.Num, .int .u8 v_.Color.Red, .int .u8 v_.Color.Green, .int .u8 v_.Color.Blue, .int .u8 v_.Color.Alpha]] w') ?_ ?_
          · replace hm := hz
            refine s_reg [] [3, 7, 8] [(3, [], .pointer (some ⟨b1, 0, none⟩)), (7, [], .pointer (some ⟨b26, 0, none⟩)), (8, [], .int .i64 0)] [] H33 (by kernel_rfl) trivial fun _ wd35 H36 hb => ?_
            clear H33
            replace hS := hS.below hb
            clear hb
            refine w_block ?_
            refine w_loop (fun kk a' w' => ∃ (v37 : Int), r25_Has_L1 m prop v_ y6 kk v37 = some _ ∧ Fr 67 [(3, [], .pointer (some ⟨b1, 0, none⟩)), (7, [], .pointer (some ⟨b26, 0, none⟩)), (8, [], .int .i64 v37)] a' ∧ SH M X w [Ent.blk b26 [.string ⟨⟨(gi y6 prop).Name⟩⟩, .bool ((gi y6 prop).Inherited), .int .u8 ((gi y6 prop).Initial.Kind), .string ⟨⟨(gi y6 prop).Initial.Word⟩⟩, .int .i64 ((gi y6 prop).Initial.Num), .int .u8 ((gi y6 prop).Initial.Color.Red), .int .u8 ((gi y6 prop).Initial.Color.Green), .int .u8 ((gi y6 prop).Initial.Color.Blue), .int .u8 ((gi y6 prop).Initial.Color.Alpha), .slice (g7.s (prop).toNat 0).a (((gi y6 prop).Words).length) (g7.s (prop).toNat 0).c, .slice (g7.s (prop).toNat 1).a (((gi y6 prop).Kinds).length) (g7.s (prop).toNat 1).c, .bool ((gi y6 prop).Least)], Ent.own 51 tyProp y6 g7, Ent.blk b1 [.int .u8 v_.Kind, .string ⟨⟨v_.Word⟩⟩, .int .i64 v_.Num, .int .u8 v_.Color.Red, .int .u8 v_.Color.Green, .int .u8 v_.Color.Blue, .int .u8 v_.Color.Alpha]] w') ⟨_, 0, hm, Fr.keep (ks := [3, 7, 8]) H36 (by kernel_rfl), hS⟩ ?_
            clear hm H36 hS
            rintro kk _ wd47 ⟨v37, hm, H, hS⟩
            cases kk with
            | zero => exact noneE hm
            | succ kk =>
              rw [r25_Has_L1] at hm
              refine w_seq ?_
              refine s_reg [(.slice (g7.s (prop).toNat 0).a (((gi y6 prop).Words).length) (g7.s (prop).toNat 0).c)] [3, 7, 8, 33] [(3, [], .pointer (some ⟨b1, 0, none⟩)), (7, [], .pointer (some ⟨b26, 0, none⟩)), (8, [], .int .i64 v37), (33, [], .bool (decide (v37 < (ln ((gi y6 prop).Words)))))] [fun wz => V.at1 ⟨b26, 9, none⟩ (.slice (g7.s (prop).toNat 0).a (((gi y6 prop).Words).length) (g7.s (prop).toNat 0).c) wz] H (by kernel_rfl) ⟨((hS.bk 0 rfl).at1 rfl), trivial⟩ fun _ wd38 H39 hb => ?_
              clear H
              replace hS := hS.below hb
              clear hb
              refine w_if H39 rfl (fun hc => ?_) (fun hc => ?_)
              · replace hm := bT hc hm
                refine w_skip ?_
                refine w_seq ?_
                refine w_block ?_
                obtain ⟨ho40, hm⟩ := chkE hm
                refine s_draw [(.slice (g7.s (prop).toNat 0).a (((gi y6 prop).Words).length) (g7.s (prop).toNat 0).c), (.string ⟨⟨(gi ((gi y6 prop).Words) v37)⟩⟩), (.string ⟨⟨v_.Word⟩⟩)] [3, 7, 8, 43] [(3, [], .pointer (some ⟨b1, 0, none⟩)), (7, [], .pointer (some ⟨b26, 0, none⟩)), (8, [], .int .i64 v37), (43, [], .bool ((gi ((gi y6 prop).Words) v37) == v_.Word))] [fun wz => V.at1 ⟨b26, 9, none⟩ (.slice (g7.s (prop).toNat 0).a (((gi y6 prop).Words).length) (g7.s (prop).toNat 0).c) wz, fun _ => oka (g7.s (prop).toNat 0).a ∧ 0 ≤ v37 ∧ v37 < ln ((gi y6 prop).Words), fun wz => V.at1 ⟨ab (g7.s (prop).toNat 0).a, ao (g7.s (prop).toNat 0).a + (v37).toNat * 1, none⟩ (.string ⟨⟨(gi ((gi y6 prop).Words) v37)⟩⟩) wz, fun wz => V.at1 ⟨b1, 1, none⟩ (.string ⟨⟨v_.Word⟩⟩) wz] H39 (by kernel_rfl) (by kernel_rfl) (by kernel_rfl) ⟨((hS.bk 0 rfl).at1 rfl), ((tyProp_i0 ((hS.osl 1 rfl).el ho23)).oki ho40), ((tyProp_i0 ((hS.osl 1 rfl).el ho23)).at1 ho40 0 rfl), ((hS.bk 2 rfl).at1 rfl), trivial⟩ fun _ wd41 H42 hb => ?_
                clear H39
                replace hS := hS.below hb
                clear hb
                refine w_if H42 rfl (fun hc => ?_) (fun hc => ?_)
                · replace hm := bT hc hm
                  refine s_reg [] [4, 5] [(4, [], .bool true), (5, [], .int .i64 0)] [] H42 (by kernel_rfl) trivial fun _ wd43 H44 hb => ?_
                  clear H42
                  replace hS := hS.below hb
                  clear hb
                  refine w_ret ?_
                  obtain rfl := someE hm
                  have hm := hm_z34
                  obtain rfl := someE hm
                  have hm := hm_z31
                  obtain rfl := someE hm
                  exact retR2 H44 rfl rfl rfl ⟨_, rfl, rfl, (hS.sel [] rfl)⟩
                · replace hm := bF hc hm
                  refine w_skip ?_
                  refine w_reg [] [3, 7, 8] [(3, [], .pointer (some ⟨b1, 0, none⟩)), (7, [], .pointer (some ⟨b26, 0, none⟩)), (8, [], .int .i64 (w64 (v37 + 1)))] [] H42 (by kernel_rfl) trivial fun _ wd45 H46 hb => ?_
                  clear H42
                  replace hS := hS.below hb
                  clear hb
                  exact ⟨_, Nat.lt_succ_self _, w64 (v37 + 1), hm, Fr.keep (ks := [3, 7, 8]) H46 (by kernel_rfl), hS⟩
              · replace hm := bF hc hm
                refine w_exit rfl ?_
                obtain rfl := someE hm
                exact ⟨_, rfl, Fr.keep (ks := []) H39 (by kernel_rfl), hS⟩
          · rintro _ wd50 ⟨s_z34, hz, H, hS⟩
            subst hz
            replace hm := sumR hm_z34
            refine s_reg [] [4, 5] [(4, [], .bool false), (5, [], .int .i64 0)] [] H (by kernel_rfl) trivial fun _ wd48 H49 hb => ?_
            clear H
            replace hS := hS.below hb
            clear hb
            refine w_ret ?_
            obtain rfl := someE hm
            have hm := hm_z31
            obtain rfl := someE hm
            exact retR2 H49 rfl rfl rfl ⟨_, rfl, rfl, (hS.sel [] rfl)⟩
        · replace hm := bF hc hm
          refine w_skip ?_
          obtain rfl := someE hm
          exact ⟨_, rfl, Fr.keep (ks := [3, 7]) H33 (by kernel_rfl), hS⟩
      · rintro _ wd69 ⟨s_z31, hz, H, hS⟩
        subst hz
        replace hm := sumR hm_z31
        obtain ⟨z51, hz, hm_z51⟩ := bindE hm
        refine w_cut (fun a' w' => ∃ s_z51 : Unit, z51 = Sum.inr s_z51 ∧ Fr 67 [] a' ∧ SH M X w [Ent.blk b26 [.string ⟨⟨(gi y6 prop).Name⟩⟩, .bool ((gi y6 prop).Inherited), .int .u8 ((gi y6 prop).Initial.Kind), .string ⟨⟨(gi y6 prop).Initial.Word⟩⟩, .int .i64 ((gi y6 prop).Initial.Num), .int .u8 ((gi y6 prop).Initial.Color.Red), .int .u8 ((gi y6 prop).Initial.Color.Green), .int .u8 ((gi y6 prop).Initial.Color.Blue), .int .u8 ((gi y6 prop).Initial.Color.Alpha), .slice (g7.s (prop).toNat 0).a (((gi y6 prop).Words).length) (g7.s (prop).toNat 0).c, .slice (g7.s (prop).toNat 1).a (((gi y6 prop).Kinds).length) (g7.s (prop).toNat 1).c, .bool ((gi y6 prop).Least)], Ent.own 51 tyProp y6 g7, Ent.blk b1 [.int .u8 v_.Kind, .string ⟨⟨v_.Word⟩⟩, .int .i64 v_.Num, .int .u8 v_.Color.Red, .int .u8 v_.Color.Green, .int .u8 v_.Color.Blue, .int .u8 v_.Color.Alpha]] w') ?_ ?_
        · replace hm := hz
          refine s_reg [] [3, 7, 9] [(3, [], .pointer (some ⟨b1, 0, none⟩)), (7, [], .pointer (some ⟨b26, 0, none⟩)), (9, [], .int .i64 0)] [] H (by kernel_rfl) trivial fun _ wd52 H53 hb => ?_
          clear H
          replace hS := hS.below hb
          clear hb
          refine w_block ?_
          refine w_loop (fun kk a' w' => ∃ (v54 : Int), r25_Has_L2 m prop v_ y6 kk v54 = some _ ∧ Fr 67 [(3, [], .pointer (some ⟨b1, 0, none⟩)), (7, [], .pointer (some ⟨b26, 0, none⟩)), (9, [], .int .i64 v54)] a' ∧ SH M X w [Ent.blk b26 [.string ⟨⟨(gi y6 prop).Name⟩⟩, .bool ((gi y6 prop).Inherited), .int .u8 ((gi y6 prop).Initial.Kind), .string ⟨⟨(gi y6 prop).Initial.Word⟩⟩, .int .i64 ((gi y6 prop).Initial.Num), .int .u8 ((gi y6 prop).Initial.Color.Red), .int .u8 ((gi y6 prop).Initial.Color.Green), .int .u8 ((gi y6 prop).Initial.Color.Blue), .int .u8 ((gi y6 prop).Initial.Color.Alpha), .slice (g7.s (prop).toNat 0).a (((gi y6 prop).Words).length) (g7.s (prop).toNat 0).c, .slice (g7.s (prop).toNat 1).a (((gi y6 prop).Kinds).length) (g7.s (prop).toNat 1).c, .bool ((gi y6 prop).Least)], Ent.own 51 tyProp y6 g7, Ent.blk b1 [.int .u8 v_.Kind, .string ⟨⟨v_.Word⟩⟩, .int .i64 v_.Num, .int .u8 v_.Color.Red, .int .u8 v_.Color.Green, .int .u8 v_.Color.Blue, .int .u8 v_.Color.Alpha]] w') ⟨_, 0, hm, Fr.keep (ks := [3, 7, 9]) H53 (by kernel_rfl), hS⟩ ?_
          clear hm H53 hS
          rintro kk _ wd65 ⟨v54, hm, H, hS⟩
          cases kk with
          | zero => exact noneE hm
          | succ kk =>
            rw [r25_Has_L2] at hm
            refine w_seq ?_
            refine s_reg [(.slice (g7.s (prop).toNat 1).a (((gi y6 prop).Kinds).length) (g7.s (prop).toNat 1).c)] [3, 7, 9, 48] [(3, [], .pointer (some ⟨b1, 0, none⟩)), (7, [], .pointer (some ⟨b26, 0, none⟩)), (9, [], .int .i64 v54), (48, [], .bool (decide (v54 < (ln ((gi y6 prop).Kinds)))))] [fun wz => V.at1 ⟨b26, 10, none⟩ (.slice (g7.s (prop).toNat 1).a (((gi y6 prop).Kinds).length) (g7.s (prop).toNat 1).c) wz] H (by kernel_rfl) ⟨((hS.bk 0 rfl).at1 rfl), trivial⟩ fun _ wd55 H56 hb => ?_
            clear H
            replace hS := hS.below hb
            clear hb
            refine w_if H56 rfl (fun hc => ?_) (fun hc => ?_)
            · replace hm := bT hc hm
              refine w_skip ?_
              refine w_seq ?_
              refine w_block ?_
              obtain ⟨ho57, hm⟩ := chkE hm
              refine s_draw [(.slice (g7.s (prop).toNat 1).a (((gi y6 prop).Kinds).length) (g7.s (prop).toNat 1).c), (.int .u8 (gi ((gi y6 prop).Kinds) v54)), (.int .u8 v_.Kind)] [3, 7, 9, 58] [(3, [], .pointer (some ⟨b1, 0, none⟩)), (7, [], .pointer (some ⟨b26, 0, none⟩)), (9, [], .int .i64 v54), (58, [], .bool ((gi ((gi y6 prop).Kinds) v54) == v_.Kind))] [fun wz => V.at1 ⟨b26, 10, none⟩ (.slice (g7.s (prop).toNat 1).a (((gi y6 prop).Kinds).length) (g7.s (prop).toNat 1).c) wz, fun _ => oka (g7.s (prop).toNat 1).a ∧ 0 ≤ v54 ∧ v54 < ln ((gi y6 prop).Kinds), fun wz => V.at1 ⟨ab (g7.s (prop).toNat 1).a, ao (g7.s (prop).toNat 1).a + (v54).toNat * 1, none⟩ (.int .u8 (gi ((gi y6 prop).Kinds) v54)) wz, fun wz => V.at1 ⟨b1, 0, none⟩ (.int .u8 v_.Kind) wz] H56 (by kernel_rfl) (by kernel_rfl) (by kernel_rfl) ⟨((hS.bk 0 rfl).at1 rfl), ((tyProp_i1 ((hS.osl 1 rfl).el ho23)).oki ho57), ((tyProp_i1 ((hS.osl 1 rfl).el ho23)).at1 ho57 0 rfl), ((hS.bk 2 rfl).at1 rfl), trivial⟩ fun _ wd58 H59 hb => ?_
              clear H56
              replace hS := hS.below hb
              clear hb
              refine w_if H59 rfl (fun hc => ?_) (fun hc => ?_)
              · replace hm := bT hc hm
                obtain ⟨x60, hx60, hm⟩ := letE hm
                refine s_reg [(.bool ((gi y6 prop).Least)), (.int .i64 v_.Num)] [4, 5] [(4, [], .bool x60), (5, [], .int .i64 0)] [fun wz => V.at1 ⟨b26, 11, none⟩ (.bool ((gi y6 prop).Least)) wz, fun wz => ((!((gi y6 prop).Least)) = false ∧ True → V.at1 ⟨b1, 2, none⟩ (.int .i64 v_.Num) wz)] H59 (by subst hx60; kernel_rfl) ⟨((hS.bk 0 rfl).at1 rfl), fun hg => (hS.bk 2 rfl).at1 rfl, trivial⟩ fun _ wd61 H62 hb => ?_
                clear H59
                replace hS := hS.below hb
                clear hb
                refine w_ret ?_
                obtain rfl := someE hm
                have hm := hm_z51
                obtain rfl := someE hm
                exact retR2 H62 rfl rfl rfl ⟨_, rfl, rfl, (hS.sel [] rfl)⟩
              · replace hm := bF hc hm
                refine w_skip ?_
                refine w_reg [] [3, 7, 9] [(3, [], .pointer (some ⟨b1, 0, none⟩)), (7, [], .pointer (some ⟨b26, 0, none⟩)), (9, [], .int .i64 (w64 (v54 + 1)))] [] H59 (by kernel_rfl) trivial fun _ wd63 H64 hb => ?_
                clear H59
                replace hS := hS.below hb
                clear hb
                exact ⟨_, Nat.lt_succ_self _, w64 (v54 + 1), hm, Fr.keep (ks := [3, 7, 9]) H64 (by kernel_rfl), hS⟩
            · replace hm := bF hc hm
              refine w_exit rfl ?_
              obtain rfl := someE hm
              exact ⟨_, rfl, Fr.keep (ks := []) H56 (by kernel_rfl), hS⟩
        · rintro _ wd68 ⟨s_z51, hz, H, hS⟩
          subst hz
          replace hm := sumR hm_z51
          replace hS : SH M X w [] _ := hS.sel [] rfl
          refine s_reg [] [4, 5] [(4, [], .bool false), (5, [], .int .i64 0)] [] H (by kernel_rfl) trivial fun _ wd66 H67 hb => ?_
          clear H
          replace hS := hS.below hb
          clear hb
          refine w_ret ?_
          obtain rfl := someE hm
          exact retR2 H67 rfl rfl rfl ⟨_, rfl, rfl, (hS.sel [] rfl)⟩
theorem r25_Has_ok  (m : Nat) (prop : Int) (v_ : TVal) (r : Bool × Int) (hm : r25_Has m prop v_ = some r) : Ret Tryd.prog 14 ⟨[.int .i64 prop, .agg ⟨[.int .u8 v_.Kind, .string ⟨⟨v_.Word⟩⟩, .int .i64 v_.Num, .int .u8 v_.Color.Red, .int .u8 v_.Color.Green, .int .u8 v_.Color.Blue, .int .u8 v_.Color.Alpha]⟩]⟩ (.tuple ⟨[.bool r.1, .int .i64 r.2]⟩) := retP_of (Tryd.call14 _) (fun w h => r25_Has_w F0 m   prop v_ r hm w h)

def law25_PropsTells (m : Nat) (name_ : Str) (prop : Int) (v_ : TVal) : Option (Bool) :=
  lt (cond (decide (200 < (ln name_))) true (decide (200 < (ln v_.Word)))) fun x6 =>
  cond x6 (
  some true) (
  Option.bind (props_Find m name_) fun y11 =>
  Option.bind (r25_Find m name_) fun y14 =>
  Option.bind (props_Inherited m name_) fun y17 =>
  Option.bind (r25_Inherited m name_) fun y20 =>
  Option.bind (props_Has m prop v_) fun y23 =>
  Option.bind (r25_Has m prop v_) fun y26 =>
  lt (cond (y11.1 == y14.1) (y11.2 == y14.2) false) fun x29 =>
  lt (cond (cond x29 (y17.1 == y20.1) false) (y17.2 == y20.2) false) fun x30 =>
  lt (cond (cond x30 (y23.1 == y26.1) false) (y23.2 == y26.2) false) fun x31 =>
  Option.bind (cond x31 (props_Custom name_) (some default)) fun y32 =>
  Option.bind (cond x31 (r25_Custom name_) (some default)) fun y33 =>
  Option.bind (cond (cond x31 (y32 == y33) false) (props_Check v_) (some default)) fun y34 =>
  Option.bind (cond (cond x31 (y32 == y33) false) (r25_Check v_) (some default)) fun y35 =>
  lt (cond (cond x31 (y32 == y33) false) (y34 == y35) false) fun x36 =>
  some x36)
theorem law25_PropsTells_w  (M : Av) (m : Nat) (name_ : Str) (prop : Int) (v_ : TVal) (r : Bool) (hm : law25_PropsTells m name_ prop v_ = some r) (w : World) (hS : S0 M [Ent.im (tI .u8) gl_strings_asciiSpace (Gh.mk (some ⟨0, 0, none⟩) 256 fun _ _ => .nil)] w) : Calls Tryd.prog 3 ⟨[.string ⟨⟨name_⟩⟩, .int .i64 prop, .agg ⟨[.int .u8 v_.Kind, .string ⟨⟨v_.Word⟩⟩, .int .i64 v_.Num, .int .u8 v_.Color.Red, .int .u8 v_.Color.Green, .int .u8 v_.Color.Blue, .int .u8 v_.Color.Alpha]⟩]⟩ w (fun e w' => ∃ v, e = .returned v ∧ v = .bool r ∧ SH M (fpl [Ent.im (tI .u8) gl_strings_asciiSpace (Gh.mk (some ⟨0, 0, none⟩) 256 fun _ _ => .nil)]) w [] w') := by
  rw [law25_PropsTells] at hm
  have hS0 : SH M (fpl [Ent.im (tI .u8) gl_strings_asciiSpace (Gh.mk (some ⟨0, 0, none⟩) 256 fun _ _ => .nil)]) w [Ent.im (tI .u8) gl_strings_asciiSpace (Gh.mk (some ⟨0, 0, none⟩) 256 fun _ _ => .nil)] w := hS
  generalize hX : fpl [Ent.im (tI .u8) gl_strings_asciiSpace (Gh.mk (some ⟨0, 0, none⟩) 256 fun _ _ => .nil)] = X at hS0 ⊢
  clear hS hX
  have hS := hS0
  clear hS0
  refine calls_entryP Tryd.func3 rfl Tryd.ntmps3 rfl fun _ H => ?_
  refine w_seq ?_
  refine wl_start ?_
  have hd : S0 (AvL M [Ent.im (tI .u8) gl_strings_asciiSpace (Gh.mk (some ⟨0, 0, none⟩) 256 fun _ _ => .nil)]) [] _ := hS.hand [] [0] rfl rfl
  refine m_stp [5, 0, 1] [(0, [], .string ⟨⟨name_⟩⟩), (1, [], .int .i64 prop)] H rfl rfl rfl rfl (o_box [.int .u8 v_.Kind, .string ⟨⟨v_.Word⟩⟩, .int .i64 v_.Num, .int .u8 v_.Color.Red, .int .u8 v_.Color.Green, .int .u8 v_.Color.Blue, .int .u8 v_.Color.Alpha] H hd rfl rfl) (fun _ => rfl) fun _ wd2 v H3 hq => ?_
  clear H hd
  obtain ⟨b1, rfl, hq⟩ := hq
  replace hS : SH M X w [Ent.blk b1 [.int .u8 v_.Kind, .string ⟨⟨v_.Word⟩⟩, .int .i64 v_.Num, .int .u8 v_.Color.Red, .int .u8 v_.Color.Green, .int .u8 v_.Color.Blue, .int .u8 v_.Color.Alpha], Ent.im (tI .u8) gl_strings_asciiSpace (Gh.mk (some ⟨0, 0, none⟩) 256 fun _ _ => .nil)] _ := hS.join [] [0] rfl rfl hq
  clear hq
  refine wl_batch 1 2 [] [0, 1, 5] [(0, [], .string ⟨⟨name_⟩⟩), (1, [], .int .i64 prop), (5, [], .pointer (some ⟨b1, 0, none⟩))] [] H3 (by decide) (by kernel_rfl) trivial fun _ wd4 H5 hb => ?_
  clear H3
  replace hS := hS.below hb
  clear hb
  refine wl_end rfl ?_
  refine w_seq ?_
  obtain ⟨x6, hx6, hm⟩ := letE hm
  refine s_reg [(.string ⟨⟨v_.Word⟩⟩)] [0, 1, 5, 27] [(0, [], .string ⟨⟨name_⟩⟩), (1, [], .int .i64 prop), (5, [], .pointer (some ⟨b1, 0, none⟩)), (27, [], .bool x6)] [fun wz => ((decide (200 < (ln name_))) = false ∧ True → V.at1 ⟨b1, 1, none⟩ (.string ⟨⟨v_.Word⟩⟩) wz)] H5 (by subst hx6; kernel_rfl) ⟨fun hg => (hS.bk 0 rfl).at1 rfl, trivial⟩ fun _ wd7 H8 hb => ?_
  clear H5
  replace hS := hS.below hb
  clear hb
  refine w_if H8 rfl (fun hc => ?_) (fun hc => ?_)
  · replace hm := bT hc hm
    refine s_reg [] [6] [(6, [], .bool true)] [] H8 (by kernel_rfl) trivial fun _ wd9 H10 hb => ?_
    clear H8
    replace hS := hS.below hb
    clear hb
    replace hS : SH M X w [Ent.im (tI .u8) gl_strings_asciiSpace (Gh.mk (some ⟨0, 0, none⟩) 256 fun _ _ => .nil)] _ := hS.sel [1] rfl
    refine w_ret ?_
    obtain rfl := someE hm
    exact retR1 H10 rfl rfl ⟨_, rfl, rfl, (hS.sel [] rfl)⟩
  · replace hm := bF hc hm
    refine w_skip ?_
    obtain ⟨y11, hy11, hm⟩ := bindE hm
    refine s_reg [(.tuple ⟨[.int .i64 y11.1, .int .i64 y11.2]⟩)] [0, 1, 5, 7, 8] [(0, [], .string ⟨⟨name_⟩⟩), (1, [], .int .i64 prop), (5, [], .pointer (some ⟨b1, 0, none⟩)), (7, [], .int .i64 y11.1), (8, [], .int .i64 y11.2)] [fun wz => RetB Tryd.prog 9 ⟨[.string ⟨⟨name_⟩⟩]⟩ (.tuple ⟨[.int .i64 y11.1, .int .i64 y11.2]⟩) wz] H8 (by kernel_rfl) ⟨(props_Find_ok m _ _ hy11 _ (s0im s0nil (hS.im 1 rfl))), trivial⟩ fun _ wd12 H13 hb => ?_
    clear H8
    replace hS := hS.below hb
    clear hb
    obtain ⟨y14, hy14, hm⟩ := bindE hm
    refine s_reg [(.tuple ⟨[.int .i64 y14.1, .int .i64 y14.2]⟩)] [0, 1, 5, 7, 8, 9, 10] [(0, [], .string ⟨⟨name_⟩⟩), (1, [], .int .i64 prop), (5, [], .pointer (some ⟨b1, 0, none⟩)), (7, [], .int .i64 y11.1), (8, [], .int .i64 y11.2), (9, [], .int .i64 y14.1), (10, [], .int .i64 y14.2)] [fun wz => RetB Tryd.prog 10 ⟨[.string ⟨⟨name_⟩⟩]⟩ (.tuple ⟨[.int .i64 y14.1, .int .i64 y14.2]⟩) wz] H13 (by kernel_rfl) ⟨((r25_Find_ok m _ _ hy14).b), trivial⟩ fun _ wd15 H16 hb => ?_
    clear H13
    replace hS := hS.below hb
    clear hb
    obtain ⟨y17, hy17, hm⟩ := bindE hm
    refine s_reg [(.tuple ⟨[.bool y17.1, .int .i64 y17.2]⟩)] [0, 1, 5, 7, 8, 9, 10, 11, 12] [(0, [], .string ⟨⟨name_⟩⟩), (1, [], .int .i64 prop), (5, [], .pointer (some ⟨b1, 0, none⟩)), (7, [], .int .i64 y11.1), (8, [], .int .i64 y11.2), (9, [], .int .i64 y14.1), (10, [], .int .i64 y14.2), (11, [], .bool y17.1), (12, [], .int .i64 y17.2)] [fun wz => RetB Tryd.prog 11 ⟨[.string ⟨⟨name_⟩⟩]⟩ (.tuple ⟨[.bool y17.1, .int .i64 y17.2]⟩) wz] H16 (by kernel_rfl) ⟨(props_Inherited_ok m _ _ hy17 _ (s0im s0nil (hS.im 1 rfl))), trivial⟩ fun _ wd18 H19 hb => ?_
    clear H16
    replace hS := hS.below hb
    clear hb
    obtain ⟨y20, hy20, hm⟩ := bindE hm
    refine s_reg [(.tuple ⟨[.bool y20.1, .int .i64 y20.2]⟩)] [0, 1, 5, 7, 8, 9, 10, 11, 12, 13, 14] [(0, [], .string ⟨⟨name_⟩⟩), (1, [], .int .i64 prop), (5, [], .pointer (some ⟨b1, 0, none⟩)), (7, [], .int .i64 y11.1), (8, [], .int .i64 y11.2), (9, [], .int .i64 y14.1), (10, [], .int .i64 y14.2), (11, [], .bool y17.1), (12, [], .int .i64 y17.2), (13, [], .bool y20.1), (14, [], .int .i64 y20.2)] [fun wz => RetB Tryd.prog 12 ⟨[.string ⟨⟨name_⟩⟩]⟩ (.tuple ⟨[.bool y20.1, .int .i64 y20.2]⟩) wz] H19 (by kernel_rfl) ⟨((r25_Inherited_ok m _ _ hy20).b), trivial⟩ fun _ wd21 H22 hb => ?_
    clear H19
    replace hS := hS.below hb
    clear hb
    obtain ⟨y23, hy23, hm⟩ := bindE hm
    refine s_reg [(.agg ⟨[.int .u8 v_.Kind, .string ⟨⟨v_.Word⟩⟩, .int .i64 v_.Num, .int .u8 v_.Color.Red, .int .u8 v_.Color.Green, .int .u8 v_.Color.Blue, .int .u8 v_.Color.Alpha]⟩), (.tuple ⟨[.bool y23.1, .int .i64 y23.2]⟩)] [0, 1, 5, 7, 8, 9, 10, 11, 12, 13, 14, 15, 16] [(0, [], .string ⟨⟨name_⟩⟩), (1, [], .int .i64 prop), (5, [], .pointer (some ⟨b1, 0, none⟩)), (7, [], .int .i64 y11.1), (8, [], .int .i64 y11.2), (9, [], .int .i64 y14.1), (10, [], .int .i64 y14.2), (11, [], .bool y17.1), (12, [], .int .i64 y17.2), (13, [], .bool y20.1), (14, [], .int .i64 y20.2), (15, [], .bool y23.1), (16, [], .int .i64 y23.2)] [fun wz => V.atN b1 0 [.int .u8 v_.Kind, .string ⟨⟨v_.Word⟩⟩, .int .i64 v_.Num, .int .u8 v_.Color.Red, .int .u8 v_.Color.Green, .int .u8 v_.Color.Blue, .int .u8 v_.Color.Alpha] 0 wz, fun wz => RetB Tryd.prog 13 ⟨[.int .i64 prop, .agg ⟨[.int .u8 v_.Kind, .string ⟨⟨v_.Word⟩⟩, .int .i64 v_.Num, .int .u8 v_.Color.Red, .int .u8 v_.Color.Green, .int .u8 v_.Color.Blue, .int .u8 v_.Color.Alpha]⟩]⟩ (.tuple ⟨[.bool y23.1, .int .i64 y23.2]⟩) wz] H22 (by kernel_rfl) ⟨((hS.bk 0 rfl).atD rfl), (props_Has_ok m _ _ _ hy23 _ (s0im s0nil (hS.im 1 rfl))), trivial⟩ fun _ wd24 H25 hb => ?_
    clear H22
    replace hS := hS.below hb
    clear hb
    obtain ⟨y26, hy26, hm⟩ := bindE hm
    refine s_reg [(.agg ⟨[.int .u8 v_.Kind, .string ⟨⟨v_.Word⟩⟩, .int .i64 v_.Num, .int .u8 v_.Color.Red, .int .u8 v_.Color.Green, .int .u8 v_.Color.Blue, .int .u8 v_.Color.Alpha]⟩), (.tuple ⟨[.bool y26.1, .int .i64 y26.2]⟩)] [0, 5, 7, 8, 9, 10, 11, 12, 13, 14, 15, 16, 17, 18] [(0, [], .string ⟨⟨name_⟩⟩), (5, [], .pointer (some ⟨b1, 0, none⟩)), (7, [], .int .i64 y11.1), (8, [], .int .i64 y11.2), (9, [], .int .i64 y14.1), (10, [], .int .i64 y14.2), (11, [], .bool y17.1), (12, [], .int .i64 y17.2), (13, [], .bool y20.1), (14, [], .int .i64 y20.2), (15, [], .bool y23.1), (16, [], .int .i64 y23.2), (17, [], .bool y26.1), (18, [], .int .i64 y26.2)] [fun wz => V.atN b1 0 [.int .u8 v_.Kind, .string ⟨⟨v_.Word⟩⟩, .int .i64 v_.Num, .int .u8 v_.Color.Red, .int .u8 v_.Color.Green, .int .u8 v_.Color.Blue, .int .u8 v_.Color.Alpha] 0 wz, fun wz => RetB Tryd.prog 14 ⟨[.int .i64 prop, .agg ⟨[.int .u8 v_.Kind, .string ⟨⟨v_.Word⟩⟩, .int .i64 v_.Num, .int .u8 v_.Color.Red, .int .u8 v_.Color.Green, .int .u8 v_.Color.Blue, .int .u8 v_.Color.Alpha]⟩]⟩ (.tuple ⟨[.bool y26.1, .int .i64 y26.2]⟩) wz] H25 (by kernel_rfl) ⟨((hS.bk 0 rfl).atD rfl), ((r25_Has_ok m _ _ _ hy26).b), trivial⟩ fun _ wd27 H28 hb => ?_
    clear H25
    replace hS := hS.below hb
    clear hb
    obtain ⟨x29, hx29, hm⟩ := letE hm
    obtain ⟨x30, hx30, hm⟩ := letE hm
    obtain ⟨x31, hx31, hm⟩ := letE hm
    obtain ⟨y32, hy32, hm⟩ := bindE hm
    obtain ⟨y33, hy33, hm⟩ := bindE hm
    obtain ⟨y34, hy34, hm⟩ := bindE hm
    obtain ⟨y35, hy35, hm⟩ := bindE hm
    obtain ⟨x36, hx36, hm⟩ := letE hm
    refine s_draw [(.bool y32), (.bool y33), (.agg ⟨[.int .u8 v_.Kind, .string ⟨⟨v_.Word⟩⟩, .int .i64 v_.Num, .int .u8 v_.Color.Red, .int .u8 v_.Color.Green, .int .u8 v_.Color.Blue, .int .u8 v_.Color.Alpha]⟩), (.int .i64 y34), (.agg ⟨[.int .u8 v_.Kind, .string ⟨⟨v_.Word⟩⟩, .int .i64 v_.Num, .int .u8 v_.Color.Red, .int .u8 v_.Color.Green, .int .u8 v_.Color.Blue, .int .u8 v_.Color.Alpha]⟩), (.int .i64 y35)] [6] [(6, [], .bool x36)] [fun wz => (x31 = true ∧ True → RetB Tryd.prog 15 ⟨[.string ⟨⟨name_⟩⟩]⟩ (.bool y32) wz), fun wz => (x31 = true ∧ True → RetB Tryd.prog 16 ⟨[.string ⟨⟨name_⟩⟩]⟩ (.bool y33) wz), fun wz => ((cond x31 (y32 == y33) false) = true ∧ True → V.atN b1 0 [.int .u8 v_.Kind, .string ⟨⟨v_.Word⟩⟩, .int .i64 v_.Num, .int .u8 v_.Color.Red, .int .u8 v_.Color.Green, .int .u8 v_.Color.Blue, .int .u8 v_.Color.Alpha] 0 wz), fun wz => ((cond x31 (y32 == y33) false) = true ∧ True → RetB Tryd.prog 17 ⟨[.agg ⟨[.int .u8 v_.Kind, .string ⟨⟨v_.Word⟩⟩, .int .i64 v_.Num, .int .u8 v_.Color.Red, .int .u8 v_.Color.Green, .int .u8 v_.Color.Blue, .int .u8 v_.Color.Alpha]⟩]⟩ (.int .i64 y34) wz), fun wz => ((cond x31 (y32 == y33) false) = true ∧ True → V.atN b1 0 [.int .u8 v_.Kind, .string ⟨⟨v_.Word⟩⟩, .int .i64 v_.Num, .int .u8 v_.Color.Red, .int .u8 v_.Color.Green, .int .u8 v_.Color.Blue, .int .u8 v_.Color.Alpha] 0 wz), fun wz => ((cond x31 (y32 == y33) false) = true ∧ True → RetB Tryd.prog 18 ⟨[.agg ⟨[.int .u8 v_.Kind, .string ⟨⟨v_.Word⟩⟩, .int .i64 v_.Num, .int .u8 v_.Color.Red, .int .u8 v_.Color.Green, .int .u8 v_.Color.Blue, .int .u8 v_.Color.Alpha]⟩]⟩ (.int .i64 y35) wz)] H28 (by kernel_rfl) (by kernel_rfl) (by subst hx29 hx30 hx31 hx36; kernel_rfl) ⟨fun hg => (props_Custom_ok _ _ (bT (hg.1) hy32)).b, fun hg => (r25_Custom_ok _ _ (bT (hg.1) hy33)).b, fun hg => (hS.bk 0 rfl).atD rfl, fun hg => (props_Check_ok _ _ (bT (hg.1) hy34)).b, fun hg => (hS.bk 0 rfl).atD rfl, fun hg => (r25_Check_ok _ _ (bT (hg.1) hy35)).b, trivial⟩ fun _ wd37 H38 hb => ?_
    clear H28
    replace hS := hS.below hb
    clear hb
    replace hS : SH M X w [Ent.im (tI .u8) gl_strings_asciiSpace (Gh.mk (some ⟨0, 0, none⟩) 256 fun _ _ => .nil)] _ := hS.sel [1] rfl
    refine w_ret ?_
    obtain rfl := someE hm
    exact retR1 H38 rfl rfl ⟨_, rfl, rfl, (hS.sel [] rfl)⟩
theorem law25_PropsTells_ok  (m : Nat) (name_ : Str) (prop : Int) (v_ : TVal) (r : Bool) (hm : law25_PropsTells m name_ prop v_ = some r) (w : World) (hL : S0 F0 [Ent.im (tI .u8) gl_strings_asciiSpace (Gh.mk (some ⟨0, 0, none⟩) 256 fun _ _ => .nil)] w ∧ fpl [Ent.im (tI .u8) gl_strings_asciiSpace (Gh.mk (some ⟨0, 0, none⟩) 256 fun _ _ => .nil)] = []) : RetB Tryd.prog 3 ⟨[.string ⟨⟨name_⟩⟩, .int .i64 prop, .agg ⟨[.int .u8 v_.Kind, .string ⟨⟨v_.Word⟩⟩, .int .i64 v_.Num, .int .u8 v_.Color.Red, .int .u8 v_.Color.Green, .int .u8 v_.Color.Blue, .int .u8 v_.Color.Alpha]⟩]⟩ (.bool r) w := retB_of hL (Tryd.call3 _) (fun w' h => law25_PropsTells_w F0 m   name_ prop v_ r hm w' h)

def law25_px (n_ : Int) : TVal :=
  (TVal.mk 2 [] n_ (TColor.mk 0 0 0 0))
theorem law25_px_w  (M : Av) (n_ : Int) (r : TVal) (hm : law25_px n_ = r) (w : World) (hS : S0 M [] w) : Calls Tryd.prog 19 ⟨[.int .i64 n_]⟩ w (fun e w' => ∃ v, e = .returned v ∧ v = .agg ⟨[.int .u8 r.Kind, .string ⟨⟨r.Word⟩⟩, .int .i64 r.Num, .int .u8 r.Color.Red, .int .u8 r.Color.Green, .int .u8 r.Color.Blue, .int .u8 r.Color.Alpha]⟩ ∧ SH M (fpl []) w [] w') := by
  rw [law25_px] at hm
  have hS0 : SH M (fpl []) w [] w := hS
  generalize hX : fpl [] = X at hS0 ⊢
  clear hS hX
  have hS := hS0
  clear hS0
  refine calls_entryP Tryd.func19 rfl Tryd.ntmps19 rfl fun _ H => ?_
  refine w_seq ?_
  refine wl_start ?_
  have hd : S0 (AvL M []) [] _ := hS.hand [] [] rfl rfl
  refine m_stp [2, 0] [(0, [], .int .i64 n_)] H rfl rfl rfl rfl (o_alloc [.int .u8 0, .string ⟨⟨[]⟩⟩, .int .i64 0, .int .u8 0, .int .u8 0, .int .u8 0, .int .u8 0] (z := .agg ⟨[.int .u8 0, .string ⟨⟨[]⟩⟩, .int .i64 0, .int .u8 0, .int .u8 0, .int .u8 0, .int .u8 0]⟩) hd (by kernel_rfl) rfl) (fun _ => rfl) fun _ wd2 v H3 hq => ?_
  clear H hd
  obtain ⟨b1, rfl, hq⟩ := hq
  replace hS : SH M X w [Ent.blk b1 [.int .u8 0, .string ⟨⟨[]⟩⟩, .int .i64 0, .int .u8 0, .int .u8 0, .int .u8 0, .int .u8 0]] _ := hS.join [] [] rfl rfl hq
  clear hq
  refine wl_end rfl ?_
  refine w_seq ?_
  refine wl_start ?_
  refine wl_batch 0 2 [] [2, 4] [(2, [], .pointer (some ⟨b1, 0, none⟩)), (4, [], .agg ⟨[.int .u8 2, .string ⟨⟨[]⟩⟩, .int .i64 n_, .int .u8 0, .int .u8 0, .int .u8 0, .int .u8 0]⟩)] [] H3 (by decide) (by kernel_rfl) trivial fun _ wd4 H5 hb => ?_
  clear H3
  replace hS := hS.below hb
  clear hb
  have hd : S0 (AvL M []) [Ent.blk b1 [.int .u8 0, .string ⟨⟨[]⟩⟩, .int .i64 0, .int .u8 0, .int .u8 0, .int .u8 0, .int .u8 0]] _ := hS.hand [0] [] rfl rfl
  refine m_stp0 [2] [(2, [], .pointer (some ⟨b1, 0, none⟩))] H5 rfl rfl rfl (o_store [.int .u8 2, .string ⟨⟨[]⟩⟩, .int .i64 n_, .int .u8 0, .int .u8 0, .int .u8 0, .int .u8 0] H5 hd rfl rfl (by kernel_rfl) rfl rfl rfl) rfl fun _ wd6 H7 hq => ?_
  clear H5 hd
  obtain ⟨_, hq⟩ := hq
  replace hS : SH M X w [Ent.blk b1 [.int .u8 2, .string ⟨⟨[]⟩⟩, .int .i64 n_, .int .u8 0, .int .u8 0, .int .u8 0, .int .u8 0]] _ := hS.join [0] [] rfl rfl hq
  clear hq
  refine wl_end rfl ?_
  refine w_ret ?_
  subst hm
  exact retR1 H7 rfl (oneRes_agg rfl (hS.bk 0 rfl) Tryd.underlying25 rfl (by kernel_rfl)) ⟨_, rfl, rfl, (hS.sel [] rfl)⟩
theorem law25_px_ok  (n_ : Int) : Ret Tryd.prog 19 ⟨[.int .i64 n_]⟩ (.agg ⟨[.int .u8 (law25_px n_).Kind, .string ⟨⟨(law25_px n_).Word⟩⟩, .int .i64 (law25_px n_).Num, .int .u8 (law25_px n_).Color.Red, .int .u8 (law25_px n_).Color.Green, .int .u8 (law25_px n_).Color.Blue, .int .u8 (law25_px n_).Color.Alpha]⟩) := retP_of (Tryd.call19 _) (fun w h => law25_px_w F0   n_ _ rfl w h)

def law25_has (m : Nat) (prop : Int) (v_ : TVal) : Option (Bool) :=
  Option.bind (props_Has m prop v_) fun y6 =>
  some (cond y6.1 (y6.2 == 0) false)
theorem law25_has_w  (M : Av) (m : Nat) (prop : Int) (v_ : TVal) (r : Bool) (hm : law25_has m prop v_ = some r) (w : World) (hS : S0 M [Ent.im (tI .u8) gl_strings_asciiSpace (Gh.mk (some ⟨0, 0, none⟩) 256 fun _ _ => .nil)] w) : Calls Tryd.prog 24 ⟨[.int .i64 prop, .agg ⟨[.int .u8 v_.Kind, .string ⟨⟨v_.Word⟩⟩, .int .i64 v_.Num, .int .u8 v_.Color.Red, .int .u8 v_.Color.Green, .int .u8 v_.Color.Blue, .int .u8 v_.Color.Alpha]⟩]⟩ w (fun e w' => ∃ v, e = .returned v ∧ v = .bool r ∧ SH M (fpl [Ent.im (tI .u8) gl_strings_asciiSpace (Gh.mk (some ⟨0, 0, none⟩) 256 fun _ _ => .nil)]) w [] w') := by
  rw [law25_has] at hm
  have hS0 : SH M (fpl [Ent.im (tI .u8) gl_strings_asciiSpace (Gh.mk (some ⟨0, 0, none⟩) 256 fun _ _ => .nil)]) w [Ent.im (tI .u8) gl_strings_asciiSpace (Gh.mk (some ⟨0, 0, none⟩) 256 fun _ _ => .nil)] w := hS
  generalize hX : fpl [Ent.im (tI .u8) gl_strings_asciiSpace (Gh.mk (some ⟨0, 0, none⟩) 256 fun _ _ => .nil)] = X at hS0 ⊢
  clear hS hX
  have hS := hS0
  clear hS0
  refine calls_entryP Tryd.func24 rfl Tryd.ntmps24 rfl fun _ H => ?_
  refine w_seq ?_
  refine wl_start ?_
  have hd : S0 (AvL M [Ent.im (tI .u8) gl_strings_asciiSpace (Gh.mk (some ⟨0, 0, none⟩) 256 fun _ _ => .nil)]) [] _ := hS.hand [] [0] rfl rfl
  refine m_stp [3, 0] [(0, [], .int .i64 prop)] H rfl rfl rfl rfl (o_box [.int .u8 v_.Kind, .string ⟨⟨v_.Word⟩⟩, .int .i64 v_.Num, .int .u8 v_.Color.Red, .int .u8 v_.Color.Green, .int .u8 v_.Color.Blue, .int .u8 v_.Color.Alpha] H hd rfl rfl) (fun _ => rfl) fun _ wd2 v H3 hq => ?_
  clear H hd
  obtain ⟨b1, rfl, hq⟩ := hq
  replace hS : SH M X w [Ent.blk b1 [.int .u8 v_.Kind, .string ⟨⟨v_.Word⟩⟩, .int .i64 v_.Num, .int .u8 v_.Color.Red, .int .u8 v_.Color.Green, .int .u8 v_.Color.Blue, .int .u8 v_.Color.Alpha], Ent.im (tI .u8) gl_strings_asciiSpace (Gh.mk (some ⟨0, 0, none⟩) 256 fun _ _ => .nil)] _ := hS.join [] [0] rfl rfl hq
  clear hq
  refine wl_batch 1 2 [] [0, 3] [(0, [], .int .i64 prop), (3, [], .pointer (some ⟨b1, 0, none⟩))] [] H3 (by decide) (by kernel_rfl) trivial fun _ wd4 H5 hb => ?_
  clear H3
  replace hS := hS.below hb
  clear hb
  refine wl_end rfl ?_
  obtain ⟨y6, hy6, hm⟩ := bindE hm
  refine s_reg [(.agg ⟨[.int .u8 v_.Kind, .string ⟨⟨v_.Word⟩⟩, .int .i64 v_.Num, .int .u8 v_.Color.Red, .int .u8 v_.Color.Green, .int .u8 v_.Color.Blue, .int .u8 v_.Color.Alpha]⟩), (.tuple ⟨[.bool y6.1, .int .i64 y6.2]⟩)] [5, 6] [(5, [], .bool y6.1), (6, [], .int .i64 y6.2)] [fun wz => V.atN b1 0 [.int .u8 v_.Kind, .string ⟨⟨v_.Word⟩⟩, .int .i64 v_.Num, .int .u8 v_.Color.Red, .int .u8 v_.Color.Green, .int .u8 v_.Color.Blue, .int .u8 v_.Color.Alpha] 0 wz, fun wz => RetB Tryd.prog 13 ⟨[.int .i64 prop, .agg ⟨[.int .u8 v_.Kind, .string ⟨⟨v_.Word⟩⟩, .int .i64 v_.Num, .int .u8 v_.Color.Red, .int .u8 v_.Color.Green, .int .u8 v_.Color.Blue, .int .u8 v_.Color.Alpha]⟩]⟩ (.tuple ⟨[.bool y6.1, .int .i64 y6.2]⟩) wz] H5 (by kernel_rfl) ⟨((hS.bk 0 rfl).atD rfl), (props_Has_ok m _ _ _ hy6 _ (s0im s0nil (hS.im 1 rfl))), trivial⟩ fun _ wd7 H8 hb => ?_
  clear H5
  replace hS := hS.below hb
  clear hb
  replace hS : SH M X w [Ent.im (tI .u8) gl_strings_asciiSpace (Gh.mk (some ⟨0, 0, none⟩) 256 fun _ _ => .nil)] _ := hS.sel [1] rfl
  refine s_reg [] [4] [(4, [], .bool (cond y6.1 (y6.2 == 0) false))] [] H8 (by kernel_rfl) trivial fun _ wd9 H10 hb => ?_
  clear H8
  replace hS := hS.below hb
  clear hb
  refine w_ret ?_
  obtain rfl := someE hm
  exact retR1 H10 rfl rfl ⟨_, rfl, rfl, (hS.sel [] rfl)⟩
theorem law25_has_ok  (m : Nat) (prop : Int) (v_ : TVal) (r : Bool) (hm : law25_has m prop v_ = some r) (w : World) (hL : S0 F0 [Ent.im (tI .u8) gl_strings_asciiSpace (Gh.mk (some ⟨0, 0, none⟩) 256 fun _ _ => .nil)] w ∧ fpl [Ent.im (tI .u8) gl_strings_asciiSpace (Gh.mk (some ⟨0, 0, none⟩) 256 fun _ _ => .nil)] = []) : RetB Tryd.prog 24 ⟨[.int .i64 prop, .agg ⟨[.int .u8 v_.Kind, .string ⟨⟨v_.Word⟩⟩, .int .i64 v_.Num, .int .u8 v_.Color.Red, .int .u8 v_.Color.Green, .int .u8 v_.Color.Blue, .int .u8 v_.Color.Alpha]⟩]⟩ (.bool r) w := retB_of hL (Tryd.call24 _) (fun w' h => law25_has_w F0 m   prop v_ r hm w' h)

def law25_alive (m : Nat)  : Option (Bool) :=
  Option.bind (props_Find m [102, 111, 110, 116, 45, 115, 105, 122, 101]) fun y3 =>
  Option.bind (props_Inherited m [102, 111, 110, 116, 45, 115, 105, 122, 101]) fun y6 =>
  Option.bind (props_Find m [109, 97, 114, 103, 105, 110]) fun y9 =>
  lt (cond (cond (y3.2 == 0) (y3.1 == 12) false) (y6.2 == 0) false) fun x12 =>
  lt (cond (cond x12 y6.1 false) (y9.2 == 6) false) fun x13 =>
  Option.bind (cond x13 (props_Custom [45, 45, 97]) (some default)) fun y14 =>
  Option.bind (cond (cond x13 y14 false) (props_Custom [45, 45]) (some default)) fun y15 =>
  Option.bind (cond (cond (cond x13 y14 false) (!y15) false) (props_Custom [45, 97]) (some default)) fun y16 =>
  lt (cond (cond (cond x13 y14 false) (!y15) false) (!y16) false) fun x17 =>
  Option.bind (cond x17 (law25_has m 6 (TVal.mk 1 [97, 117, 116, 111] 0 (TColor.mk 0 0 0 0))) (some default)) fun y18 =>
  lt (law25_px 0) fun y19 =>
  Option.bind (cond (cond x17 y18 false) (law25_has m 6 y19) (some default)) fun y20 =>
  lt (law25_px (-1)) fun y21 =>
  Option.bind (cond (cond (cond x17 y18 false) y20 false) (law25_has m 6 y21) (some default)) fun y22 =>
  lt (cond (cond (cond x17 y18 false) y20 false) (!y22) false) fun x23 =>
  Option.bind (cond x23 (law25_has m 6 (TVal.mk 5 [] 0 (TColor.mk 0 0 0 0))) (some default)) fun y24 =>
  some (cond x23 (!y24) false)
theorem law25_alive_w  (M : Av) (m : Nat)  (r : Bool) (hm : law25_alive m = some r) (w : World) (hS : S0 M [Ent.im (tI .u8) gl_strings_asciiSpace (Gh.mk (some ⟨0, 0, none⟩) 256 fun _ _ => .nil)] w) : Calls Tryd.prog 20 ⟨[]⟩ w (fun e w' => ∃ v, e = .returned v ∧ v = .bool r ∧ SH M (fpl [Ent.im (tI .u8) gl_strings_asciiSpace (Gh.mk (some ⟨0, 0, none⟩) 256 fun _ _ => .nil)]) w [] w') := by
  rw [law25_alive] at hm
  have hS0 : SH M (fpl [Ent.im (tI .u8) gl_strings_asciiSpace (Gh.mk (some ⟨0, 0, none⟩) 256 fun _ _ => .nil)]) w [Ent.im (tI .u8) gl_strings_asciiSpace (Gh.mk (some ⟨0, 0, none⟩) 256 fun _ _ => .nil)] w := hS
  generalize hX : fpl [Ent.im (tI .u8) gl_strings_asciiSpace (Gh.mk (some ⟨0, 0, none⟩) 256 fun _ _ => .nil)] = X at hS0 ⊢
  clear hS hX
  have hS := hS0
  clear hS0
  refine calls_entryP Tryd.func20 rfl Tryd.ntmps20 rfl fun _ H => ?_
  refine s_reg [] [] [] [] H (by kernel_rfl) trivial fun _ wd1 H2 hb => ?_
  clear H
  replace hS := hS.below hb
  clear hb
  obtain ⟨y3, hy3, hm⟩ := bindE hm
  refine s_reg [(.tuple ⟨[.int .i64 y3.1, .int .i64 y3.2]⟩)] [1, 2] [(1, [], .int .i64 y3.1), (2, [], .int .i64 y3.2)] [fun wz => RetB Tryd.prog 9 ⟨[.string ⟨⟨[102, 111, 110, 116, 45, 115, 105, 122, 101]⟩⟩]⟩ (.tuple ⟨[.int .i64 y3.1, .int .i64 y3.2]⟩) wz] H2 (by kernel_rfl) ⟨(props_Find_ok m _ _ hy3 _ (s0im s0nil (hS.im 0 rfl))), trivial⟩ fun _ wd4 H5 hb => ?_
  clear H2
  replace hS := hS.below hb
  clear hb
  obtain ⟨y6, hy6, hm⟩ := bindE hm
  refine s_reg [(.tuple ⟨[.bool y6.1, .int .i64 y6.2]⟩)] [1, 2, 3, 4] [(1, [], .int .i64 y3.1), (2, [], .int .i64 y3.2), (3, [], .bool y6.1), (4, [], .int .i64 y6.2)] [fun wz => RetB Tryd.prog 11 ⟨[.string ⟨⟨[102, 111, 110, 116, 45, 115, 105, 122, 101]⟩⟩]⟩ (.tuple ⟨[.bool y6.1, .int .i64 y6.2]⟩) wz] H5 (by kernel_rfl) ⟨(props_Inherited_ok m _ _ hy6 _ (s0im s0nil (hS.im 0 rfl))), trivial⟩ fun _ wd7 H8 hb => ?_
  clear H5
  replace hS := hS.below hb
  clear hb
  obtain ⟨y9, hy9, hm⟩ := bindE hm
  refine s_reg [(.tuple ⟨[.int .i64 y9.1, .int .i64 y9.2]⟩)] [1, 2, 3, 4, 6] [(1, [], .int .i64 y3.1), (2, [], .int .i64 y3.2), (3, [], .bool y6.1), (4, [], .int .i64 y6.2), (6, [], .int .i64 y9.2)] [fun wz => RetB Tryd.prog 9 ⟨[.string ⟨⟨[109, 97, 114, 103, 105, 110]⟩⟩]⟩ (.tuple ⟨[.int .i64 y9.1, .int .i64 y9.2]⟩) wz] H8 (by kernel_rfl) ⟨(props_Find_ok m _ _ hy9 _ (s0im s0nil (hS.im 0 rfl))), trivial⟩ fun _ wd10 H11 hb => ?_
  clear H8
  replace hS := hS.below hb
  clear hb
  obtain ⟨x12, hx12, hm⟩ := letE hm
  obtain ⟨x13, hx13, hm⟩ := letE hm
  obtain ⟨y14, hy14, hm⟩ := bindE hm
  obtain ⟨y15, hy15, hm⟩ := bindE hm
  obtain ⟨y16, hy16, hm⟩ := bindE hm
  obtain ⟨x17, hx17, hm⟩ := letE hm
  obtain ⟨y18, hy18, hm⟩ := bindE hm
  obtain ⟨y19, hy19, hm⟩ := letE hm
  obtain ⟨y20, hy20, hm⟩ := bindE hm
  obtain ⟨y21, hy21, hm⟩ := letE hm
  obtain ⟨y22, hy22, hm⟩ := bindE hm
  obtain ⟨x23, hx23, hm⟩ := letE hm
  obtain ⟨y24, hy24, hm⟩ := bindE hm
  refine s_reg [(.bool y14), (.bool y15), (.bool y16), (.bool y18), (.agg ⟨[.int .u8 y19.Kind, .string ⟨⟨y19.Word⟩⟩, .int .i64 y19.Num, .int .u8 y19.Color.Red, .int .u8 y19.Color.Green, .int .u8 y19.Color.Blue, .int .u8 y19.Color.Alpha]⟩), (.bool y20), (.agg ⟨[.int .u8 y21.Kind, .string ⟨⟨y21.Word⟩⟩, .int .i64 y21.Num, .int .u8 y21.Color.Red, .int .u8 y21.Color.Green, .int .u8 y21.Color.Blue, .int .u8 y21.Color.Alpha]⟩), (.bool y22), (.bool y24)] [0] [(0, [], .bool (cond x23 (!y24) false))] [fun wz => (x13 = true ∧ True → RetB Tryd.prog 15 ⟨[.string ⟨⟨[45, 45, 97]⟩⟩]⟩ (.bool y14) wz), fun wz => ((cond x13 y14 false) = true ∧ True → RetB Tryd.prog 15 ⟨[.string ⟨⟨[45, 45]⟩⟩]⟩ (.bool y15) wz), fun wz => ((cond (cond x13 y14 false) (!y15) false) = true ∧ True → RetB Tryd.prog 15 ⟨[.string ⟨⟨[45, 97]⟩⟩]⟩ (.bool y16) wz), fun wz => (x17 = true ∧ True → RetB Tryd.prog 24 ⟨[.int .i64 6, .agg ⟨[.int .u8 1, .string ⟨⟨[97, 117, 116, 111]⟩⟩, .int .i64 0, .int .u8 0, .int .u8 0, .int .u8 0, .int .u8 0]⟩]⟩ (.bool y18) wz), fun wz => ((cond x17 y18 false) = true ∧ True → RetB Tryd.prog 19 ⟨[.int .i64 0]⟩ (.agg ⟨[.int .u8 y19.Kind, .string ⟨⟨y19.Word⟩⟩, .int .i64 y19.Num, .int .u8 y19.Color.Red, .int .u8 y19.Color.Green, .int .u8 y19.Color.Blue, .int .u8 y19.Color.Alpha]⟩) wz), fun wz => ((cond x17 y18 false) = true ∧ True → RetB Tryd.prog 24 ⟨[.int .i64 6, .agg ⟨[.int .u8 y19.Kind, .string ⟨⟨y19.Word⟩⟩, .int .i64 y19.Num, .int .u8 y19.Color.Red, .int .u8 y19.Color.Green, .int .u8 y19.Color.Blue, .int .u8 y19.Color.Alpha]⟩]⟩ (.bool y20) wz), fun wz => ((cond (cond x17 y18 false) y20 false) = true ∧ True → RetB Tryd.prog 19 ⟨[.int .i64 (-1)]⟩ (.agg ⟨[.int .u8 y21.Kind, .string ⟨⟨y21.Word⟩⟩, .int .i64 y21.Num, .int .u8 y21.Color.Red, .int .u8 y21.Color.Green, .int .u8 y21.Color.Blue, .int .u8 y21.Color.Alpha]⟩) wz), fun wz => ((cond (cond x17 y18 false) y20 false) = true ∧ True → RetB Tryd.prog 24 ⟨[.int .i64 6, .agg ⟨[.int .u8 y21.Kind, .string ⟨⟨y21.Word⟩⟩, .int .i64 y21.Num, .int .u8 y21.Color.Red, .int .u8 y21.Color.Green, .int .u8 y21.Color.Blue, .int .u8 y21.Color.Alpha]⟩]⟩ (.bool y22) wz), fun wz => (x23 = true ∧ True → RetB Tryd.prog 24 ⟨[.int .i64 6, .agg ⟨[.int .u8 5, .string ⟨⟨[]⟩⟩, .int .i64 0, .int .u8 0, .int .u8 0, .int .u8 0, .int .u8 0]⟩]⟩ (.bool y24) wz)] H11 (by subst hx12 hx13 hx17 hy19 hy21 hx23; kernel_rfl) ⟨fun hg => (props_Custom_ok _ _ (bT (hg.1) hy14)).b, fun hg => (props_Custom_ok _ _ (bT (hg.1) hy15)).b, fun hg => (props_Custom_ok _ _ (bT (hg.1) hy16)).b, fun hg => law25_has_ok m _ _ _ (bT (hg.1) hy18) _ (s0im s0nil (hS.im 0 rfl)), fun hg => (by rw [hy19]; exact (law25_px_ok _).b), fun hg => law25_has_ok m _ _ _ (bT (hg.1) hy20) _ (s0im s0nil (hS.im 0 rfl)), fun hg => (by rw [hy21]; exact (law25_px_ok _).b), fun hg => law25_has_ok m _ _ _ (bT (hg.1) hy22) _ (s0im s0nil (hS.im 0 rfl)), fun hg => law25_has_ok m _ _ _ (bT (hg.1) hy24) _ (s0im s0nil (hS.im 0 rfl)), trivial⟩ fun _ wd25 H26 hb => ?_
  clear H11
  replace hS := hS.below hb
  clear hb
  refine w_ret ?_
  obtain rfl := someE hm
  exact retR1 H26 rfl rfl ⟨_, rfl, rfl, (hS.sel [] rfl)⟩
theorem law25_alive_ok  (m : Nat)  (r : Bool) (hm : law25_alive m = some r) (w : World) (hL : S0 F0 [Ent.im (tI .u8) gl_strings_asciiSpace (Gh.mk (some ⟨0, 0, none⟩) 256 fun _ _ => .nil)] w ∧ fpl [Ent.im (tI .u8) gl_strings_asciiSpace (Gh.mk (some ⟨0, 0, none⟩) 256 fun _ _ => .nil)] = []) : RetB Tryd.prog 20 ⟨[]⟩ (.bool r) w := retB_of hL (Tryd.call20 _) (fun w' h => law25_alive_w F0 m    r hm w' h)

def r25_SameProp_L1 (m : Nat) (a_ : TProp) (b_ : TProp) : Nat → Int → Option (Sum (Bool) (Unit))
  | 0, _ => none
  | kk + 1, v20 =>
    cond (decide (v20 < (ln a_.Words))) (
    chk (0 ≤ v20 ∧ v20 < ln a_.Words) <|
    chk (0 ≤ v20 ∧ v20 < ln b_.Words) <|
    lt (!((gi a_.Words v20) == (gi b_.Words v20))) fun x25 =>
    cond x25 (
    some (.inl false)) (
    r25_SameProp_L1 m a_ b_ kk (w64 (v20 + 1)))) (
    some (.inr ()))
def r25_SameProp (m : Nat) (a_ : TProp) (b_ : TProp) : Option (Bool) :=
  lt (cond (!(a_.Name == b_.Name)) true (!(a_.Inherited == b_.Inherited))) fun x9 =>
  lt (cond x9 true (!((a_.Initial.Kind == b_.Initial.Kind) && ((a_.Initial.Word == b_.Initial.Word) && ((a_.Initial.Num == b_.Initial.Num) && (((a_.Initial.Color.Red == b_.Initial.Color.Red) && ((a_.Initial.Color.Green == b_.Initial.Color.Green) && ((a_.Initial.Color.Blue == b_.Initial.Color.Blue) && ((a_.Initial.Color.Alpha == b_.Initial.Color.Alpha) && true)))) && true)))))) fun x10 =>
  lt (cond (cond x10 true (!(a_.Least == b_.Least))) true ((ln a_.Words) != (ln b_.Words))) fun x11 =>
  lt (cond x11 true (!((toB a_.Kinds) == (toB b_.Kinds)))) fun x12 =>
  cond x12 (
  some false) (
  Option.bind (
  r25_SameProp_L1 m a_ b_ m 0) fun (z17 : Sum (Bool) (Unit)) => sumK z17 fun s_z17 =>
  some true)
theorem r25_SameProp_w {g_a__0 : Gh} {g_a__1 : Gh} {g_b__0 : Gh} {g_b__1 : Gh} (M : Av) (m : Nat) (a_ : TProp) (b_ : TProp) (r : Bool) (hm : r25_SameProp m a_ b_ = some r) (w : World) (hS : S0 M [Ent.im tS a_.Words g_a__0, Ent.im (tI .u8) a_.Kinds g_a__1, Ent.im tS b_.Words g_b__0, Ent.im (tI .u8) b_.Kinds g_b__1] w) : Calls Tryd.prog 30 ⟨[.agg ⟨[.string ⟨⟨a_.Name⟩⟩, .bool a_.Inherited, .int .u8 a_.Initial.Kind, .string ⟨⟨a_.Initial.Word⟩⟩, .int .i64 a_.Initial.Num, .int .u8 a_.Initial.Color.Red, .int .u8 a_.Initial.Color.Green, .int .u8 a_.Initial.Color.Blue, .int .u8 a_.Initial.Color.Alpha, .slice g_a__0.a a_.Words.length g_a__0.c, .slice g_a__1.a a_.Kinds.length g_a__1.c, .bool a_.Least]⟩, .agg ⟨[.string ⟨⟨b_.Name⟩⟩, .bool b_.Inherited, .int .u8 b_.Initial.Kind, .string ⟨⟨b_.Initial.Word⟩⟩, .int .i64 b_.Initial.Num, .int .u8 b_.Initial.Color.Red, .int .u8 b_.Initial.Color.Green, .int .u8 b_.Initial.Color.Blue, .int .u8 b_.Initial.Color.Alpha, .slice g_b__0.a b_.Words.length g_b__0.c, .slice g_b__1.a b_.Kinds.length g_b__1.c, .bool b_.Least]⟩]⟩ w (fun e w' => ∃ v, e = .returned v ∧ v = .bool r ∧ SH M (fpl [Ent.im tS a_.Words g_a__0, Ent.im (tI .u8) a_.Kinds g_a__1, Ent.im tS b_.Words g_b__0, Ent.im (tI .u8) b_.Kinds g_b__1]) w [] w') := by
  rw [r25_SameProp] at hm
  have hS0 : SH M (fpl [Ent.im tS a_.Words g_a__0, Ent.im (tI .u8) a_.Kinds g_a__1, Ent.im tS b_.Words g_b__0, Ent.im (tI .u8) b_.Kinds g_b__1]) w [Ent.im tS a_.Words g_a__0, Ent.im (tI .u8) a_.Kinds g_a__1, Ent.im tS b_.Words g_b__0, Ent.im (tI .u8) b_.Kinds g_b__1] w := hS
  generalize hX : fpl [Ent.im tS a_.Words g_a__0, Ent.im (tI .u8) a_.Kinds g_a__1, Ent.im tS b_.Words g_b__0, Ent.im (tI .u8) b_.Kinds g_b__1] = X at hS0 ⊢
  clear hS hX
  have hS := hS0
  clear hS0
  refine calls_entryP Tryd.func30 rfl Tryd.ntmps30 rfl fun _ H => ?_
  refine w_seq ?_
  refine wl_start ?_
  have hd : S0 (AvL M [Ent.im tS a_.Words g_a__0, Ent.im (tI .u8) a_.Kinds g_a__1, Ent.im tS b_.Words g_b__0, Ent.im (tI .u8) b_.Kinds g_b__1]) [] _ := hS.hand [] [0, 1, 2, 3] rfl rfl
  refine m_stp [2, 1] [(1, [], .agg ⟨[.string ⟨⟨b_.Name⟩⟩, .bool b_.Inherited, .int .u8 b_.Initial.Kind, .string ⟨⟨b_.Initial.Word⟩⟩, .int .i64 b_.Initial.Num, .int .u8 b_.Initial.Color.Red, .int .u8 b_.Initial.Color.Green, .int .u8 b_.Initial.Color.Blue, .int .u8 b_.Initial.Color.Alpha, .slice g_b__0.a b_.Words.length g_b__0.c, .slice g_b__1.a b_.Kinds.length g_b__1.c, .bool b_.Least]⟩)] H rfl rfl rfl rfl (o_box [.string ⟨⟨a_.Name⟩⟩, .bool a_.Inherited, .int .u8 a_.Initial.Kind, .string ⟨⟨a_.Initial.Word⟩⟩, .int .i64 a_.Initial.Num, .int .u8 a_.Initial.Color.Red, .int .u8 a_.Initial.Color.Green, .int .u8 a_.Initial.Color.Blue, .int .u8 a_.Initial.Color.Alpha, .slice g_a__0.a a_.Words.length g_a__0.c, .slice g_a__1.a a_.Kinds.length g_a__1.c, .bool a_.Least] H hd rfl rfl) (fun _ => rfl) fun _ wd2 v H3 hq => ?_
  clear H hd
  obtain ⟨b1, rfl, hq⟩ := hq
  replace hS : SH M X w [Ent.blk b1 [.string ⟨⟨a_.Name⟩⟩, .bool a_.Inherited, .int .u8 a_.Initial.Kind, .string ⟨⟨a_.Initial.Word⟩⟩, .int .i64 a_.Initial.Num, .int .u8 a_.Initial.Color.Red, .int .u8 a_.Initial.Color.Green, .int .u8 a_.Initial.Color.Blue, .int .u8 a_.Initial.Color.Alpha, .slice g_a__0.a a_.Words.length g_a__0.c, .slice g_a__1.a a_.Kinds.length g_a__1.c, .bool a_.Least], Ent.im tS a_.Words g_a__0, Ent.im (tI .u8) a_.Kinds g_a__1, Ent.im tS b_.Words g_b__0, Ent.im (tI .u8) b_.Kinds g_b__1] _ := hS.join [] [0, 1, 2, 3] rfl rfl hq
  clear hq
  have hd : S0 (AvL M [Ent.blk b1 [.string ⟨⟨a_.Name⟩⟩, .bool a_.Inherited, .int .u8 a_.Initial.Kind, .string ⟨⟨a_.Initial.Word⟩⟩, .int .i64 a_.Initial.Num, .int .u8 a_.Initial.Color.Red, .int .u8 a_.Initial.Color.Green, .int .u8 a_.Initial.Color.Blue, .int .u8 a_.Initial.Color.Alpha, .slice g_a__0.a a_.Words.length g_a__0.c, .slice g_a__1.a a_.Kinds.length g_a__1.c, .bool a_.Least], Ent.im tS a_.Words g_a__0, Ent.im (tI .u8) a_.Kinds g_a__1, Ent.im tS b_.Words g_b__0, Ent.im (tI .u8) b_.Kinds g_b__1]) [] _ := hS.hand [] [0, 1, 2, 3, 4] rfl rfl
  refine m_stp [3, 2] [(2, [], .pointer (some ⟨b1, 0, none⟩))] H3 rfl rfl rfl rfl (o_box [.string ⟨⟨b_.Name⟩⟩, .bool b_.Inherited, .int .u8 b_.Initial.Kind, .string ⟨⟨b_.Initial.Word⟩⟩, .int .i64 b_.Initial.Num, .int .u8 b_.Initial.Color.Red, .int .u8 b_.Initial.Color.Green, .int .u8 b_.Initial.Color.Blue, .int .u8 b_.Initial.Color.Alpha, .slice g_b__0.a b_.Words.length g_b__0.c, .slice g_b__1.a b_.Kinds.length g_b__1.c, .bool b_.Least] H3 hd rfl rfl) (fun _ => rfl) fun _ wd5 v H6 hq => ?_
  clear H3 hd
  obtain ⟨b4, rfl, hq⟩ := hq
  replace hS : SH M X w [Ent.blk b4 [.string ⟨⟨b_.Name⟩⟩, .bool b_.Inherited, .int .u8 b_.Initial.Kind, .string ⟨⟨b_.Initial.Word⟩⟩, .int .i64 b_.Initial.Num, .int .u8 b_.Initial.Color.Red, .int .u8 b_.Initial.Color.Green, .int .u8 b_.Initial.Color.Blue, .int .u8 b_.Initial.Color.Alpha, .slice g_b__0.a b_.Words.length g_b__0.c, .slice g_b__1.a b_.Kinds.length g_b__1.c, .bool b_.Least], Ent.blk b1 [.string ⟨⟨a_.Name⟩⟩, .bool a_.Inherited, .int .u8 a_.Initial.Kind, .string ⟨⟨a_.Initial.Word⟩⟩, .int .i64 a_.Initial.Num, .int .u8 a_.Initial.Color.Red, .int .u8 a_.Initial.Color.Green, .int .u8 a_.Initial.Color.Blue, .int .u8 a_.Initial.Color.Alpha, .slice g_a__0.a a_.Words.length g_a__0.c, .slice g_a__1.a a_.Kinds.length g_a__1.c, .bool a_.Least], Ent.im tS a_.Words g_a__0, Ent.im (tI .u8) a_.Kinds g_a__1, Ent.im tS b_.Words g_b__0, Ent.im (tI .u8) b_.Kinds g_b__1] _ := hS.join [] [0, 1, 2, 3, 4] rfl rfl hq
  clear hq
  refine wl_batch 2 3 [] [2, 3] [(2, [], .pointer (some ⟨b1, 0, none⟩)), (3, [], .pointer (some ⟨b4, 0, none⟩))] [] H6 (by decide) (by kernel_rfl) trivial fun _ wd7 H8 hb => ?_
  clear H6
  replace hS := hS.below hb
  clear hb
  refine wl_end rfl ?_
  refine w_seq ?_
  obtain ⟨x9, hx9, hm⟩ := letE hm
  obtain ⟨x10, hx10, hm⟩ := letE hm
  obtain ⟨x11, hx11, hm⟩ := letE hm
  obtain ⟨x12, hx12, hm⟩ := letE hm
  refine s_reg [(.string ⟨⟨a_.Name⟩⟩), (.string ⟨⟨b_.Name⟩⟩), (.bool a_.Inherited), (.bool b_.Inherited), (.agg ⟨[.int .u8 a_.Initial.Kind, .string ⟨⟨a_.Initial.Word⟩⟩, .int .i64 a_.Initial.Num, .int .u8 a_.Initial.Color.Red, .int .u8 a_.Initial.Color.Green, .int .u8 a_.Initial.Color.Blue, .int .u8 a_.Initial.Color.Alpha]⟩), (.agg ⟨[.int .u8 b_.Initial.Kind, .string ⟨⟨b_.Initial.Word⟩⟩, .int .i64 b_.Initial.Num, .int .u8 b_.Initial.Color.Red, .int .u8 b_.Initial.Color.Green, .int .u8 b_.Initial.Color.Blue, .int .u8 b_.Initial.Color.Alpha]⟩), (.bool a_.Least), (.bool b_.Least), (.slice g_a__0.a a_.Words.length g_a__0.c), (.slice g_b__0.a b_.Words.length g_b__0.c), (.slice g_a__1.a a_.Kinds.length g_a__1.c), (.string ⟨⟨toB a_.Kinds⟩⟩), (.slice g_b__1.a b_.Kinds.length g_b__1.c), (.string ⟨⟨toB b_.Kinds⟩⟩)] [2, 3, 49] [(2, [], .pointer (some ⟨b1, 0, none⟩)), (3, [], .pointer (some ⟨b4, 0, none⟩)), (49, [], .bool x12)] [fun wz => V.at1 ⟨b1, 0, none⟩ (.string ⟨⟨a_.Name⟩⟩) wz, fun wz => V.at1 ⟨b4, 0, none⟩ (.string ⟨⟨b_.Name⟩⟩) wz, fun wz => ((!(a_.Name == b_.Name)) = false ∧ True → V.at1 ⟨b1, 1, none⟩ (.bool a_.Inherited) wz), fun wz => ((!(a_.Name == b_.Name)) = false ∧ True → V.at1 ⟨b4, 1, none⟩ (.bool b_.Inherited) wz), fun wz => (x9 = false ∧ True → V.atN b1 2 [.int .u8 a_.Initial.Kind, .string ⟨⟨a_.Initial.Word⟩⟩, .int .i64 a_.Initial.Num, .int .u8 a_.Initial.Color.Red, .int .u8 a_.Initial.Color.Green, .int .u8 a_.Initial.Color.Blue, .int .u8 a_.Initial.Color.Alpha] 0 wz), fun wz => (x9 = false ∧ True → V.atN b4 2 [.int .u8 b_.Initial.Kind, .string ⟨⟨b_.Initial.Word⟩⟩, .int .i64 b_.Initial.Num, .int .u8 b_.Initial.Color.Red, .int .u8 b_.Initial.Color.Green, .int .u8 b_.Initial.Color.Blue, .int .u8 b_.Initial.Color.Alpha] 0 wz), fun wz => (x10 = false ∧ True → V.at1 ⟨b1, 11, none⟩ (.bool a_.Least) wz), fun wz => (x10 = false ∧ True → V.at1 ⟨b4, 11, none⟩ (.bool b_.Least) wz), fun wz => ((cond x10 true (!(a_.Least == b_.Least))) = false ∧ True → V.at1 ⟨b1, 9, none⟩ (.slice g_a__0.a a_.Words.length g_a__0.c) wz), fun wz => ((cond x10 true (!(a_.Least == b_.Least))) = false ∧ True → V.at1 ⟨b4, 9, none⟩ (.slice g_b__0.a b_.Words.length g_b__0.c) wz), fun wz => (x11 = false ∧ True → V.at1 ⟨b1, 10, none⟩ (.slice g_a__1.a a_.Kinds.length g_a__1.c) wz), fun wz => (x11 = false ∧ True → ∀ w', Below wz.heap.size wz w' → (convert 49 9 (.slice g_a__1.a a_.Kinds.length g_a__1.c)).run Tryd.prog w' = .ok (.string ⟨⟨toB a_.Kinds⟩⟩) w'), fun wz => (x11 = false ∧ True → V.at1 ⟨b4, 10, none⟩ (.slice g_b__1.a b_.Kinds.length g_b__1.c) wz), fun wz => (x11 = false ∧ True → ∀ w', Below wz.heap.size wz w' → (convert 49 9 (.slice g_b__1.a b_.Kinds.length g_b__1.c)).run Tryd.prog w' = .ok (.string ⟨⟨toB b_.Kinds⟩⟩) w')] H8 (by subst hx9 hx10 hx11 hx12; kernel_rfl) ⟨((hS.bk 1 rfl).at1 rfl), ((hS.bk 0 rfl).at1 rfl), fun hg => (hS.bk 1 rfl).at1 rfl, fun hg => (hS.bk 0 rfl).at1 rfl, fun hg => (hS.bk 1 rfl).atD rfl, fun hg => (hS.bk 0 rfl).atD rfl, fun hg => (hS.bk 1 rfl).at1 rfl, fun hg => (hS.bk 0 rfl).at1 rfl, fun hg => (hS.bk 1 rfl).at1 rfl, fun hg => (hS.bk 0 rfl).at1 rfl, fun hg => (hS.bk 1 rfl).at1 rfl, fun hg => conv_slG (E := 5) (by kernel_rfl) (by kernel_rfl) (by kernel_rfl) (hS.im 3 rfl), fun hg => (hS.bk 0 rfl).at1 rfl, fun hg => conv_slG (E := 5) (by kernel_rfl) (by kernel_rfl) (by kernel_rfl) (hS.im 5 rfl), trivial⟩ fun _ wd13 H14 hb => ?_
  clear H8
  replace hS := hS.below hb
  clear hb
  refine w_if H14 rfl (fun hc => ?_) (fun hc => ?_)
  · replace hm := bT hc hm
    refine s_reg [] [4] [(4, [], .bool false)] [] H14 (by kernel_rfl) trivial fun _ wd15 H16 hb => ?_
    clear H14
    replace hS := hS.below hb
    clear hb
    replace hS : SH M X w [] _ := hS.sel [] rfl
    refine w_ret ?_
    obtain rfl := someE hm
    exact retR1 H16 rfl rfl ⟨_, rfl, rfl, (hS.sel [] rfl)⟩
  · replace hm := bF hc hm
    refine w_skip ?_
    obtain ⟨z17, hz, hm_z17⟩ := bindE hm
    refine w_cut (fun a' w' => ∃ s_z17 : Unit, z17 = Sum.inr s_z17 ∧ Fr 68 [] a' ∧ SH M X w [Ent.blk b4 [.string ⟨⟨b_.Name⟩⟩, .bool b_.Inherited, .int .u8 b_.Initial.Kind, .string ⟨⟨b_.Initial.Word⟩⟩, .int .i64 b_.Initial.Num, .int .u8 b_.Initial.Color.Red, .int .u8 b_.Initial.Color.Green, .int .u8 b_.Initial.Color.Blue, .int .u8 b_.Initial.Color.Alpha, .slice g_b__0.a b_.Words.length g_b__0.c, .slice g_b__1.a b_.Kinds.length g_b__1.c, .bool b_.Least], Ent.blk b1 [.string ⟨⟨a_.Name⟩⟩, .bool a_.Inherited, .int .u8 a_.Initial.Kind, .string ⟨⟨a_.Initial.Word⟩⟩, .int .i64 a_.Initial.Num, .int .u8 a_.Initial.Color.Red, .int .u8 a_.Initial.Color.Green, .int .u8 a_.Initial.Color.Blue, .int .u8 a_.Initial.Color.Alpha, .slice g_a__0.a a_.Words.length g_a__0.c, .slice g_a__1.a a_.Kinds.length g_a__1.c, .bool a_.Least], Ent.im tS a_.Words g_a__0, Ent.im (tI .u8) a_.Kinds g_a__1, Ent.im tS b_.Words g_b__0, Ent.im (tI .u8) b_.Kinds g_b__1] w') ?_ ?_
    · replace hm := hz
      refine s_reg [] [2, 3, 5] [(2, [], .pointer (some ⟨b1, 0, none⟩)), (3, [], .pointer (some ⟨b4, 0, none⟩)), (5, [], .int .i64 0)] [] H14 (by kernel_rfl) trivial fun _ wd18 H19 hb => ?_
      clear H14
      replace hS := hS.below hb
      clear hb
      refine w_block ?_
      refine w_loop (fun kk a' w' => ∃ (v20 : Int), r25_SameProp_L1 m a_ b_ kk v20 = some _ ∧ Fr 68 [(2, [], .pointer (some ⟨b1, 0, none⟩)), (3, [], .pointer (some ⟨b4, 0, none⟩)), (5, [], .int .i64 v20)] a' ∧ SH M X w [Ent.blk b4 [.string ⟨⟨b_.Name⟩⟩, .bool b_.Inherited, .int .u8 b_.Initial.Kind, .string ⟨⟨b_.Initial.Word⟩⟩, .int .i64 b_.Initial.Num, .int .u8 b_.Initial.Color.Red, .int .u8 b_.Initial.Color.Green, .int .u8 b_.Initial.Color.Blue, .int .u8 b_.Initial.Color.Alpha, .slice g_b__0.a b_.Words.length g_b__0.c, .slice g_b__1.a b_.Kinds.length g_b__1.c, .bool b_.Least], Ent.blk b1 [.string ⟨⟨a_.Name⟩⟩, .bool a_.Inherited, .int .u8 a_.Initial.Kind, .string ⟨⟨a_.Initial.Word⟩⟩, .int .i64 a_.Initial.Num, .int .u8 a_.Initial.Color.Red, .int .u8 a_.Initial.Color.Green, .int .u8 a_.Initial.Color.Blue, .int .u8 a_.Initial.Color.Alpha, .slice g_a__0.a a_.Words.length g_a__0.c, .slice g_a__1.a a_.Kinds.length g_a__1.c, .bool a_.Least], Ent.im tS a_.Words g_a__0, Ent.im (tI .u8) a_.Kinds g_a__1, Ent.im tS b_.Words g_b__0, Ent.im (tI .u8) b_.Kinds g_b__1] w') ⟨_, 0, hm, Fr.keep (ks := [2, 3, 5]) H19 (by kernel_rfl), hS⟩ ?_
      clear hm H19 hS
      rintro kk _ wd32 ⟨v20, hm, H, hS⟩
      cases kk with
      | zero => exact noneE hm
      | succ kk =>
        rw [r25_SameProp_L1] at hm
        refine w_seq ?_
        refine s_reg [(.slice g_a__0.a a_.Words.length g_a__0.c)] [2, 3, 5, 54] [(2, [], .pointer (some ⟨b1, 0, none⟩)), (3, [], .pointer (some ⟨b4, 0, none⟩)), (5, [], .int .i64 v20), (54, [], .bool (decide (v20 < (ln a_.Words))))] [fun wz => V.at1 ⟨b1, 9, none⟩ (.slice g_a__0.a a_.Words.length g_a__0.c) wz] H (by kernel_rfl) ⟨((hS.bk 1 rfl).at1 rfl), trivial⟩ fun _ wd21 H22 hb => ?_
        clear H
        replace hS := hS.below hb
        clear hb
        refine w_if H22 rfl (fun hc => ?_) (fun hc => ?_)
        · replace hm := bT hc hm
          refine w_skip ?_
          refine w_seq ?_
          refine w_block ?_
          obtain ⟨ho23, hm⟩ := chkE hm
          obtain ⟨ho24, hm⟩ := chkE hm
          obtain ⟨x25, hx25, hm⟩ := letE hm
          refine s_draw [(.slice g_a__0.a a_.Words.length g_a__0.c), (.string ⟨⟨(gi a_.Words v20)⟩⟩), (.slice g_b__0.a b_.Words.length g_b__0.c), (.string ⟨⟨(gi b_.Words v20)⟩⟩)] [2, 3, 5, 67] [(2, [], .pointer (some ⟨b1, 0, none⟩)), (3, [], .pointer (some ⟨b4, 0, none⟩)), (5, [], .int .i64 v20), (67, [], .bool x25)] [fun wz => V.at1 ⟨b1, 9, none⟩ (.slice g_a__0.a a_.Words.length g_a__0.c) wz, fun _ => oka g_a__0.a ∧ 0 ≤ v20 ∧ v20 < ln a_.Words, fun wz => V.at1 ⟨ab g_a__0.a, ao g_a__0.a + (v20).toNat * 1, none⟩ (.string ⟨⟨(gi a_.Words v20)⟩⟩) wz, fun wz => V.at1 ⟨b4, 9, none⟩ (.slice g_b__0.a b_.Words.length g_b__0.c) wz, fun _ => oka g_b__0.a ∧ 0 ≤ v20 ∧ v20 < ln b_.Words, fun wz => V.at1 ⟨ab g_b__0.a, ao g_b__0.a + (v20).toNat * 1, none⟩ (.string ⟨⟨(gi b_.Words v20)⟩⟩) wz] H22 (by kernel_rfl) (by kernel_rfl) (by subst hx25; kernel_rfl) ⟨((hS.bk 1 rfl).at1 rfl), ((hS.im 2 rfl).oki ho23), ((hS.im 2 rfl).at1 ho23 0 rfl), ((hS.bk 0 rfl).at1 rfl), ((hS.im 4 rfl).oki ho24), ((hS.im 4 rfl).at1 ho24 0 rfl), trivial⟩ fun _ wd26 H27 hb => ?_
          clear H22
          replace hS := hS.below hb
          clear hb
          refine w_if H27 rfl (fun hc => ?_) (fun hc => ?_)
          · replace hm := bT hc hm
            refine s_reg [] [4] [(4, [], .bool false)] [] H27 (by kernel_rfl) trivial fun _ wd28 H29 hb => ?_
            clear H27
            replace hS := hS.below hb
            clear hb
            refine w_ret ?_
            obtain rfl := someE hm
            have hm := hm_z17
            obtain rfl := someE hm
            exact retR1 H29 rfl rfl ⟨_, rfl, rfl, (hS.sel [] rfl)⟩
          · replace hm := bF hc hm
            refine w_skip ?_
            refine w_reg [] [2, 3, 5] [(2, [], .pointer (some ⟨b1, 0, none⟩)), (3, [], .pointer (some ⟨b4, 0, none⟩)), (5, [], .int .i64 (w64 (v20 + 1)))] [] H27 (by kernel_rfl) trivial fun _ wd30 H31 hb => ?_
            clear H27
            replace hS := hS.below hb
            clear hb
            exact ⟨_, Nat.lt_succ_self _, w64 (v20 + 1), hm, Fr.keep (ks := [2, 3, 5]) H31 (by kernel_rfl), hS⟩
        · replace hm := bF hc hm
          refine w_exit rfl ?_
          obtain rfl := someE hm
          exact ⟨_, rfl, Fr.keep (ks := []) H22 (by kernel_rfl), hS⟩
    · rintro _ wd35 ⟨s_z17, hz, H, hS⟩
      subst hz
      replace hm := sumR hm_z17
      replace hS : SH M X w [] _ := hS.sel [] rfl
      refine s_reg [] [4] [(4, [], .bool true)] [] H (by kernel_rfl) trivial fun _ wd33 H34 hb => ?_
      clear H
      replace hS := hS.below hb
      clear hb
      refine w_ret ?_
      obtain rfl := someE hm
      exact retR1 H34 rfl rfl ⟨_, rfl, rfl, (hS.sel [] rfl)⟩
theorem r25_SameProp_ok {g_a__0 : Gh} {g_a__1 : Gh} {g_b__0 : Gh} {g_b__1 : Gh} (m : Nat) (a_ : TProp) (b_ : TProp) (r : Bool) (hm : r25_SameProp m a_ b_ = some r) (w : World) (hL : S0 F0 [Ent.im tS a_.Words g_a__0, Ent.im (tI .u8) a_.Kinds g_a__1, Ent.im tS b_.Words g_b__0, Ent.im (tI .u8) b_.Kinds g_b__1] w ∧ fpl [Ent.im tS a_.Words g_a__0, Ent.im (tI .u8) a_.Kinds g_a__1, Ent.im tS b_.Words g_b__0, Ent.im (tI .u8) b_.Kinds g_b__1] = []) : RetB Tryd.prog 30 ⟨[.agg ⟨[.string ⟨⟨a_.Name⟩⟩, .bool a_.Inherited, .int .u8 a_.Initial.Kind, .string ⟨⟨a_.Initial.Word⟩⟩, .int .i64 a_.Initial.Num, .int .u8 a_.Initial.Color.Red, .int .u8 a_.Initial.Color.Green, .int .u8 a_.Initial.Color.Blue, .int .u8 a_.Initial.Color.Alpha, .slice g_a__0.a a_.Words.length g_a__0.c, .slice g_a__1.a a_.Kinds.length g_a__1.c, .bool a_.Least]⟩, .agg ⟨[.string ⟨⟨b_.Name⟩⟩, .bool b_.Inherited, .int .u8 b_.Initial.Kind, .string ⟨⟨b_.Initial.Word⟩⟩, .int .i64 b_.Initial.Num, .int .u8 b_.Initial.Color.Red, .int .u8 b_.Initial.Color.Green, .int .u8 b_.Initial.Color.Blue, .int .u8 b_.Initial.Color.Alpha, .slice g_b__0.a b_.Words.length g_b__0.c, .slice g_b__1.a b_.Kinds.length g_b__1.c, .bool b_.Least]⟩]⟩ (.bool r) w := retB_of hL (Tryd.call30 _) (fun w' h => r25_SameProp_w F0 m   a_ b_ r hm w' h)

def r25_SameTable_L1 (m : Nat) (a_ : List TProp) (b_ : List TProp) : Nat → Int → Option (Sum (Bool) (Unit))
  | 0, _ => none
  | kk + 1, v10 =>
    cond (decide (v10 < (ln a_))) (
    chk (0 ≤ v10 ∧ v10 < ln a_) <|
    chk (0 ≤ v10 ∧ v10 < ln b_) <|
    Option.bind (r25_SameProp m (gi a_ v10) (gi b_ v10)) fun y15 =>
    cond (!y15) (
    some (.inl false)) (
    r25_SameTable_L1 m a_ b_ kk (w64 (v10 + 1)))) (
    some (.inr ()))
def r25_SameTable (m : Nat) (a_ : List TProp) (b_ : List TProp) : Option (Bool) :=
  cond ((ln a_) != (ln b_)) (
  some false) (
  Option.bind (
  r25_SameTable_L1 m a_ b_ m 0) fun (z7 : Sum (Bool) (Unit)) => sumK z7 fun s_z7 =>
  some true)
theorem r25_SameTable_w {g_a_ : Gh} {g_b_ : Gh} (M : Av) (m : Nat) (a_ : List TProp) (b_ : List TProp) (r : Bool) (hm : r25_SameTable m a_ b_ = some r) (w : World) (hS : S0 M [Ent.im tyProp a_ g_a_, Ent.im tyProp b_ g_b_] w) : Calls Tryd.prog 21 ⟨[.slice g_a_.a a_.length g_a_.c, .slice g_b_.a b_.length g_b_.c]⟩ w (fun e w' => ∃ v, e = .returned v ∧ v = .bool r ∧ SH M (fpl [Ent.im tyProp a_ g_a_, Ent.im tyProp b_ g_b_]) w [] w') := by
  rw [r25_SameTable] at hm
  have hS0 : SH M (fpl [Ent.im tyProp a_ g_a_, Ent.im tyProp b_ g_b_]) w [Ent.im tyProp a_ g_a_, Ent.im tyProp b_ g_b_] w := hS
  generalize hX : fpl [Ent.im tyProp a_ g_a_, Ent.im tyProp b_ g_b_] = X at hS0 ⊢
  clear hS hX
  have hS := hS0
  clear hS0
  refine calls_entryP Tryd.func21 rfl Tryd.ntmps21 rfl fun _ H => ?_
  refine s_reg [] [0, 1] [(0, [], .slice g_a_.a a_.length g_a_.c), (1, [], .slice g_b_.a b_.length g_b_.c)] [] H (by kernel_rfl) trivial fun _ wd1 H2 hb => ?_
  clear H
  replace hS := hS.below hb
  clear hb
  refine w_seq ?_
  refine s_reg [] [0, 1, 10] [(0, [], .slice g_a_.a a_.length g_a_.c), (1, [], .slice g_b_.a b_.length g_b_.c), (10, [], .bool ((ln a_) != (ln b_)))] [] H2 (by kernel_rfl) trivial fun _ wd3 H4 hb => ?_
  clear H2
  replace hS := hS.below hb
  clear hb
  refine w_if H4 rfl (fun hc => ?_) (fun hc => ?_)
  · replace hm := bT hc hm
    refine s_reg [] [4] [(4, [], .bool false)] [] H4 (by kernel_rfl) trivial fun _ wd5 H6 hb => ?_
    clear H4
    replace hS := hS.below hb
    clear hb
    replace hS : SH M X w [] _ := hS.sel [] rfl
    refine w_ret ?_
    obtain rfl := someE hm
    exact retR1 H6 rfl rfl ⟨_, rfl, rfl, (hS.sel [] rfl)⟩
  · replace hm := bF hc hm
    refine w_skip ?_
    obtain ⟨z7, hz, hm_z7⟩ := bindE hm
    refine w_cut (fun a' w' => ∃ s_z7 : Unit, z7 = Sum.inr s_z7 ∧ Fr 27 [] a' ∧ SH M X w [Ent.im tyProp a_ g_a_, Ent.im tyProp b_ g_b_] w') ?_ ?_
    · replace hm := hz
      refine s_reg [] [0, 1, 5] [(0, [], .slice g_a_.a a_.length g_a_.c), (1, [], .slice g_b_.a b_.length g_b_.c), (5, [], .int .i64 0)] [] H4 (by kernel_rfl) trivial fun _ wd8 H9 hb => ?_
      clear H4
      replace hS := hS.below hb
      clear hb
      refine w_block ?_
      refine w_loop (fun kk a' w' => ∃ (v10 : Int), r25_SameTable_L1 m a_ b_ kk v10 = some _ ∧ Fr 27 [(0, [], .slice g_a_.a a_.length g_a_.c), (1, [], .slice g_b_.a b_.length g_b_.c), (5, [], .int .i64 v10)] a' ∧ SH M X w [Ent.im tyProp a_ g_a_, Ent.im tyProp b_ g_b_] w') ⟨_, 0, hm, Fr.keep (ks := [0, 1, 5]) H9 (by kernel_rfl), hS⟩ ?_
      clear hm H9 hS
      rintro kk _ wd22 ⟨v10, hm, H, hS⟩
      cases kk with
      | zero => exact noneE hm
      | succ kk =>
        rw [r25_SameTable_L1] at hm
        refine w_seq ?_
        refine s_reg [] [0, 1, 5, 14] [(0, [], .slice g_a_.a a_.length g_a_.c), (1, [], .slice g_b_.a b_.length g_b_.c), (5, [], .int .i64 v10), (14, [], .bool (decide (v10 < (ln a_))))] [] H (by kernel_rfl) trivial fun _ wd11 H12 hb => ?_
        clear H
        replace hS := hS.below hb
        clear hb
        refine w_if H12 rfl (fun hc => ?_) (fun hc => ?_)
        · replace hm := bT hc hm
          refine w_skip ?_
          refine w_seq ?_
          refine w_block ?_
          obtain ⟨ho13, hm⟩ := chkE hm
          obtain ⟨ho14, hm⟩ := chkE hm
          obtain ⟨y15, hy15, hm⟩ := bindE hm
          refine s_draw [(.agg ⟨[.string ⟨⟨(gi a_ v10).Name⟩⟩, .bool ((gi a_ v10).Inherited), .int .u8 ((gi a_ v10).Initial.Kind), .string ⟨⟨(gi a_ v10).Initial.Word⟩⟩, .int .i64 ((gi a_ v10).Initial.Num), .int .u8 ((gi a_ v10).Initial.Color.Red), .int .u8 ((gi a_ v10).Initial.Color.Green), .int .u8 ((gi a_ v10).Initial.Color.Blue), .int .u8 ((gi a_ v10).Initial.Color.Alpha), .slice (g_a_.s (v10).toNat 0).a (((gi a_ v10).Words).length) (g_a_.s (v10).toNat 0).c, .slice (g_a_.s (v10).toNat 1).a (((gi a_ v10).Kinds).length) (g_a_.s (v10).toNat 1).c, .bool ((gi a_ v10).Least)]⟩), (.agg ⟨[.string ⟨⟨(gi b_ v10).Name⟩⟩, .bool ((gi b_ v10).Inherited), .int .u8 ((gi b_ v10).Initial.Kind), .string ⟨⟨(gi b_ v10).Initial.Word⟩⟩, .int .i64 ((gi b_ v10).Initial.Num), .int .u8 ((gi b_ v10).Initial.Color.Red), .int .u8 ((gi b_ v10).Initial.Color.Green), .int .u8 ((gi b_ v10).Initial.Color.Blue), .int .u8 ((gi b_ v10).Initial.Color.Alpha), .slice (g_b_.s (v10).toNat 0).a (((gi b_ v10).Words).length) (g_b_.s (v10).toNat 0).c, .slice (g_b_.s (v10).toNat 1).a (((gi b_ v10).Kinds).length) (g_b_.s (v10).toNat 1).c, .bool ((gi b_ v10).Least)]⟩), (.bool y15)] [0, 1, 5, 26] [(0, [], .slice g_a_.a a_.length g_a_.c), (1, [], .slice g_b_.a b_.length g_b_.c), (5, [], .int .i64 v10), (26, [], .bool (!y15))] [fun _ => oka g_a_.a ∧ 0 ≤ v10 ∧ v10 < ln a_, fun wz => V.atN (ab g_a_.a) (ao g_a_.a + (v10).toNat * 12) [.string ⟨⟨(gi a_ v10).Name⟩⟩, .bool ((gi a_ v10).Inherited), .int .u8 ((gi a_ v10).Initial.Kind), .string ⟨⟨(gi a_ v10).Initial.Word⟩⟩, .int .i64 ((gi a_ v10).Initial.Num), .int .u8 ((gi a_ v10).Initial.Color.Red), .int .u8 ((gi a_ v10).Initial.Color.Green), .int .u8 ((gi a_ v10).Initial.Color.Blue), .int .u8 ((gi a_ v10).Initial.Color.Alpha), .slice (g_a_.s (v10).toNat 0).a (((gi a_ v10).Words).length) (g_a_.s (v10).toNat 0).c, .slice (g_a_.s (v10).toNat 1).a (((gi a_ v10).Kinds).length) (g_a_.s (v10).toNat 1).c, .bool ((gi a_ v10).Least)] 0 wz, fun _ => oka g_b_.a ∧ 0 ≤ v10 ∧ v10 < ln b_, fun wz => V.atN (ab g_b_.a) (ao g_b_.a + (v10).toNat * 12) [.string ⟨⟨(gi b_ v10).Name⟩⟩, .bool ((gi b_ v10).Inherited), .int .u8 ((gi b_ v10).Initial.Kind), .string ⟨⟨(gi b_ v10).Initial.Word⟩⟩, .int .i64 ((gi b_ v10).Initial.Num), .int .u8 ((gi b_ v10).Initial.Color.Red), .int .u8 ((gi b_ v10).Initial.Color.Green), .int .u8 ((gi b_ v10).Initial.Color.Blue), .int .u8 ((gi b_ v10).Initial.Color.Alpha), .slice (g_b_.s (v10).toNat 0).a (((gi b_ v10).Words).length) (g_b_.s (v10).toNat 0).c, .slice (g_b_.s (v10).toNat 1).a (((gi b_ v10).Kinds).length) (g_b_.s (v10).toNat 1).c, .bool ((gi b_ v10).Least)] 0 wz, fun wz => RetB Tryd.prog 30 ⟨[.agg ⟨[.string ⟨⟨(gi a_ v10).Name⟩⟩, .bool ((gi a_ v10).Inherited), .int .u8 ((gi a_ v10).Initial.Kind), .string ⟨⟨(gi a_ v10).Initial.Word⟩⟩, .int .i64 ((gi a_ v10).Initial.Num), .int .u8 ((gi a_ v10).Initial.Color.Red), .int .u8 ((gi a_ v10).Initial.Color.Green), .int .u8 ((gi a_ v10).Initial.Color.Blue), .int .u8 ((gi a_ v10).Initial.Color.Alpha), .slice (g_a_.s (v10).toNat 0).a (((gi a_ v10).Words).length) (g_a_.s (v10).toNat 0).c, .slice (g_a_.s (v10).toNat 1).a (((gi a_ v10).Kinds).length) (g_a_.s (v10).toNat 1).c, .bool ((gi a_ v10).Least)]⟩, .agg ⟨[.string ⟨⟨(gi b_ v10).Name⟩⟩, .bool ((gi b_ v10).Inherited), .int .u8 ((gi b_ v10).Initial.Kind), .string ⟨⟨(gi b_ v10).Initial.Word⟩⟩, .int .i64 ((gi b_ v10).Initial.Num), .int .u8 ((gi b_ v10).Initial.Color.Red), .int .u8 ((gi b_ v10).Initial.Color.Green), .int .u8 ((gi b_ v10).Initial.Color.Blue), .int .u8 ((gi b_ v10).Initial.Color.Alpha), .slice (g_b_.s (v10).toNat 0).a (((gi b_ v10).Words).length) (g_b_.s (v10).toNat 0).c, .slice (g_b_.s (v10).toNat 1).a (((gi b_ v10).Kinds).length) (g_b_.s (v10).toNat 1).c, .bool ((gi b_ v10).Least)]⟩]⟩ (.bool y15) wz] H12 (by kernel_rfl) (by kernel_rfl) (by kernel_rfl) ⟨((hS.im 0 rfl).oki ho13), ((hS.im 0 rfl).atA ho13 0 rfl), ((hS.im 1 rfl).oki ho14), ((hS.im 1 rfl).atA ho14 0 rfl), (r25_SameProp_ok (g_a__0 := (g_a_.s (v10).toNat 0)) (g_a__1 := (g_a_.s (v10).toNat 1)) (g_b__0 := (g_b_.s (v10).toNat 0)) (g_b__1 := (g_b_.s (v10).toNat 1)) m _ _ _ hy15 _ (s0im (s0im (s0im (s0im s0nil (tyProp_i1 ((hS.im 1 rfl).el ho14))) (tyProp_i0 ((hS.im 1 rfl).el ho14))) (tyProp_i1 ((hS.im 0 rfl).el ho13))) (tyProp_i0 ((hS.im 0 rfl).el ho13)))), trivial⟩ fun _ wd16 H17 hb => ?_
          clear H12
          replace hS := hS.below hb
          clear hb
          refine w_if H17 rfl (fun hc => ?_) (fun hc => ?_)
          · replace hm := bT hc hm
            refine s_reg [] [4] [(4, [], .bool false)] [] H17 (by kernel_rfl) trivial fun _ wd18 H19 hb => ?_
            clear H17
            replace hS := hS.below hb
            clear hb
            refine w_ret ?_
            obtain rfl := someE hm
            have hm := hm_z7
            obtain rfl := someE hm
            exact retR1 H19 rfl rfl ⟨_, rfl, rfl, (hS.sel [] rfl)⟩
          · replace hm := bF hc hm
            refine w_skip ?_
            refine w_reg [] [0, 1, 5] [(0, [], .slice g_a_.a a_.length g_a_.c), (1, [], .slice g_b_.a b_.length g_b_.c), (5, [], .int .i64 (w64 (v10 + 1)))] [] H17 (by kernel_rfl) trivial fun _ wd20 H21 hb => ?_
            clear H17
            replace hS := hS.below hb
            clear hb
            exact ⟨_, Nat.lt_succ_self _, w64 (v10 + 1), hm, Fr.keep (ks := [0, 1, 5]) H21 (by kernel_rfl), hS⟩
        · replace hm := bF hc hm
          refine w_exit rfl ?_
          obtain rfl := someE hm
          exact ⟨_, rfl, Fr.keep (ks := []) H12 (by kernel_rfl), hS⟩
    · rintro _ wd25 ⟨s_z7, hz, H, hS⟩
      subst hz
      replace hm := sumR hm_z7
      replace hS : SH M X w [] _ := hS.sel [] rfl
      refine s_reg [] [4] [(4, [], .bool true)] [] H (by kernel_rfl) trivial fun _ wd23 H24 hb => ?_
      clear H
      replace hS := hS.below hb
      clear hb
      refine w_ret ?_
      obtain rfl := someE hm
      exact retR1 H24 rfl rfl ⟨_, rfl, rfl, (hS.sel [] rfl)⟩
theorem r25_SameTable_ok {g_a_ : Gh} {g_b_ : Gh} (m : Nat) (a_ : List TProp) (b_ : List TProp) (r : Bool) (hm : r25_SameTable m a_ b_ = some r) (w : World) (hL : S0 F0 [Ent.im tyProp a_ g_a_, Ent.im tyProp b_ g_b_] w ∧ fpl [Ent.im tyProp a_ g_a_, Ent.im tyProp b_ g_b_] = []) : RetB Tryd.prog 21 ⟨[.slice g_a_.a a_.length g_a_.c, .slice g_b_.a b_.length g_b_.c]⟩ (.bool r) w := retB_of hL (Tryd.call21 _) (fun w' h => r25_SameTable_w F0 m   a_ b_ r hm w' h)

def law25_PropsNames_L1 (m : Nat)  : Nat → Str → Int → Option (Str)
  | 0, _, _ => none
  | kk + 1, v8, v9 =>
    cond (decide (v9 < 62)) (
    chk (ln v8 + ln [120] ≤ 9223372036854775807) <|
    law25_PropsNames_L1 m  kk (v8 ++ [120]) (w64 (v9 + 1))) (
    some v8)
def law25_PropsNames_L3 (m : Nat) (v29 : Int) : Nat → Int → Option (Sum (Sum (Bool) (Unit)) (Unit))
  | 0, _ => none
  | kk + 1, v48 =>
    cond (decide (v48 < 18)) (
    lt ((gi ([(TVal.mk 0 [] 0 (TColor.mk 0 0 0 0)), (TVal.mk 9 [] 0 (TColor.mk 0 0 0 0)), (TVal.mk 1 [] 0 (TColor.mk 0 0 0 0)), (TVal.mk 1 [97, 117, 116, 111] 1 (TColor.mk 0 0 0 0)), (TVal.mk 2 [112, 120] 0 (TColor.mk 0 0 0 0)), (TVal.mk 2 [] 1000000000001 (TColor.mk 0 0 0 0)), (TVal.mk 5 [] (-1000000000001) (TColor.mk 0 0 0 0)), (TVal.mk 6 [] 1000000001 (TColor.mk 0 0 0 0)), (TVal.mk 6 [] (-9223372036854775808) (TColor.mk 0 0 0 0)), (TVal.mk 7 [] 1 (TColor.mk 0 0 0 0)), (TVal.mk 8 [] 0 (TColor.mk 1 0 0 0))] : List TVal) v29).Kind) fun x51 =>
    lt ((gi ([(TVal.mk 0 [] 0 (TColor.mk 0 0 0 0)), (TVal.mk 9 [] 0 (TColor.mk 0 0 0 0)), (TVal.mk 1 [] 0 (TColor.mk 0 0 0 0)), (TVal.mk 1 [97, 117, 116, 111] 1 (TColor.mk 0 0 0 0)), (TVal.mk 2 [112, 120] 0 (TColor.mk 0 0 0 0)), (TVal.mk 2 [] 1000000000001 (TColor.mk 0 0 0 0)), (TVal.mk 5 [] (-1000000000001) (TColor.mk 0 0 0 0)), (TVal.mk 6 [] 1000000001 (TColor.mk 0 0 0 0)), (TVal.mk 6 [] (-9223372036854775808) (TColor.mk 0 0 0 0)), (TVal.mk 7 [] 1 (TColor.mk 0 0 0 0)), (TVal.mk 8 [] 0 (TColor.mk 1 0 0 0))] : List TVal) v29).Word) fun x52 =>
    lt ((gi ([(TVal.mk 0 [] 0 (TColor.mk 0 0 0 0)), (TVal.mk 9 [] 0 (TColor.mk 0 0 0 0)), (TVal.mk 1 [] 0 (TColor.mk 0 0 0 0)), (TVal.mk 1 [97, 117, 116, 111] 1 (TColor.mk 0 0 0 0)), (TVal.mk 2 [112, 120] 0 (TColor.mk 0 0 0 0)), (TVal.mk 2 [] 1000000000001 (TColor.mk 0 0 0 0)), (TVal.mk 5 [] (-1000000000001) (TColor.mk 0 0 0 0)), (TVal.mk 6 [] 1000000001 (TColor.mk 0 0 0 0)), (TVal.mk 6 [] (-9223372036854775808) (TColor.mk 0 0 0 0)), (TVal.mk 7 [] 1 (TColor.mk 0 0 0 0)), (TVal.mk 8 [] 0 (TColor.mk 1 0 0 0))] : List TVal) v29).Num) fun x53 =>
    lt ((gi ([(TVal.mk 0 [] 0 (TColor.mk 0 0 0 0)), (TVal.mk 9 [] 0 (TColor.mk 0 0 0 0)), (TVal.mk 1 [] 0 (TColor.mk 0 0 0 0)), (TVal.mk 1 [97, 117, 116, 111] 1 (TColor.mk 0 0 0 0)), (TVal.mk 2 [112, 120] 0 (TColor.mk 0 0 0 0)), (TVal.mk 2 [] 1000000000001 (TColor.mk 0 0 0 0)), (TVal.mk 5 [] (-1000000000001) (TColor.mk 0 0 0 0)), (TVal.mk 6 [] 1000000001 (TColor.mk 0 0 0 0)), (TVal.mk 6 [] (-9223372036854775808) (TColor.mk 0 0 0 0)), (TVal.mk 7 [] 1 (TColor.mk 0 0 0 0)), (TVal.mk 8 [] 0 (TColor.mk 1 0 0 0))] : List TVal) v29).Color.Red) fun x54 =>
    lt ((gi ([(TVal.mk 0 [] 0 (TColor.mk 0 0 0 0)), (TVal.mk 9 [] 0 (TColor.mk 0 0 0 0)), (TVal.mk 1 [] 0 (TColor.mk 0 0 0 0)), (TVal.mk 1 [97, 117, 116, 111] 1 (TColor.mk 0 0 0 0)), (TVal.mk 2 [112, 120] 0 (TColor.mk 0 0 0 0)), (TVal.mk 2 [] 1000000000001 (TColor.mk 0 0 0 0)), (TVal.mk 5 [] (-1000000000001) (TColor.mk 0 0 0 0)), (TVal.mk 6 [] 1000000001 (TColor.mk 0 0 0 0)), (TVal.mk 6 [] (-9223372036854775808) (TColor.mk 0 0 0 0)), (TVal.mk 7 [] 1 (TColor.mk 0 0 0 0)), (TVal.mk 8 [] 0 (TColor.mk 1 0 0 0))] : List TVal) v29).Color.Green) fun x55 =>
    lt ((gi ([(TVal.mk 0 [] 0 (TColor.mk 0 0 0 0)), (TVal.mk 9 [] 0 (TColor.mk 0 0 0 0)), (TVal.mk 1 [] 0 (TColor.mk 0 0 0 0)), (TVal.mk 1 [97, 117, 116, 111] 1 (TColor.mk 0 0 0 0)), (TVal.mk 2 [112, 120] 0 (TColor.mk 0 0 0 0)), (TVal.mk 2 [] 1000000000001 (TColor.mk 0 0 0 0)), (TVal.mk 5 [] (-1000000000001) (TColor.mk 0 0 0 0)), (TVal.mk 6 [] 1000000001 (TColor.mk 0 0 0 0)), (TVal.mk 6 [] (-9223372036854775808) (TColor.mk 0 0 0 0)), (TVal.mk 7 [] 1 (TColor.mk 0 0 0 0)), (TVal.mk 8 [] 0 (TColor.mk 1 0 0 0))] : List TVal) v29).Color.Blue) fun x56 =>
    lt ((gi ([(TVal.mk 0 [] 0 (TColor.mk 0 0 0 0)), (TVal.mk 9 [] 0 (TColor.mk 0 0 0 0)), (TVal.mk 1 [] 0 (TColor.mk 0 0 0 0)), (TVal.mk 1 [97, 117, 116, 111] 1 (TColor.mk 0 0 0 0)), (TVal.mk 2 [112, 120] 0 (TColor.mk 0 0 0 0)), (TVal.mk 2 [] 1000000000001 (TColor.mk 0 0 0 0)), (TVal.mk 5 [] (-1000000000001) (TColor.mk 0 0 0 0)), (TVal.mk 6 [] 1000000001 (TColor.mk 0 0 0 0)), (TVal.mk 6 [] (-9223372036854775808) (TColor.mk 0 0 0 0)), (TVal.mk 7 [] 1 (TColor.mk 0 0 0 0)), (TVal.mk 8 [] 0 (TColor.mk 1 0 0 0))] : List TVal) v29).Color.Alpha) fun x57 =>
    Option.bind (props_Has m v48 (TVal.mk x51 x52 x53 (TColor.mk x54 x55 x56 x57))) fun y58 =>
    cond (cond y58.1 true (y58.2 != 0)) (
    some (.inl (.inl false))) (
    law25_PropsNames_L3 m v29 kk (w64 (v48 + 1)))) (
    some (.inr ()))
def law25_PropsNames_L2 (m : Nat)  : Nat → Int → Option (Sum (Bool) (Unit))
  | 0, _ => none
  | kk + 1, v29 =>
    cond (decide (v29 < 11)) (
    Option.bind (
    chk (0 ≤ v29 ∧ v29 < ln ([(TVal.mk 0 [] 0 (TColor.mk 0 0 0 0)), (TVal.mk 9 [] 0 (TColor.mk 0 0 0 0)), (TVal.mk 1 [] 0 (TColor.mk 0 0 0 0)), (TVal.mk 1 [97, 117, 116, 111] 1 (TColor.mk 0 0 0 0)), (TVal.mk 2 [112, 120] 0 (TColor.mk 0 0 0 0)), (TVal.mk 2 [] 1000000000001 (TColor.mk 0 0 0 0)), (TVal.mk 5 [] (-1000000000001) (TColor.mk 0 0 0 0)), (TVal.mk 6 [] 1000000001 (TColor.mk 0 0 0 0)), (TVal.mk 6 [] (-9223372036854775808) (TColor.mk 0 0 0 0)), (TVal.mk 7 [] 1 (TColor.mk 0 0 0 0)), (TVal.mk 8 [] 0 (TColor.mk 1 0 0 0))] : List TVal)) <|
    lt ((gi ([(TVal.mk 0 [] 0 (TColor.mk 0 0 0 0)), (TVal.mk 9 [] 0 (TColor.mk 0 0 0 0)), (TVal.mk 1 [] 0 (TColor.mk 0 0 0 0)), (TVal.mk 1 [97, 117, 116, 111] 1 (TColor.mk 0 0 0 0)), (TVal.mk 2 [112, 120] 0 (TColor.mk 0 0 0 0)), (TVal.mk 2 [] 1000000000001 (TColor.mk 0 0 0 0)), (TVal.mk 5 [] (-1000000000001) (TColor.mk 0 0 0 0)), (TVal.mk 6 [] 1000000001 (TColor.mk 0 0 0 0)), (TVal.mk 6 [] (-9223372036854775808) (TColor.mk 0 0 0 0)), (TVal.mk 7 [] 1 (TColor.mk 0 0 0 0)), (TVal.mk 8 [] 0 (TColor.mk 1 0 0 0))] : List TVal) v29).Kind) fun x34 =>
    lt ((gi ([(TVal.mk 0 [] 0 (TColor.mk 0 0 0 0)), (TVal.mk 9 [] 0 (TColor.mk 0 0 0 0)), (TVal.mk 1 [] 0 (TColor.mk 0 0 0 0)), (TVal.mk 1 [97, 117, 116, 111] 1 (TColor.mk 0 0 0 0)), (TVal.mk 2 [112, 120] 0 (TColor.mk 0 0 0 0)), (TVal.mk 2 [] 1000000000001 (TColor.mk 0 0 0 0)), (TVal.mk 5 [] (-1000000000001) (TColor.mk 0 0 0 0)), (TVal.mk 6 [] 1000000001 (TColor.mk 0 0 0 0)), (TVal.mk 6 [] (-9223372036854775808) (TColor.mk 0 0 0 0)), (TVal.mk 7 [] 1 (TColor.mk 0 0 0 0)), (TVal.mk 8 [] 0 (TColor.mk 1 0 0 0))] : List TVal) v29).Word) fun x35 =>
    lt ((gi ([(TVal.mk 0 [] 0 (TColor.mk 0 0 0 0)), (TVal.mk 9 [] 0 (TColor.mk 0 0 0 0)), (TVal.mk 1 [] 0 (TColor.mk 0 0 0 0)), (TVal.mk 1 [97, 117, 116, 111] 1 (TColor.mk 0 0 0 0)), (TVal.mk 2 [112, 120] 0 (TColor.mk 0 0 0 0)), (TVal.mk 2 [] 1000000000001 (TColor.mk 0 0 0 0)), (TVal.mk 5 [] (-1000000000001) (TColor.mk 0 0 0 0)), (TVal.mk 6 [] 1000000001 (TColor.mk 0 0 0 0)), (TVal.mk 6 [] (-9223372036854775808) (TColor.mk 0 0 0 0)), (TVal.mk 7 [] 1 (TColor.mk 0 0 0 0)), (TVal.mk 8 [] 0 (TColor.mk 1 0 0 0))] : List TVal) v29).Num) fun x36 =>
    lt ((gi ([(TVal.mk 0 [] 0 (TColor.mk 0 0 0 0)), (TVal.mk 9 [] 0 (TColor.mk 0 0 0 0)), (TVal.mk 1 [] 0 (TColor.mk 0 0 0 0)), (TVal.mk 1 [97, 117, 116, 111] 1 (TColor.mk 0 0 0 0)), (TVal.mk 2 [112, 120] 0 (TColor.mk 0 0 0 0)), (TVal.mk 2 [] 1000000000001 (TColor.mk 0 0 0 0)), (TVal.mk 5 [] (-1000000000001) (TColor.mk 0 0 0 0)), (TVal.mk 6 [] 1000000001 (TColor.mk 0 0 0 0)), (TVal.mk 6 [] (-9223372036854775808) (TColor.mk 0 0 0 0)), (TVal.mk 7 [] 1 (TColor.mk 0 0 0 0)), (TVal.mk 8 [] 0 (TColor.mk 1 0 0 0))] : List TVal) v29).Color.Red) fun x37 =>
    lt ((gi ([(TVal.mk 0 [] 0 (TColor.mk 0 0 0 0)), (TVal.mk 9 [] 0 (TColor.mk 0 0 0 0)), (TVal.mk 1 [] 0 (TColor.mk 0 0 0 0)), (TVal.mk 1 [97, 117, 116, 111] 1 (TColor.mk 0 0 0 0)), (TVal.mk 2 [112, 120] 0 (TColor.mk 0 0 0 0)), (TVal.mk 2 [] 1000000000001 (TColor.mk 0 0 0 0)), (TVal.mk 5 [] (-1000000000001) (TColor.mk 0 0 0 0)), (TVal.mk 6 [] 1000000001 (TColor.mk 0 0 0 0)), (TVal.mk 6 [] (-9223372036854775808) (TColor.mk 0 0 0 0)), (TVal.mk 7 [] 1 (TColor.mk 0 0 0 0)), (TVal.mk 8 [] 0 (TColor.mk 1 0 0 0))] : List TVal) v29).Color.Green) fun x38 =>
    lt ((gi ([(TVal.mk 0 [] 0 (TColor.mk 0 0 0 0)), (TVal.mk 9 [] 0 (TColor.mk 0 0 0 0)), (TVal.mk 1 [] 0 (TColor.mk 0 0 0 0)), (TVal.mk 1 [97, 117, 116, 111] 1 (TColor.mk 0 0 0 0)), (TVal.mk 2 [112, 120] 0 (TColor.mk 0 0 0 0)), (TVal.mk 2 [] 1000000000001 (TColor.mk 0 0 0 0)), (TVal.mk 5 [] (-1000000000001) (TColor.mk 0 0 0 0)), (TVal.mk 6 [] 1000000001 (TColor.mk 0 0 0 0)), (TVal.mk 6 [] (-9223372036854775808) (TColor.mk 0 0 0 0)), (TVal.mk 7 [] 1 (TColor.mk 0 0 0 0)), (TVal.mk 8 [] 0 (TColor.mk 1 0 0 0))] : List TVal) v29).Color.Blue) fun x39 =>
    lt ((gi ([(TVal.mk 0 [] 0 (TColor.mk 0 0 0 0)), (TVal.mk 9 [] 0 (TColor.mk 0 0 0 0)), (TVal.mk 1 [] 0 (TColor.mk 0 0 0 0)), (TVal.mk 1 [97, 117, 116, 111] 1 (TColor.mk 0 0 0 0)), (TVal.mk 2 [112, 120] 0 (TColor.mk 0 0 0 0)), (TVal.mk 2 [] 1000000000001 (TColor.mk 0 0 0 0)), (TVal.mk 5 [] (-1000000000001) (TColor.mk 0 0 0 0)), (TVal.mk 6 [] 1000000001 (TColor.mk 0 0 0 0)), (TVal.mk 6 [] (-9223372036854775808) (TColor.mk 0 0 0 0)), (TVal.mk 7 [] 1 (TColor.mk 0 0 0 0)), (TVal.mk 8 [] 0 (TColor.mk 1 0 0 0))] : List TVal) v29).Color.Alpha) fun x40 =>
    Option.bind (props_Check (TVal.mk x34 x35 x36 (TColor.mk x37 x38 x39 x40))) fun y41 =>
    cond (y41 != 8) (
    some (.inl (.inl false))) (
    law25_PropsNames_L3 m v29 m 0)) fun (z32 : Sum (Sum (Bool) (Unit)) (Unit)) => sumK z32 fun s_z32 =>
    law25_PropsNames_L2 m  kk (w64 (v29 + 1))) (
    some (.inr ()))
def law25_PropsNames (m : Nat)  : Option (Bool) :=
  Option.bind (
  law25_PropsNames_L1 m  m [45, 45] 0) fun (z5 : Str) =>
  Option.bind (
  law25_PropsNames_L2 m  m 0) fun (z26 : Sum (Bool) (Unit)) => sumK z26 fun s_z26 =>
  lt (law25_px 0) fun y72 =>
  Option.bind (props_Has m (-1) y72) fun y73 =>
  Option.bind (props_Has m 18 (TVal.mk 0 [] 0 (TColor.mk 0 0 0 0))) fun y76 =>
  Option.bind (props_Find m []) fun y79 =>
  Option.bind (props_Find m [67, 111, 108, 111, 114]) fun y82 =>
  Option.bind (props_Inherited m [109, 97, 114, 103, 105, 110]) fun y85 =>
  Option.bind (props_Inherited m [45, 45, 120]) fun y88 =>
  Option.bind (props_Inherited m [119, 105, 100, 116, 104]) fun y91 =>
  Option.bind (
  Option.bind (law25_alive m) fun y95 =>
  lt (y95) fun x96 =>
  cond x96 (
  Option.bind (props_Table m) fun y99 =>
  Option.bind (r25_Table) fun y104 =>
  Option.bind (r25_SameTable m y99 y104) fun y109 =>
  Option.bind (cond y109 (props_Custom z5) (some default)) fun y110 =>
  chk ((cond y109 y110 false) = true → ln z5 + ln [120] ≤ 9223372036854775807) <|
  Option.bind (cond (cond y109 y110 false) (props_Custom (z5 ++ [120])) (some default)) fun y112 =>
  lt (cond (cond y109 y110 false) (!y112) false) fun x113 =>
  Option.bind (cond x113 (props_Custom [45, 45, 45]) (some default)) fun y114 =>
  lt (cond (cond x113 y114 false) (y73.2 == 2) false) fun x115 =>
  lt (cond (cond x115 (y76.2 == 2) false) (y79.2 == 6) false) fun x116 =>
  lt (cond (cond x116 (y82.2 == 6) false) (y85.2 == 6) false) fun x117 =>
  lt (cond (cond x117 (y88.2 == 0) false) y88.1 false) fun x118 =>
  lt (cond (cond x118 (y91.2 == 0) false) (!y91.1) false) fun x119 =>
  Option.bind (cond x119 (law25_has m 16 (TVal.mk 6 [] (-1000000000) (TColor.mk 0 0 0 0))) (some default)) fun y120 =>
  lt (law25_px (-1000000000000)) fun y121 =>
  Option.bind (cond (cond x119 y120 false) (law25_has m 8 y121) (some default)) fun y122 =>
  Option.bind (cond (cond (cond x119 y120 false) y122 false) (law25_has m 13 (TVal.mk 5 [] 0 (TColor.mk 0 0 0 0))) (some default)) fun y123 =>
  lt (cond (cond (cond x119 y120 false) y122 false) y123 false) fun x124 =>
  Option.bind (cond x124 (law25_has m 13 (TVal.mk 5 [] (-1) (TColor.mk 0 0 0 0))) (some default)) fun y125 =>
  Option.bind (cond (cond x124 (!y125) false) (law25_has m 15 (TVal.mk 5 [] (-1) (TColor.mk 0 0 0 0))) (some default)) fun y126 =>
  lt (cond (cond x124 (!y125) false) y126 false) fun x127 =>
  some x127) (
  some false)) fun (z94 : Bool) =>
  some z94
theorem law25_PropsNames_w  (M : Av) (m : Nat)  (r : Bool) (hm : law25_PropsNames m = some r) (w : World) (hS : S0 M [Ent.im (tI .u8) gl_strings_asciiSpace (Gh.mk (some ⟨0, 0, none⟩) 256 fun _ _ => .nil)] w) : Calls Tryd.prog 4 ⟨[]⟩ w (fun e w' => ∃ v, e = .returned v ∧ v = .bool r ∧ SH M (fpl [Ent.im (tI .u8) gl_strings_asciiSpace (Gh.mk (some ⟨0, 0, none⟩) 256 fun _ _ => .nil)]) w [] w') := by
  rw [law25_PropsNames] at hm
  have hS0 : SH M (fpl [Ent.im (tI .u8) gl_strings_asciiSpace (Gh.mk (some ⟨0, 0, none⟩) 256 fun _ _ => .nil)]) w [Ent.im (tI .u8) gl_strings_asciiSpace (Gh.mk (some ⟨0, 0, none⟩) 256 fun _ _ => .nil)] w := hS
  generalize hX : fpl [Ent.im (tI .u8) gl_strings_asciiSpace (Gh.mk (some ⟨0, 0, none⟩) 256 fun _ _ => .nil)] = X at hS0 ⊢
  clear hS hX
  have hS := hS0
  clear hS0
  refine calls_entryP Tryd.func4 rfl Tryd.ntmps4 rfl fun _ H => ?_
  refine s_reg [] [] [] [] H (by kernel_rfl) trivial fun _ wd1 H2 hb => ?_
  clear H
  replace hS := hS.below hb
  clear hb
  refine s_reg [] [1] [(1, [], .string ⟨⟨[45, 45]⟩⟩)] [] H2 (by kernel_rfl) trivial fun _ wd3 H4 hb => ?_
  clear H2
  replace hS := hS.below hb
  clear hb
  obtain ⟨z5, hz, hm⟩ := bindE hm
  refine w_cut (fun a' w' => Fr 178 [(1, [], .string ⟨⟨z5⟩⟩)] a' ∧ SH M X w [Ent.im (tI .u8) gl_strings_asciiSpace (Gh.mk (some ⟨0, 0, none⟩) 256 fun _ _ => .nil)] w') ?_ ?_
  · replace hm := hz
    refine s_reg [] [1, 2] [(1, [], .string ⟨⟨[45, 45]⟩⟩), (2, [], .int .i64 0)] [] H4 (by kernel_rfl) trivial fun _ wd6 H7 hb => ?_
    clear H4
    replace hS := hS.below hb
    clear hb
    refine w_block ?_
    refine w_loop (fun kk a' w' => ∃ (v8 : Str) (v9 : Int), law25_PropsNames_L1 m  kk v8 v9 = some _ ∧ Fr 178 [(1, [], .string ⟨⟨v8⟩⟩), (2, [], .int .i64 v9)] a' ∧ SH M X w [Ent.im (tI .u8) gl_strings_asciiSpace (Gh.mk (some ⟨0, 0, none⟩) 256 fun _ _ => .nil)] w') ⟨_, [45, 45], 0, hm, Fr.keep (ks := [1, 2]) H7 (by kernel_rfl), hS⟩ ?_
    clear hm H7 hS
    rintro kk _ wd17 ⟨v8, v9, hm, H, hS⟩
    cases kk with
    | zero => exact noneE hm
    | succ kk =>
      rw [law25_PropsNames_L1] at hm
      refine w_seq ?_
      refine s_reg [] [1, 2, 23] [(1, [], .string ⟨⟨v8⟩⟩), (2, [], .int .i64 v9), (23, [], .bool (decide (v9 < 62)))] [] H (by kernel_rfl) trivial fun _ wd10 H11 hb => ?_
      clear H
      replace hS := hS.below hb
      clear hb
      refine w_if H11 rfl (fun hc => ?_) (fun hc => ?_)
      · replace hm := bT hc hm
        refine w_skip ?_
        refine w_seq ?_
        refine w_block ?_
        obtain ⟨ho12, hm⟩ := chkE hm
        refine w_reg [] [1, 2] [(1, [], .string ⟨⟨v8 ++ [120]⟩⟩), (2, [], .int .i64 v9)] [fun _ => ln v8 + ln [120] ≤ 9223372036854775807] H11 (by kernel_rfl) ⟨ho12, trivial⟩ fun _ wd13 H14 hb => ?_
        clear H11
        replace hS := hS.below hb
        clear hb
        refine w_reg [] [1, 2] [(1, [], .string ⟨⟨v8 ++ [120]⟩⟩), (2, [], .int .i64 (w64 (v9 + 1)))] [] H14 (by kernel_rfl) trivial fun _ wd15 H16 hb => ?_
        clear H14
        replace hS := hS.below hb
        clear hb
        exact ⟨_, Nat.lt_succ_self _, v8 ++ [120], w64 (v9 + 1), hm, Fr.keep (ks := [1, 2]) H16 (by kernel_rfl), hS⟩
      · replace hm := bF hc hm
        refine w_exit rfl ?_
        obtain rfl := someE hm
        exact ⟨Fr.keep (ks := [1]) H11 (by kernel_rfl), hS⟩
  · rintro _ wd206 ⟨H, hS⟩
    refine w_seq ?_
    refine wl_start ?_
    refine wl_batch 0 12 [] [1, 28, 29, 30, 31, 32, 33, 34, 35, 36, 37, 39] [(1, [], .string ⟨⟨z5⟩⟩), (28, [], .agg ⟨[.int .u8 0, .string ⟨⟨[]⟩⟩, .int .i64 0, .int .u8 0, .int .u8 0, .int .u8 0, .int .u8 0]⟩), (29, [], .agg ⟨[.int .u8 9, .string ⟨⟨[]⟩⟩, .int .i64 0, .int .u8 0, .int .u8 0, .int .u8 0, .int .u8 0]⟩), (30, [], .agg ⟨[.int .u8 1, .string ⟨⟨[]⟩⟩, .int .i64 0, .int .u8 0, .int .u8 0, .int .u8 0, .int .u8 0]⟩), (31, [], .agg ⟨[.int .u8 1, .string ⟨⟨[97, 117, 116, 111]⟩⟩, .int .i64 1, .int .u8 0, .int .u8 0, .int .u8 0, .int .u8 0]⟩), (32, [], .agg ⟨[.int .u8 2, .string ⟨⟨[112, 120]⟩⟩, .int .i64 0, .int .u8 0, .int .u8 0, .int .u8 0, .int .u8 0]⟩), (33, [], .agg ⟨[.int .u8 2, .string ⟨⟨[]⟩⟩, .int .i64 1000000000001, .int .u8 0, .int .u8 0, .int .u8 0, .int .u8 0]⟩), (34, [], .agg ⟨[.int .u8 5, .string ⟨⟨[]⟩⟩, .int .i64 (-1000000000001), .int .u8 0, .int .u8 0, .int .u8 0, .int .u8 0]⟩), (35, [], .agg ⟨[.int .u8 6, .string ⟨⟨[]⟩⟩, .int .i64 1000000001, .int .u8 0, .int .u8 0, .int .u8 0, .int .u8 0]⟩), (36, [], .agg ⟨[.int .u8 6, .string ⟨⟨[]⟩⟩, .int .i64 (-9223372036854775808), .int .u8 0, .int .u8 0, .int .u8 0, .int .u8 0]⟩), (37, [], .agg ⟨[.int .u8 7, .string ⟨⟨[]⟩⟩, .int .i64 1, .int .u8 0, .int .u8 0, .int .u8 0, .int .u8 0]⟩), (39, [], .agg ⟨[.int .u8 8, .string ⟨⟨[]⟩⟩, .int .i64 0, .int .u8 1, .int .u8 0, .int .u8 0, .int .u8 0]⟩)] [] H (by decide) (by kernel_rfl) trivial fun _ wd18 H19 hb => ?_
    clear H
    replace hS := hS.below hb
    clear hb
    have hd : S0 (AvL M [Ent.im (tI .u8) gl_strings_asciiSpace (Gh.mk (some ⟨0, 0, none⟩) 256 fun _ _ => .nil)]) [] _ := hS.hand [] [0] rfl rfl
    refine m_stp [40, 1] [(1, [], .string ⟨⟨z5⟩⟩)] H19 rfl rfl rfl rfl (o_lit (T := tyVal) (E := 25) (zv := .agg ⟨[.int .u8 0, .string ⟨⟨[]⟩⟩, .int .i64 0, .int .u8 0, .int .u8 0, .int .u8 0, .int .u8 0]⟩) [.int .u8 0, .string ⟨⟨[]⟩⟩, .int .i64 0, .int .u8 0, .int .u8 0, .int .u8 0, .int .u8 0, .int .u8 9, .string ⟨⟨[]⟩⟩, .int .i64 0, .int .u8 0, .int .u8 0, .int .u8 0, .int .u8 0, .int .u8 1, .string ⟨⟨[]⟩⟩, .int .i64 0, .int .u8 0, .int .u8 0, .int .u8 0, .int .u8 0, .int .u8 1, .string ⟨⟨[97, 117, 116, 111]⟩⟩, .int .i64 1, .int .u8 0, .int .u8 0, .int .u8 0, .int .u8 0, .int .u8 2, .string ⟨⟨[112, 120]⟩⟩, .int .i64 0, .int .u8 0, .int .u8 0, .int .u8 0, .int .u8 0, .int .u8 2, .string ⟨⟨[]⟩⟩, .int .i64 1000000000001, .int .u8 0, .int .u8 0, .int .u8 0, .int .u8 0, .int .u8 5, .string ⟨⟨[]⟩⟩, .int .i64 (-1000000000001), .int .u8 0, .int .u8 0, .int .u8 0, .int .u8 0, .int .u8 6, .string ⟨⟨[]⟩⟩, .int .i64 1000000001, .int .u8 0, .int .u8 0, .int .u8 0, .int .u8 0, .int .u8 6, .string ⟨⟨[]⟩⟩, .int .i64 (-9223372036854775808), .int .u8 0, .int .u8 0, .int .u8 0, .int .u8 0, .int .u8 7, .string ⟨⟨[]⟩⟩, .int .i64 1, .int .u8 0, .int .u8 0, .int .u8 0, .int .u8 0, .int .u8 8, .string ⟨⟨[]⟩⟩, .int .i64 0, .int .u8 1, .int .u8 0, .int .u8 0, .int .u8 0] ([(TVal.mk 0 [] 0 (TColor.mk 0 0 0 0)), (TVal.mk 9 [] 0 (TColor.mk 0 0 0 0)), (TVal.mk 1 [] 0 (TColor.mk 0 0 0 0)), (TVal.mk 1 [97, 117, 116, 111] 1 (TColor.mk 0 0 0 0)), (TVal.mk 2 [112, 120] 0 (TColor.mk 0 0 0 0)), (TVal.mk 2 [] 1000000000001 (TColor.mk 0 0 0 0)), (TVal.mk 5 [] (-1000000000001) (TColor.mk 0 0 0 0)), (TVal.mk 6 [] 1000000001 (TColor.mk 0 0 0 0)), (TVal.mk 6 [] (-9223372036854775808) (TColor.mk 0 0 0 0)), (TVal.mk 7 [] 1 (TColor.mk 0 0 0 0)), (TVal.mk 8 [] 0 (TColor.mk 1 0 0 0))] : List TVal) [gL [], gL [], gL [], gL [], gL [], gL [], gL [], gL [], gL [], gL [], gL []] _ H19 hd rfl (by kernel_rfl) (by kernel_rfl) (by kernel_rfl) (by kernel_rfl) (by kernel_rfl) (by kernel_rfl) (by kernel_rfl) rfl (InnL.cons trivial (InnL.cons trivial (InnL.cons trivial (InnL.cons trivial (InnL.cons trivial (InnL.cons trivial (InnL.cons trivial (InnL.cons trivial (InnL.cons trivial (InnL.cons trivial (InnL.cons trivial InnL.nil)))))))))))) (fun _ => rfl) fun _ wd22 v H23 hq => ?_
    clear H19 hd
    obtain ⟨g20, rfl, hq⟩ := hq
    replace hS : SH M X w [Ent.own 25 tyVal ([(TVal.mk 0 [] 0 (TColor.mk 0 0 0 0)), (TVal.mk 9 [] 0 (TColor.mk 0 0 0 0)), (TVal.mk 1 [] 0 (TColor.mk 0 0 0 0)), (TVal.mk 1 [97, 117, 116, 111] 1 (TColor.mk 0 0 0 0)), (TVal.mk 2 [112, 120] 0 (TColor.mk 0 0 0 0)), (TVal.mk 2 [] 1000000000001 (TColor.mk 0 0 0 0)), (TVal.mk 5 [] (-1000000000001) (TColor.mk 0 0 0 0)), (TVal.mk 6 [] 1000000001 (TColor.mk 0 0 0 0)), (TVal.mk 6 [] (-9223372036854775808) (TColor.mk 0 0 0 0)), (TVal.mk 7 [] 1 (TColor.mk 0 0 0 0)), (TVal.mk 8 [] 0 (TColor.mk 1 0 0 0))] : List TVal) g20, Ent.im (tI .u8) gl_strings_asciiSpace (Gh.mk (some ⟨0, 0, none⟩) 256 fun _ _ => .nil)] _ := hS.join [] [0] rfl rfl hq
    clear hq
    refine wl_batch 13 14 [] [1, 3] [(1, [], .string ⟨⟨z5⟩⟩), (3, [], .slice g20.a 11 g20.c)] [] H23 (by decide) (by kernel_rfl) trivial fun _ wd24 H25 hb => ?_
    clear H23
    replace hS := hS.below hb
    clear hb
    refine wl_end rfl ?_
    obtain ⟨z26, hz, hm_z26⟩ := bindE hm
    refine w_cut (fun a' w' => ∃ s_z26 : Unit, z26 = Sum.inr s_z26 ∧ Fr 178 [(1, [], .string ⟨⟨z5⟩⟩)] a' ∧ SH M X w [Ent.own 25 tyVal ([(TVal.mk 0 [] 0 (TColor.mk 0 0 0 0)), (TVal.mk 9 [] 0 (TColor.mk 0 0 0 0)), (TVal.mk 1 [] 0 (TColor.mk 0 0 0 0)), (TVal.mk 1 [97, 117, 116, 111] 1 (TColor.mk 0 0 0 0)), (TVal.mk 2 [112, 120] 0 (TColor.mk 0 0 0 0)), (TVal.mk 2 [] 1000000000001 (TColor.mk 0 0 0 0)), (TVal.mk 5 [] (-1000000000001) (TColor.mk 0 0 0 0)), (TVal.mk 6 [] 1000000001 (TColor.mk 0 0 0 0)), (TVal.mk 6 [] (-9223372036854775808) (TColor.mk 0 0 0 0)), (TVal.mk 7 [] 1 (TColor.mk 0 0 0 0)), (TVal.mk 8 [] 0 (TColor.mk 1 0 0 0))] : List TVal) g20, Ent.im (tI .u8) gl_strings_asciiSpace (Gh.mk (some ⟨0, 0, none⟩) 256 fun _ _ => .nil)] w') ?_ ?_
    · replace hm := hz
      refine s_reg [] [1, 3, 4] [(1, [], .string ⟨⟨z5⟩⟩), (3, [], .slice g20.a 11 g20.c), (4, [], .int .i64 0)] [] H25 (by kernel_rfl) trivial fun _ wd27 H28 hb => ?_
      clear H25
      replace hS := hS.below hb
      clear hb
      refine w_block ?_
      refine w_loop (fun kk a' w' => ∃ (v29 : Int), law25_PropsNames_L2 m  kk v29 = some _ ∧ Fr 178 [(1, [], .string ⟨⟨z5⟩⟩), (3, [], .slice g20.a 11 g20.c), (4, [], .int .i64 v29)] a' ∧ SH M X w [Ent.own 25 tyVal ([(TVal.mk 0 [] 0 (TColor.mk 0 0 0 0)), (TVal.mk 9 [] 0 (TColor.mk 0 0 0 0)), (TVal.mk 1 [] 0 (TColor.mk 0 0 0 0)), (TVal.mk 1 [97, 117, 116, 111] 1 (TColor.mk 0 0 0 0)), (TVal.mk 2 [112, 120] 0 (TColor.mk 0 0 0 0)), (TVal.mk 2 [] 1000000000001 (TColor.mk 0 0 0 0)), (TVal.mk 5 [] (-1000000000001) (TColor.mk 0 0 0 0)), (TVal.mk 6 [] 1000000001 (TColor.mk 0 0 0 0)), (TVal.mk 6 [] (-9223372036854775808) (TColor.mk 0 0 0 0)), (TVal.mk 7 [] 1 (TColor.mk 0 0 0 0)), (TVal.mk 8 [] 0 (TColor.mk 1 0 0 0))] : List TVal) g20, Ent.im (tI .u8) gl_strings_asciiSpace (Gh.mk (some ⟨0, 0, none⟩) 256 fun _ _ => .nil)] w') ⟨_, 0, hm, Fr.keep (ks := [1, 3, 4]) H28 (by kernel_rfl), hS⟩ ?_
      clear hm H28 hS
      rintro kk _ wd71 ⟨v29, hm, H, hS⟩
      cases kk with
      | zero => exact noneE hm
      | succ kk =>
        rw [law25_PropsNames_L2] at hm
        refine w_seq ?_
        refine s_reg [] [1, 3, 4, 44] [(1, [], .string ⟨⟨z5⟩⟩), (3, [], .slice g20.a 11 g20.c), (4, [], .int .i64 v29), (44, [], .bool (decide (v29 < 11)))] [] H (by kernel_rfl) trivial fun _ wd30 H31 hb => ?_
        clear H
        replace hS := hS.below hb
        clear hb
        refine w_if H31 rfl (fun hc => ?_) (fun hc => ?_)
        · replace hm := bT hc hm
          refine w_skip ?_
          obtain ⟨z32, hz, hm_z32⟩ := bindE hm
          refine w_cut (fun a' w' => ∃ s_z32 : Unit, z32 = Sum.inr s_z32 ∧ Fr 178 [(1, [], .string ⟨⟨z5⟩⟩), (3, [], .slice g20.a 11 g20.c), (4, [], .int .i64 v29)] a' ∧ SH M X w [Ent.own 25 tyVal ([(TVal.mk 0 [] 0 (TColor.mk 0 0 0 0)), (TVal.mk 9 [] 0 (TColor.mk 0 0 0 0)), (TVal.mk 1 [] 0 (TColor.mk 0 0 0 0)), (TVal.mk 1 [97, 117, 116, 111] 1 (TColor.mk 0 0 0 0)), (TVal.mk 2 [112, 120] 0 (TColor.mk 0 0 0 0)), (TVal.mk 2 [] 1000000000001 (TColor.mk 0 0 0 0)), (TVal.mk 5 [] (-1000000000001) (TColor.mk 0 0 0 0)), (TVal.mk 6 [] 1000000001 (TColor.mk 0 0 0 0)), (TVal.mk 6 [] (-9223372036854775808) (TColor.mk 0 0 0 0)), (TVal.mk 7 [] 1 (TColor.mk 0 0 0 0)), (TVal.mk 8 [] 0 (TColor.mk 1 0 0 0))] : List TVal) g20, Ent.im (tI .u8) gl_strings_asciiSpace (Gh.mk (some ⟨0, 0, none⟩) 256 fun _ _ => .nil)] w') ?_ ?_
          · replace hm := hz
            refine w_block ?_
            refine w_seq ?_
            obtain ⟨ho33, hm⟩ := chkE hm
            obtain ⟨x34, hx34, hm⟩ := letE hm
            obtain ⟨x35, hx35, hm⟩ := letE hm
            obtain ⟨x36, hx36, hm⟩ := letE hm
            obtain ⟨x37, hx37, hm⟩ := letE hm
            obtain ⟨x38, hx38, hm⟩ := letE hm
            obtain ⟨x39, hx39, hm⟩ := letE hm
            obtain ⟨x40, hx40, hm⟩ := letE hm
            obtain ⟨y41, hy41, hm⟩ := bindE hm
            refine s_reg [(.agg ⟨[.int .u8 ((gi ([(TVal.mk 0 [] 0 (TColor.mk 0 0 0 0)), (TVal.mk 9 [] 0 (TColor.mk 0 0 0 0)), (TVal.mk 1 [] 0 (TColor.mk 0 0 0 0)), (TVal.mk 1 [97, 117, 116, 111] 1 (TColor.mk 0 0 0 0)), (TVal.mk 2 [112, 120] 0 (TColor.mk 0 0 0 0)), (TVal.mk 2 [] 1000000000001 (TColor.mk 0 0 0 0)), (TVal.mk 5 [] (-1000000000001) (TColor.mk 0 0 0 0)), (TVal.mk 6 [] 1000000001 (TColor.mk 0 0 0 0)), (TVal.mk 6 [] (-9223372036854775808) (TColor.mk 0 0 0 0)), (TVal.mk 7 [] 1 (TColor.mk 0 0 0 0)), (TVal.mk 8 [] 0 (TColor.mk 1 0 0 0))] : List TVal) v29).Kind), .string ⟨⟨(gi ([(TVal.mk 0 [] 0 (TColor.mk 0 0 0 0)), (TVal.mk 9 [] 0 (TColor.mk 0 0 0 0)), (TVal.mk 1 [] 0 (TColor.mk 0 0 0 0)), (TVal.mk 1 [97, 117, 116, 111] 1 (TColor.mk 0 0 0 0)), (TVal.mk 2 [112, 120] 0 (TColor.mk 0 0 0 0)), (TVal.mk 2 [] 1000000000001 (TColor.mk 0 0 0 0)), (TVal.mk 5 [] (-1000000000001) (TColor.mk 0 0 0 0)), (TVal.mk 6 [] 1000000001 (TColor.mk 0 0 0 0)), (TVal.mk 6 [] (-9223372036854775808) (TColor.mk 0 0 0 0)), (TVal.mk 7 [] 1 (TColor.mk 0 0 0 0)), (TVal.mk 8 [] 0 (TColor.mk 1 0 0 0))] : List TVal) v29).Word⟩⟩, .int .i64 ((gi ([(TVal.mk 0 [] 0 (TColor.mk 0 0 0 0)), (TVal.mk 9 [] 0 (TColor.mk 0 0 0 0)), (TVal.mk 1 [] 0 (TColor.mk 0 0 0 0)), (TVal.mk 1 [97, 117, 116, 111] 1 (TColor.mk 0 0 0 0)), (TVal.mk 2 [112, 120] 0 (TColor.mk 0 0 0 0)), (TVal.mk 2 [] 1000000000001 (TColor.mk 0 0 0 0)), (TVal.mk 5 [] (-1000000000001) (TColor.mk 0 0 0 0)), (TVal.mk 6 [] 1000000001 (TColor.mk 0 0 0 0)), (TVal.mk 6 [] (-9223372036854775808) (TColor.mk 0 0 0 0)), (TVal.mk 7 [] 1 (TColor.mk 0 0 0 0)), (TVal.mk 8 [] 0 (TColor.mk 1 0 0 0))] : List TVal) v29).Num), .int .u8 ((gi ([(TVal.mk 0 [] 0 (TColor.mk 0 0 0 0)), (TVal.mk 9 [] 0 (TColor.mk 0 0 0 0)), (TVal.mk 1 [] 0 (TColor.mk 0 0 0 0)), (TVal.mk 1 [97, 117, 116, 111] 1 (TColor.mk 0 0 0 0)), (TVal.mk 2 [112, 120] 0 (TColor.mk 0 0 0 0)), (TVal.mk 2 [] 1000000000001 (TColor.mk 0 0 0 0)), (TVal.mk 5 [] (-1000000000001) (TColor.mk 0 0 0 0)), (TVal.mk 6 [] 1000000001 (TColor.mk 0 0 0 0)), (TVal.mk 6 [] (-9223372036854775808) (TColor.mk 0 0 0 0)), (TVal.mk 7 [] 1 (TColor.mk 0 0 0 0)), (TVal.mk 8 [] 0 (TColor.mk 1 0 0 0))] : List TVal) v29).Color.Red), .int .u8 ((gi ([(TVal.mk 0 [] 0 (TColor.mk 0 0 0 0)), (TVal.mk 9 [] 0 (TColor.mk 0 0 0 0)), (TVal.mk 1 [] 0 (TColor.mk 0 0 0 0)), (TVal.mk 1 [97, 117, 116, 111] 1 (TColor.mk 0 0 0 0)), (TVal.mk 2 [112, 120] 0 (TColor.mk 0 0 0 0)), (TVal.mk 2 [] 1000000000001 (TColor.mk 0 0 0 0)), (TVal.mk 5 [] (-1000000000001) (TColor.mk 0 0 0 0)), (TVal.mk 6 [] 1000000001 (TColor.mk 0 0 0 0)), (TVal.mk 6 [] (-9223372036854775808) (TColor.mk 0 0 0 0)), (TVal.mk 7 [] 1 (TColor.mk 0 0 0 0)), (TVal.mk 8 [] 0 (TColor.mk 1 0 0 0))] : List TVal) v29).Color.Green), .int .u8 ((gi ([(TVal.mk 0 [] 0 (TColor.mk 0 0 0 0)), (TVal.mk 9 [] 0 (TColor.mk 0 0 0 0)), (TVal.mk 1 [] 0 (TColor.mk 0 0 0 0)), (TVal.mk 1 [97, 117, 116, 111] 1 (TColor.mk 0 0 0 0)), (TVal.mk 2 [112, 120] 0 (TColor.mk 0 0 0 0)), (TVal.mk 2 [] 1000000000001 (TColor.mk 0 0 0 0)), (TVal.mk 5 [] (-1000000000001) (TColor.mk 0 0 0 0)), (TVal.mk 6 [] 1000000001 (TColor.mk 0 0 0 0)), (TVal.mk 6 [] (-9223372036854775808) (TColor.mk 0 0 0 0)), (TVal.mk 7 [] 1 (TColor.mk 0 0 0 0)), (TVal.mk 8 [] 0 (TColor.mk 1 0 0 0))] : List TVal) v29).Color.Blue), .int .u8 ((gi ([(TVal.mk 0 [] 0 (TColor.mk 0 0 0 0)), (TVal.mk 9 [] 0 (TColor.mk 0 0 0 0)), (TVal.mk 1 [] 0 (TColor.mk 0 0 0 0)), (TVal.mk 1 [97, 117, 116, 111] 1 (TColor.mk 0 0 0 0)), (TVal.mk 2 [112, 120] 0 (TColor.mk 0 0 0 0)), (TVal.mk 2 [] 1000000000001 (TColor.mk 0 0 0 0)), (TVal.mk 5 [] (-1000000000001) (TColor.mk 0 0 0 0)), (TVal.mk 6 [] 1000000001 (TColor.mk 0 0 0 0)), (TVal.mk 6 [] (-9223372036854775808) (TColor.mk 0 0 0 0)), (TVal.mk 7 [] 1 (TColor.mk 0 0 0 0)), (TVal.mk 8 [] 0 (TColor.mk 1 0 0 0))] : List TVal) v29).Color.Alpha)]⟩), (.int .i64 y41)] [1, 3, 4, 52] [(1, [], .string ⟨⟨z5⟩⟩), (3, [], .slice g20.a 11 g20.c), (4, [], .int .i64 v29), (52, [], .bool (y41 != 8))] [fun _ => oka g20.a ∧ 0 ≤ v29 ∧ v29 < ln ([(TVal.mk 0 [] 0 (TColor.mk 0 0 0 0)), (TVal.mk 9 [] 0 (TColor.mk 0 0 0 0)), (TVal.mk 1 [] 0 (TColor.mk 0 0 0 0)), (TVal.mk 1 [97, 117, 116, 111] 1 (TColor.mk 0 0 0 0)), (TVal.mk 2 [112, 120] 0 (TColor.mk 0 0 0 0)), (TVal.mk 2 [] 1000000000001 (TColor.mk 0 0 0 0)), (TVal.mk 5 [] (-1000000000001) (TColor.mk 0 0 0 0)), (TVal.mk 6 [] 1000000001 (TColor.mk 0 0 0 0)), (TVal.mk 6 [] (-9223372036854775808) (TColor.mk 0 0 0 0)), (TVal.mk 7 [] 1 (TColor.mk 0 0 0 0)), (TVal.mk 8 [] 0 (TColor.mk 1 0 0 0))] : List TVal), fun wz => V.atN (ab g20.a) (ao g20.a + (v29).toNat * 7) [.int .u8 ((gi ([(TVal.mk 0 [] 0 (TColor.mk 0 0 0 0)), (TVal.mk 9 [] 0 (TColor.mk 0 0 0 0)), (TVal.mk 1 [] 0 (TColor.mk 0 0 0 0)), (TVal.mk 1 [97, 117, 116, 111] 1 (TColor.mk 0 0 0 0)), (TVal.mk 2 [112, 120] 0 (TColor.mk 0 0 0 0)), (TVal.mk 2 [] 1000000000001 (TColor.mk 0 0 0 0)), (TVal.mk 5 [] (-1000000000001) (TColor.mk 0 0 0 0)), (TVal.mk 6 [] 1000000001 (TColor.mk 0 0 0 0)), (TVal.mk 6 [] (-9223372036854775808) (TColor.mk 0 0 0 0)), (TVal.mk 7 [] 1 (TColor.mk 0 0 0 0)), (TVal.mk 8 [] 0 (TColor.mk 1 0 0 0))] : List TVal) v29).Kind), .string ⟨⟨(gi ([(TVal.mk 0 [] 0 (TColor.mk 0 0 0 0)), (TVal.mk 9 [] 0 (TColor.mk 0 0 0 0)), (TVal.mk 1 [] 0 (TColor.mk 0 0 0 0)), (TVal.mk 1 [97, 117, 116, 111] 1 (TColor.mk 0 0 0 0)), (TVal.mk 2 [112, 120] 0 (TColor.mk 0 0 0 0)), (TVal.mk 2 [] 1000000000001 (TColor.mk 0 0 0 0)), (TVal.mk 5 [] (-1000000000001) (TColor.mk 0 0 0 0)), (TVal.mk 6 [] 1000000001 (TColor.mk 0 0 0 0)), (TVal.mk 6 [] (-9223372036854775808) (TColor.mk 0 0 0 0)), (TVal.mk 7 [] 1 (TColor.mk 0 0 0 0)), (TVal.mk 8 [] 0 (TColor.mk 1 0 0 0))] : List TVal) v29).Word⟩⟩, .int .i64 ((gi ([(TVal.mk 0 [] 0 (TColor.mk 0 0 0 0)), (TVal.mk 9 [] 0 (TColor.mk 0 0 0 0)), (TVal.mk 1 [] 0 (TColor.mk 0 0 0 0)), (TVal.mk 1 [97, 117, 116, 111] 1 (TColor.mk 0 0 0 0)), (TVal.mk 2 [112, 120] 0 (TColor.mk 0 0 0 0)), (TVal.mk 2 [] 1000000000001 (TColor.mk 0 0 0 0)), (TVal.mk 5 [] (-1000000000001) (TColor.mk 0 0 0 0)), (TVal.mk 6 [] 1000000001 (TColor.mk 0 0 0 0)), (TVal.mk 6 [] (-9223372036854775808) (TColor.mk 0 0 0 0)), (TVal.mk 7 [] 1 (TColor.mk 0 0 0 0)), (TVal.mk 8 [] 0 (TColor.mk 1 0 0 0))] : List TVal) v29).Num), .int .u8 ((gi ([(TVal.mk 0 [] 0 (TColor.mk 0 0 0 0)), (TVal.mk 9 [] 0 (TColor.mk 0 0 0 0)), (TVal.mk 1 [] 0 (TColor.mk 0 0 0 0)), (TVal.mk 1 [97, 117, 116, 111] 1 (TColor.mk 0 0 0 0)), (TVal.mk 2 [112, 120] 0 (TColor.mk 0 0 0 0)), (TVal.mk 2 [] 1000000000001 (TColor.mk 0 0 0 0)), (TVal.mk 5 [] (-1000000000001) (TColor.mk 0 0 0 0)), (TVal.mk 6 [] 1000000001 (TColor.mk 0 0 0 0)), (TVal.mk 6 [] (-9223372036854775808) (TColor.mk 0 0 0 0)), (TVal.mk 7 [] 1 (TColor.mk 0 0 0 0)), (TVal.mk 8 [] 0 (TColor.mk 1 0 0 0))] : List TVal) v29).Color.Red), .int .u8 ((gi ([(TVal.mk 0 [] 0 (TColor.mk 0 0 0 0)), (TVal.mk 9 [] 0 (TColor.mk 0 0 0 0)), (TVal.mk 1 [] 0 (TColor.mk 0 0 0 0)), (TVal.mk 1 [97, 117, 116, 111] 1 (TColor.mk 0 0 0 0)), (TVal.mk 2 [112, 120] 0 (TColor.mk 0 0 0 0)), (TVal.mk 2 [] 1000000000001 (TColor.mk 0 0 0 0)), (TVal.mk 5 [] (-1000000000001) (TColor.mk 0 0 0 0)), (TVal.mk 6 [] 1000000001 (TColor.mk 0 0 0 0)), (TVal.mk 6 [] (-9223372036854775808) (TColor.mk 0 0 0 0)), (TVal.mk 7 [] 1 (TColor.mk 0 0 0 0)), (TVal.mk 8 [] 0 (TColor.mk 1 0 0 0))] : List TVal) v29).Color.Green), .int .u8 ((gi ([(TVal.mk 0 [] 0 (TColor.mk 0 0 0 0)), (TVal.mk 9 [] 0 (TColor.mk 0 0 0 0)), (TVal.mk 1 [] 0 (TColor.mk 0 0 0 0)), (TVal.mk 1 [97, 117, 116, 111] 1 (TColor.mk 0 0 0 0)), (TVal.mk 2 [112, 120] 0 (TColor.mk 0 0 0 0)), (TVal.mk 2 [] 1000000000001 (TColor.mk 0 0 0 0)), (TVal.mk 5 [] (-1000000000001) (TColor.mk 0 0 0 0)), (TVal.mk 6 [] 1000000001 (TColor.mk 0 0 0 0)), (TVal.mk 6 [] (-9223372036854775808) (TColor.mk 0 0 0 0)), (TVal.mk 7 [] 1 (TColor.mk 0 0 0 0)), (TVal.mk 8 [] 0 (TColor.mk 1 0 0 0))] : List TVal) v29).Color.Blue), .int .u8 ((gi ([(TVal.mk 0 [] 0 (TColor.mk 0 0 0 0)), (TVal.mk 9 [] 0 (TColor.mk 0 0 0 0)), (TVal.mk 1 [] 0 (TColor.mk 0 0 0 0)), (TVal.mk 1 [97, 117, 116, 111] 1 (TColor.mk 0 0 0 0)), (TVal.mk 2 [112, 120] 0 (TColor.mk 0 0 0 0)), (TVal.mk 2 [] 1000000000001 (TColor.mk 0 0 0 0)), (TVal.mk 5 [] (-1000000000001) (TColor.mk 0 0 0 0)), (TVal.mk 6 [] 1000000001 (TColor.mk 0 0 0 0)), (TVal.mk 6 [] (-9223372036854775808) (TColor.mk 0 0 0 0)), (TVal.mk 7 [] 1 (TColor.mk 0 0 0 0)), (TVal.mk 8 [] 0 (TColor.mk 1 0 0 0))] : List TVal) v29).Color.Alpha)] 0 wz, fun wz => RetB Tryd.prog 17 ⟨[.agg ⟨[.int .u8 x34, .string ⟨⟨x35⟩⟩, .int .i64 x36, .int .u8 x37, .int .u8 x38, .int .u8 x39, .int .u8 x40]⟩]⟩ (.int .i64 y41) wz] H31 (by subst hx34 hx35 hx36 hx37 hx38 hx39 hx40; kernel_rfl) ⟨((hS.osl 0 rfl).oki ho33), ((hS.osl 0 rfl).atA ho33 0 rfl), ((props_Check_ok _ _ hy41).b), trivial⟩ fun _ wd42 H43 hb => ?_
            clear H31
            replace hS := hS.below hb
            clear hb
            refine w_if H43 rfl (fun hc => ?_) (fun hc => ?_)
            · replace hm := bT hc hm
              refine s_reg [] [0] [(0, [], .bool false)] [] H43 (by kernel_rfl) trivial fun _ wd44 H45 hb => ?_
              clear H43
              replace hS := hS.below hb
              clear hb
              refine w_ret ?_
              obtain rfl := someE hm
              have hm := hm_z32
              obtain rfl := someE hm
              have hm := hm_z26
              obtain rfl := someE hm
              exact retR1 H45 rfl rfl ⟨_, rfl, rfl, (hS.sel [] rfl)⟩
            · replace hm := bF hc hm
              refine w_skip ?_
              refine s_reg [] [1, 3, 4, 5] [(1, [], .string ⟨⟨z5⟩⟩), (3, [], .slice g20.a 11 g20.c), (4, [], .int .i64 v29), (5, [], .int .i64 0)] [] H43 (by kernel_rfl) trivial fun _ wd46 H47 hb => ?_
              clear H43
              replace hS := hS.below hb
              clear hb
              refine w_block ?_
              refine w_loop (fun kk a' w' => ∃ (v48 : Int), law25_PropsNames_L3 m v29 kk v48 = some _ ∧ Fr 178 [(1, [], .string ⟨⟨z5⟩⟩), (3, [], .slice g20.a 11 g20.c), (4, [], .int .i64 v29), (5, [], .int .i64 v48)] a' ∧ SH M X w [Ent.own 25 tyVal ([(TVal.mk 0 [] 0 (TColor.mk 0 0 0 0)), (TVal.mk 9 [] 0 (TColor.mk 0 0 0 0)), (TVal.mk 1 [] 0 (TColor.mk 0 0 0 0)), (TVal.mk 1 [97, 117, 116, 111] 1 (TColor.mk 0 0 0 0)), (TVal.mk 2 [112, 120] 0 (TColor.mk 0 0 0 0)), (TVal.mk 2 [] 1000000000001 (TColor.mk 0 0 0 0)), (TVal.mk 5 [] (-1000000000001) (TColor.mk 0 0 0 0)), (TVal.mk 6 [] 1000000001 (TColor.mk 0 0 0 0)), (TVal.mk 6 [] (-9223372036854775808) (TColor.mk 0 0 0 0)), (TVal.mk 7 [] 1 (TColor.mk 0 0 0 0)), (TVal.mk 8 [] 0 (TColor.mk 1 0 0 0))] : List TVal) g20, Ent.im (tI .u8) gl_strings_asciiSpace (Gh.mk (some ⟨0, 0, none⟩) 256 fun _ _ => .nil)] w') ⟨_, 0, hm, Fr.keep (ks := [1, 3, 4, 5]) H47 (by kernel_rfl), hS⟩ ?_
              clear hm H47 hS
              rintro kk _ wd67 ⟨v48, hm, H, hS⟩
              cases kk with
              | zero => exact noneE hm
              | succ kk =>
                rw [law25_PropsNames_L3] at hm
                refine w_seq ?_
                refine s_reg [] [1, 3, 4, 5, 54] [(1, [], .string ⟨⟨z5⟩⟩), (3, [], .slice g20.a 11 g20.c), (4, [], .int .i64 v29), (5, [], .int .i64 v48), (54, [], .bool (decide (v48 < 18)))] [] H (by kernel_rfl) trivial fun _ wd49 H50 hb => ?_
                clear H
                replace hS := hS.below hb
                clear hb
                refine w_if H50 rfl (fun hc => ?_) (fun hc => ?_)
                · replace hm := bT hc hm
                  refine w_skip ?_
                  refine w_seq ?_
                  refine w_block ?_
                  obtain ⟨x51, hx51, hm⟩ := letE hm
                  obtain ⟨x52, hx52, hm⟩ := letE hm
                  obtain ⟨x53, hx53, hm⟩ := letE hm
                  obtain ⟨x54, hx54, hm⟩ := letE hm
                  obtain ⟨x55, hx55, hm⟩ := letE hm
                  obtain ⟨x56, hx56, hm⟩ := letE hm
                  obtain ⟨x57, hx57, hm⟩ := letE hm
                  obtain ⟨y58, hy58, hm⟩ := bindE hm
                  refine s_reg [(.agg ⟨[.int .u8 ((gi ([(TVal.mk 0 [] 0 (TColor.mk 0 0 0 0)), (TVal.mk 9 [] 0 (TColor.mk 0 0 0 0)), (TVal.mk 1 [] 0 (TColor.mk 0 0 0 0)), (TVal.mk 1 [97, 117, 116, 111] 1 (TColor.mk 0 0 0 0)), (TVal.mk 2 [112, 120] 0 (TColor.mk 0 0 0 0)), (TVal.mk 2 [] 1000000000001 (TColor.mk 0 0 0 0)), (TVal.mk 5 [] (-1000000000001) (TColor.mk 0 0 0 0)), (TVal.mk 6 [] 1000000001 (TColor.mk 0 0 0 0)), (TVal.mk 6 [] (-9223372036854775808) (TColor.mk 0 0 0 0)), (TVal.mk 7 [] 1 (TColor.mk 0 0 0 0)), (TVal.mk 8 [] 0 (TColor.mk 1 0 0 0))] : List TVal) v29).Kind), .string ⟨⟨(gi ([(TVal.mk 0 [] 0 (TColor.mk 0 0 0 0)), (TVal.mk 9 [] 0 (TColor.mk 0 0 0 0)), (TVal.mk 1 [] 0 (TColor.mk 0 0 0 0)), (TVal.mk 1 [97, 117, 116, 111] 1 (TColor.mk 0 0 0 0)), (TVal.mk 2 [112, 120] 0 (TColor.mk 0 0 0 0)), (TVal.mk 2 [] 1000000000001 (TColor.mk 0 0 0 0)), (TVal.mk 5 [] (-1000000000001) (TColor.mk 0 0 0 0)), (TVal.mk 6 [] 1000000001 (TColor.mk 0 0 0 0)), (TVal.mk 6 [] (-9223372036854775808) (TColor.mk 0 0 0 0)), (TVal.mk 7 [] 1 (TColor.mk 0 0 0 0)), (TVal.mk 8 [] 0 (TColor.mk 1 0 0 0))] : List TVal) v29).Word⟩⟩, .int .i64 ((gi ([(TVal.mk 0 [] 0 (TColor.mk 0 0 0 0)), (TVal.mk 9 [] 0 (TColor.mk 0 0 0 0)), (TVal.mk 1 [] 0 (TColor.mk 0 0 0 0)), (TVal.mk 1 [97, 117, 116, 111] 1 (TColor.mk 0 0 0 0)), (TVal.mk 2 [112, 120] 0 (TColor.mk 0 0 0 0)), (TVal.mk 2 [] 1000000000001 (TColor.mk 0 0 0 0)), (TVal.mk 5 [] (-1000000000001) (TColor.mk 0 0 0 0)), (TVal.mk 6 [] 1000000001 (TColor.mk 0 0 0 0)), (TVal.mk 6 [] (-9223372036854775808) (TColor.mk 0 0 0 0)), (TVal.mk 7 [] 1 (TColor.mk 0 0 0 0)), (TVal.mk 8 [] 0 (TColor.mk 1 0 0 0))] : List TVal) v29).Num), .int .u8 ((gi ([(TVal.mk 0 [] 0 (TColor.mk 0 0 0 0)), (TVal.mk 9 [] 0 (TColor.mk 0 0 0 0)), (TVal.mk 1 [] 0 (TColor.mk 0 0 0 0)), (TVal.mk 1 [97, 117, 116, 111] 1 (TColor.mk 0 0 0 0)), (TVal.mk 2 [112, 120] 0 (TColor.mk 0 0 0 0)), (TVal.mk 2 [] 1000000000001 (TColor.mk 0 0 0 0)), (TVal.mk 5 [] (-1000000000001) (TColor.mk 0 0 0 0)), (TVal.mk 6 [] 1000000001 (TColor.mk 0 0 0 0)), (TVal.mk 6 [] (-9223372036854775808) (TColor.mk 0 0 0 0)), (TVal.mk 7 [] 1 (TColor.mk 0 0 0 0)), (TVal.mk 8 [] 0 (TColor.mk 1 0 0 0))] : List TVal) v29).Color.Red), .int .u8 ((gi ([(TVal.mk 0 [] 0 (TColor.mk 0 0 0 0)), (TVal.mk 9 [] 0 (TColor.mk 0 0 0 0)), (TVal.mk 1 [] 0 (TColor.mk 0 0 0 0)), (TVal.mk 1 [97, 117, 116, 111] 1 (TColor.mk 0 0 0 0)), (TVal.mk 2 [112, 120] 0 (TColor.mk 0 0 0 0)), (TVal.mk 2 [] 1000000000001 (TColor.mk 0 0 0 0)), (TVal.mk 5 [] (-1000000000001) (TColor.mk 0 0 0 0)), (TVal.mk 6 [] 1000000001 (TColor.mk 0 0 0 0)), (TVal.mk 6 [] (-9223372036854775808) (TColor.mk 0 0 0 0)), (TVal.mk 7 [] 1 (TColor.mk 0 0 0 0)), (TVal.mk 8 [] 0 (TColor.mk 1 0 0 0))] : List TVal) v29).Color.Green), .int .u8 ((gi ([(TVal.mk 0 [] 0 (TColor.mk 0 0 0 0)), (TVal.mk 9 [] 0 (TColor.mk 0 0 0 0)), (TVal.mk 1 [] 0 (TColor.mk 0 0 0 0)), (TVal.mk 1 [97, 117, 116, 111] 1 (TColor.mk 0 0 0 0)), (TVal.mk 2 [112, 120] 0 (TColor.mk 0 0 0 0)), (TVal.mk 2 [] 1000000000001 (TColor.mk 0 0 0 0)), (TVal.mk 5 [] (-1000000000001) (TColor.mk 0 0 0 0)), (TVal.mk 6 [] 1000000001 (TColor.mk 0 0 0 0)), (TVal.mk 6 [] (-9223372036854775808) (TColor.mk 0 0 0 0)), (TVal.mk 7 [] 1 (TColor.mk 0 0 0 0)), (TVal.mk 8 [] 0 (TColor.mk 1 0 0 0))] : List TVal) v29).Color.Blue), .int .u8 ((gi ([(TVal.mk 0 [] 0 (TColor.mk 0 0 0 0)), (TVal.mk 9 [] 0 (TColor.mk 0 0 0 0)), (TVal.mk 1 [] 0 (TColor.mk 0 0 0 0)), (TVal.mk 1 [97, 117, 116, 111] 1 (TColor.mk 0 0 0 0)), (TVal.mk 2 [112, 120] 0 (TColor.mk 0 0 0 0)), (TVal.mk 2 [] 1000000000001 (TColor.mk 0 0 0 0)), (TVal.mk 5 [] (-1000000000001) (TColor.mk 0 0 0 0)), (TVal.mk 6 [] 1000000001 (TColor.mk 0 0 0 0)), (TVal.mk 6 [] (-9223372036854775808) (TColor.mk 0 0 0 0)), (TVal.mk 7 [] 1 (TColor.mk 0 0 0 0)), (TVal.mk 8 [] 0 (TColor.mk 1 0 0 0))] : List TVal) v29).Color.Alpha)]⟩), (.tuple ⟨[.bool y58.1, .int .i64 y58.2]⟩)] [1, 3, 4, 5, 6, 7] [(1, [], .string ⟨⟨z5⟩⟩), (3, [], .slice g20.a 11 g20.c), (4, [], .int .i64 v29), (5, [], .int .i64 v48), (6, [], .bool y58.1), (7, [], .int .i64 y58.2)] [fun _ => oka g20.a ∧ 0 ≤ v29 ∧ v29 < ln ([(TVal.mk 0 [] 0 (TColor.mk 0 0 0 0)), (TVal.mk 9 [] 0 (TColor.mk 0 0 0 0)), (TVal.mk 1 [] 0 (TColor.mk 0 0 0 0)), (TVal.mk 1 [97, 117, 116, 111] 1 (TColor.mk 0 0 0 0)), (TVal.mk 2 [112, 120] 0 (TColor.mk 0 0 0 0)), (TVal.mk 2 [] 1000000000001 (TColor.mk 0 0 0 0)), (TVal.mk 5 [] (-1000000000001) (TColor.mk 0 0 0 0)), (TVal.mk 6 [] 1000000001 (TColor.mk 0 0 0 0)), (TVal.mk 6 [] (-9223372036854775808) (TColor.mk 0 0 0 0)), (TVal.mk 7 [] 1 (TColor.mk 0 0 0 0)), (TVal.mk 8 [] 0 (TColor.mk 1 0 0 0))] : List TVal), fun wz => V.atN (ab g20.a) (ao g20.a + (v29).toNat * 7) [.int .u8 ((gi ([(TVal.mk 0 [] 0 (TColor.mk 0 0 0 0)), (TVal.mk 9 [] 0 (TColor.mk 0 0 0 0)), (TVal.mk 1 [] 0 (TColor.mk 0 0 0 0)), (TVal.mk 1 [97, 117, 116, 111] 1 (TColor.mk 0 0 0 0)), (TVal.mk 2 [112, 120] 0 (TColor.mk 0 0 0 0)), (TVal.mk 2 [] 1000000000001 (TColor.mk 0 0 0 0)), (TVal.mk 5 [] (-1000000000001) (TColor.mk 0 0 0 0)), (TVal.mk 6 [] 1000000001 (TColor.mk 0 0 0 0)), (TVal.mk 6 [] (-9223372036854775808) (TColor.mk 0 0 0 0)), (TVal.mk 7 [] 1 (TColor.mk 0 0 0 0)), (TVal.mk 8 [] 0 (TColor.mk 1 0 0 0))] : List TVal) v29).Kind), .string ⟨⟨(gi ([(TVal.mk 0 [] 0 (TColor.mk 0 0 0 0)), (TVal.mk 9 [] 0 (TColor.mk 0 0 0 0)), (TVal.mk 1 [] 0 (TColor.mk 0 0 0 0)), (TVal.mk 1 [97, 117, 116, 111] 1 (TColor.mk 0 0 0 0)), (TVal.mk 2 [112, 120] 0 (TColor.mk 0 0 0 0)), (TVal.mk 2 [] 1000000000001 (TColor.mk 0 0 0 0)), (TVal.mk 5 [] (-1000000000001) (TColor.mk 0 0 0 0)), (TVal.mk 6 [] 1000000001 (TColor.mk 0 0 0 0)), (TVal.mk 6 [] (-9223372036854775808) (TColor.mk 0 0 0 0)), (TVal.mk 7 [] 1 (TColor.mk 0 0 0 0)), (TVal.mk 8 [] 0 (TColor.mk 1 0 0 0))] : List TVal) v29).Word⟩⟩, .int .i64 ((gi ([(TVal.mk 0 [] 0 (TColor.mk 0 0 0 0)), (TVal.mk 9 [] 0 (TColor.mk 0 0 0 0)), (TVal.mk 1 [] 0 (TColor.mk 0 0 0 0)), (TVal.mk 1 [97, 117, 116, 111] 1 (TColor.mk 0 0 0 0)), (TVal.mk 2 [112, 120] 0 (TColor.mk 0 0 0 0)), (TVal.mk 2 [] 1000000000001 (TColor.mk 0 0 0 0)), (TVal.mk 5 [] (-1000000000001) (TColor.mk 0 0 0 0)), (TVal.mk 6 [] 1000000001 (TColor.mk 0 0 0 0)), (TVal.mk 6 [] (-9223372036854775808) (TColor.mk 0 0 0 0)), (TVal.mk 7 [] 1 (TColor.mk 0 0 0 0)), (TVal.mk 8 [] 0 (TColor.mk 1 0 0 0))] : List TVal) v29).Num), .int .u8 ((gi ([(TVal.mk 0 [] 0 (TColor.mk 0 0 0 0)), (TVal.mk 9 [] 0 (TColor.mk 0 0 0 0)), (TVal.mk 1 [] 0 (TColor.mk 0 0 0 0)), (TVal.mk 1 [97, 117, 116, 111] 1 (TColor.mk 0 0 0 0)), (TVal.mk 2 [112, 120] 0 (TColor.mk 0 0 0 0)), (TVal.mk 2 [] 1000000000001 (TColor.mk 0 0 0 0)), (TVal.mk 5 [] (-1000000000001) (TColor.mk 0 0 0 0)), (TVal.mk 6 [] 1000000001 (TColor.mk 0 0 0 0)), (TVal.mk 6 [] (-9223372036854775808) (TColor.mk 0 0 0 0)), (TVal.mk 7 [] 1 (TColor.mk 0 0 0 0)), (TVal.mk 8 [] 0 (TColor.mk 1 0 0 0))] : List TVal) v29).Color.Red), .int .u8 ((gi ([(TVal.mk 0 [] 0 (TColor.mk 0 0 0 0)), (TVal.mk 9 [] 0 (TColor.mk 0 0 0 0)), (TVal.mk 1 [] 0 (TColor.mk 0 0 0 0)), (TVal.mk 1 [97, 117, 116, 111] 1 (TColor.mk 0 0 0 0)), (TVal.mk 2 [112, 120] 0 (TColor.mk 0 0 0 0)), (TVal.mk 2 [] 1000000000001 (TColor.mk 0 0 0 0)), (TVal.mk 5 [] (-1000000000001) (TColor.mk 0 0 0 0)), (TVal.mk 6 [] 1000000001 (TColor.mk 0 0 0 0)), (TVal.mk 6 [] (-9223372036854775808) (TColor.mk 0 0 0 0)), (TVal.mk 7 [] 1 (TColor.mk 0 0 0 0)), (TVal.mk 8 [] 0 (TColor.mk 1 0 0 0))] : List TVal) v29).Color.Green), .int .u8 ((gi ([(TVal.mk 0 [] 0 (TColor.mk 0 0 0 0)), (TVal.mk 9 [] 0 (TColor.mk 0 0 0 0)), (TVal.mk 1 [] 0 (TColor.mk 0 0 0 0)), (TVal.mk 1 [97, 117, 116, 111] 1 (TColor.mk 0 0 0 0)), (TVal.mk 2 [112, 120] 0 (TColor.mk 0 0 0 0)), (TVal.mk 2 [] 1000000000001 (TColor.mk 0 0 0 0)), (TVal.mk 5 [] (-1000000000001) (TColor.mk 0 0 0 0)), (TVal.mk 6 [] 1000000001 (TColor.mk 0 0 0 0)), (TVal.mk 6 [] (-9223372036854775808) (TColor.mk 0 0 0 0)), (TVal.mk 7 [] 1 (TColor.mk 0 0 0 0)), (TVal.mk 8 [] 0 (TColor.mk 1 0 0 0))] : List TVal) v29).Color.Blue), .int .u8 ((gi ([(TVal.mk 0 [] 0 (TColor.mk 0 0 0 0)), (TVal.mk 9 [] 0 (TColor.mk 0 0 0 0)), (TVal.mk 1 [] 0 (TColor.mk 0 0 0 0)), (TVal.mk 1 [97, 117, 116, 111] 1 (TColor.mk 0 0 0 0)), (TVal.mk 2 [112, 120] 0 (TColor.mk 0 0 0 0)), (TVal.mk 2 [] 1000000000001 (TColor.mk 0 0 0 0)), (TVal.mk 5 [] (-1000000000001) (TColor.mk 0 0 0 0)), (TVal.mk 6 [] 1000000001 (TColor.mk 0 0 0 0)), (TVal.mk 6 [] (-9223372036854775808) (TColor.mk 0 0 0 0)), (TVal.mk 7 [] 1 (TColor.mk 0 0 0 0)), (TVal.mk 8 [] 0 (TColor.mk 1 0 0 0))] : List TVal) v29).Color.Alpha)] 0 wz, fun wz => RetB Tryd.prog 13 ⟨[.int .i64 v48, .agg ⟨[.int .u8 x51, .string ⟨⟨x52⟩⟩, .int .i64 x53, .int .u8 x54, .int .u8 x55, .int .u8 x56, .int .u8 x57]⟩]⟩ (.tuple ⟨[.bool y58.1, .int .i64 y58.2]⟩) wz] H50 (by subst hx51 hx52 hx53 hx54 hx55 hx56 hx57; kernel_rfl) ⟨((hS.osl 0 rfl).oki ho33), ((hS.osl 0 rfl).atA ho33 0 rfl), (props_Has_ok m _ _ _ hy58 _ (s0im s0nil (hS.im 1 rfl))), trivial⟩ fun _ wd59 H60 hb => ?_
                  clear H50
                  replace hS := hS.below hb
                  clear hb
                  refine s_reg [] [1, 3, 4, 5, 70] [(1, [], .string ⟨⟨z5⟩⟩), (3, [], .slice g20.a 11 g20.c), (4, [], .int .i64 v29), (5, [], .int .i64 v48), (70, [], .bool (cond y58.1 true (y58.2 != 0)))] [] H60 (by kernel_rfl) trivial fun _ wd61 H62 hb => ?_
                  clear H60
                  replace hS := hS.below hb
                  clear hb
                  refine w_if H62 rfl (fun hc => ?_) (fun hc => ?_)
                  · replace hm := bT hc hm
                    refine s_reg [] [0] [(0, [], .bool false)] [] H62 (by kernel_rfl) trivial fun _ wd63 H64 hb => ?_
                    clear H62
                    replace hS := hS.below hb
                    clear hb
                    refine w_ret ?_
                    obtain rfl := someE hm
                    have hm := hm_z32
                    obtain rfl := someE hm
                    have hm := hm_z26
                    obtain rfl := someE hm
                    exact retR1 H64 rfl rfl ⟨_, rfl, rfl, (hS.sel [] rfl)⟩
                  · replace hm := bF hc hm
                    refine w_skip ?_
                    refine w_reg [] [1, 3, 4, 5] [(1, [], .string ⟨⟨z5⟩⟩), (3, [], .slice g20.a 11 g20.c), (4, [], .int .i64 v29), (5, [], .int .i64 (w64 (v48 + 1)))] [] H62 (by kernel_rfl) trivial fun _ wd65 H66 hb => ?_
                    clear H62
                    replace hS := hS.below hb
                    clear hb
                    exact ⟨_, Nat.lt_succ_self _, w64 (v48 + 1), hm, Fr.keep (ks := [1, 3, 4, 5]) H66 (by kernel_rfl), hS⟩
                · replace hm := bF hc hm
                  refine w_exit rfl ?_
                  obtain rfl := someE hm
                  exact ⟨_, rfl, Fr.keep (ks := [1, 3, 4]) H50 (by kernel_rfl), hS⟩
          · rintro _ wd70 ⟨s_z32, hz, H, hS⟩
            subst hz
            replace hm := sumR hm_z32
            refine w_reg [] [1, 3, 4] [(1, [], .string ⟨⟨z5⟩⟩), (3, [], .slice g20.a 11 g20.c), (4, [], .int .i64 (w64 (v29 + 1)))] [] H (by kernel_rfl) trivial fun _ wd68 H69 hb => ?_
            clear H
            replace hS := hS.below hb
            clear hb
            exact ⟨_, Nat.lt_succ_self _, w64 (v29 + 1), hm, Fr.keep (ks := [1, 3, 4]) H69 (by kernel_rfl), hS⟩
        · replace hm := bF hc hm
          refine w_exit rfl ?_
          obtain rfl := someE hm
          exact ⟨_, rfl, Fr.keep (ks := [1]) H31 (by kernel_rfl), hS⟩
    · rintro _ wd205 ⟨s_z26, hz, H, hS⟩
      subst hz
      replace hm := sumR hm_z26
      replace hS : SH M X w [Ent.im (tI .u8) gl_strings_asciiSpace (Gh.mk (some ⟨0, 0, none⟩) 256 fun _ _ => .nil)] _ := hS.sel [1] rfl
      obtain ⟨y72, hy72, hm⟩ := letE hm
      obtain ⟨y73, hy73, hm⟩ := bindE hm
      refine s_reg [(.agg ⟨[.int .u8 y72.Kind, .string ⟨⟨y72.Word⟩⟩, .int .i64 y72.Num, .int .u8 y72.Color.Red, .int .u8 y72.Color.Green, .int .u8 y72.Color.Blue, .int .u8 y72.Color.Alpha]⟩), (.tuple ⟨[.bool y73.1, .int .i64 y73.2]⟩)] [1, 9] [(1, [], .string ⟨⟨z5⟩⟩), (9, [], .int .i64 y73.2)] [fun wz => RetB Tryd.prog 19 ⟨[.int .i64 0]⟩ (.agg ⟨[.int .u8 y72.Kind, .string ⟨⟨y72.Word⟩⟩, .int .i64 y72.Num, .int .u8 y72.Color.Red, .int .u8 y72.Color.Green, .int .u8 y72.Color.Blue, .int .u8 y72.Color.Alpha]⟩) wz, fun wz => RetB Tryd.prog 13 ⟨[.int .i64 (-1), .agg ⟨[.int .u8 y72.Kind, .string ⟨⟨y72.Word⟩⟩, .int .i64 y72.Num, .int .u8 y72.Color.Red, .int .u8 y72.Color.Green, .int .u8 y72.Color.Blue, .int .u8 y72.Color.Alpha]⟩]⟩ (.tuple ⟨[.bool y73.1, .int .i64 y73.2]⟩) wz] H (by subst hy72; kernel_rfl) ⟨((by rw [hy72]; exact (law25_px_ok _).b)), (props_Has_ok m _ _ _ hy73 _ (s0im s0nil (hS.im 0 rfl))), trivial⟩ fun _ wd74 H75 hb => ?_
      clear H
      replace hS := hS.below hb
      clear hb
      obtain ⟨y76, hy76, hm⟩ := bindE hm
      refine s_reg [(.tuple ⟨[.bool y76.1, .int .i64 y76.2]⟩)] [1, 9, 11] [(1, [], .string ⟨⟨z5⟩⟩), (9, [], .int .i64 y73.2), (11, [], .int .i64 y76.2)] [fun wz => RetB Tryd.prog 13 ⟨[.int .i64 18, .agg ⟨[.int .u8 0, .string ⟨⟨[]⟩⟩, .int .i64 0, .int .u8 0, .int .u8 0, .int .u8 0, .int .u8 0]⟩]⟩ (.tuple ⟨[.bool y76.1, .int .i64 y76.2]⟩) wz] H75 (by kernel_rfl) ⟨(props_Has_ok m _ _ _ hy76 _ (s0im s0nil (hS.im 0 rfl))), trivial⟩ fun _ wd77 H78 hb => ?_
      clear H75
      replace hS := hS.below hb
      clear hb
      obtain ⟨y79, hy79, hm⟩ := bindE hm
      refine s_reg [(.tuple ⟨[.int .i64 y79.1, .int .i64 y79.2]⟩)] [1, 9, 11, 13] [(1, [], .string ⟨⟨z5⟩⟩), (9, [], .int .i64 y73.2), (11, [], .int .i64 y76.2), (13, [], .int .i64 y79.2)] [fun wz => RetB Tryd.prog 9 ⟨[.string ⟨⟨[]⟩⟩]⟩ (.tuple ⟨[.int .i64 y79.1, .int .i64 y79.2]⟩) wz] H78 (by kernel_rfl) ⟨(props_Find_ok m _ _ hy79 _ (s0im s0nil (hS.im 0 rfl))), trivial⟩ fun _ wd80 H81 hb => ?_
      clear H78
      replace hS := hS.below hb
      clear hb
      obtain ⟨y82, hy82, hm⟩ := bindE hm
      refine s_reg [(.tuple ⟨[.int .i64 y82.1, .int .i64 y82.2]⟩)] [1, 9, 11, 13, 15] [(1, [], .string ⟨⟨z5⟩⟩), (9, [], .int .i64 y73.2), (11, [], .int .i64 y76.2), (13, [], .int .i64 y79.2), (15, [], .int .i64 y82.2)] [fun wz => RetB Tryd.prog 9 ⟨[.string ⟨⟨[67, 111, 108, 111, 114]⟩⟩]⟩ (.tuple ⟨[.int .i64 y82.1, .int .i64 y82.2]⟩) wz] H81 (by kernel_rfl) ⟨(props_Find_ok m _ _ hy82 _ (s0im s0nil (hS.im 0 rfl))), trivial⟩ fun _ wd83 H84 hb => ?_
      clear H81
      replace hS := hS.below hb
      clear hb
      obtain ⟨y85, hy85, hm⟩ := bindE hm
      refine s_reg [(.tuple ⟨[.bool y85.1, .int .i64 y85.2]⟩)] [1, 9, 11, 13, 15, 17] [(1, [], .string ⟨⟨z5⟩⟩), (9, [], .int .i64 y73.2), (11, [], .int .i64 y76.2), (13, [], .int .i64 y79.2), (15, [], .int .i64 y82.2), (17, [], .int .i64 y85.2)] [fun wz => RetB Tryd.prog 11 ⟨[.string ⟨⟨[109, 97, 114, 103, 105, 110]⟩⟩]⟩ (.tuple ⟨[.bool y85.1, .int .i64 y85.2]⟩) wz] H84 (by kernel_rfl) ⟨(props_Inherited_ok m _ _ hy85 _ (s0im s0nil (hS.im 0 rfl))), trivial⟩ fun _ wd86 H87 hb => ?_
      clear H84
      replace hS := hS.below hb
      clear hb
      obtain ⟨y88, hy88, hm⟩ := bindE hm
      refine s_reg [(.tuple ⟨[.bool y88.1, .int .i64 y88.2]⟩)] [1, 9, 11, 13, 15, 17, 18, 19] [(1, [], .string ⟨⟨z5⟩⟩), (9, [], .int .i64 y73.2), (11, [], .int .i64 y76.2), (13, [], .int .i64 y79.2), (15, [], .int .i64 y82.2), (17, [], .int .i64 y85.2), (18, [], .bool y88.1), (19, [], .int .i64 y88.2)] [fun wz => RetB Tryd.prog 11 ⟨[.string ⟨⟨[45, 45, 120]⟩⟩]⟩ (.tuple ⟨[.bool y88.1, .int .i64 y88.2]⟩) wz] H87 (by kernel_rfl) ⟨(props_Inherited_ok m _ _ hy88 _ (s0im s0nil (hS.im 0 rfl))), trivial⟩ fun _ wd89 H90 hb => ?_
      clear H87
      replace hS := hS.below hb
      clear hb
      obtain ⟨y91, hy91, hm⟩ := bindE hm
      refine s_reg [(.tuple ⟨[.bool y91.1, .int .i64 y91.2]⟩)] [1, 9, 11, 13, 15, 17, 18, 19, 20, 21] [(1, [], .string ⟨⟨z5⟩⟩), (9, [], .int .i64 y73.2), (11, [], .int .i64 y76.2), (13, [], .int .i64 y79.2), (15, [], .int .i64 y82.2), (17, [], .int .i64 y85.2), (18, [], .bool y88.1), (19, [], .int .i64 y88.2), (20, [], .bool y91.1), (21, [], .int .i64 y91.2)] [fun wz => RetB Tryd.prog 11 ⟨[.string ⟨⟨[119, 105, 100, 116, 104]⟩⟩]⟩ (.tuple ⟨[.bool y91.1, .int .i64 y91.2]⟩) wz] H90 (by kernel_rfl) ⟨(props_Inherited_ok m _ _ hy91 _ (s0im s0nil (hS.im 0 rfl))), trivial⟩ fun _ wd92 H93 hb => ?_
      clear H90
      replace hS := hS.below hb
      clear hb
      obtain ⟨z94, hz, hm⟩ := bindE hm
      refine w_cut (fun a' w' => Fr 178 [(0, [], .bool z94)] a' ∧ SH M X w [Ent.im (tI .u8) gl_strings_asciiSpace (Gh.mk (some ⟨0, 0, none⟩) 256 fun _ _ => .nil)] w') ?_ ?_
      · replace hm := hz
        refine wl_start ?_
        obtain ⟨y95, hy95, hm⟩ := bindE hm
        obtain ⟨x96, hx96, hm⟩ := letE hm
        refine wl_batch 0 4 [(.bool y95)] [1, 9, 11, 13, 15, 17, 18, 19, 20, 21, 104] [(1, [], .string ⟨⟨z5⟩⟩), (9, [], .int .i64 y73.2), (11, [], .int .i64 y76.2), (13, [], .int .i64 y79.2), (15, [], .int .i64 y82.2), (17, [], .int .i64 y85.2), (18, [], .bool y88.1), (19, [], .int .i64 y88.2), (20, [], .bool y91.1), (21, [], .int .i64 y91.2), (104, [], .bool x96)] [fun wz => (true = true ∧ True → RetB Tryd.prog 20 ⟨[]⟩ (.bool y95) wz)] H93 (by decide) (by subst hx96; kernel_rfl) ⟨fun hg => law25_alive_ok m _ hy95 _ (s0im s0nil (hS.im 0 rfl)), trivial⟩ fun _ wd97 H98 hb => ?_
        clear H93
        replace hS := hS.below hb
        clear hb
        cases x96 with
        | true =>
          replace hm := bT rfl hm
          obtain ⟨y99, hy99, hm⟩ := bindE hm
          have hd : S0 (AvL M [Ent.im (tI .u8) gl_strings_asciiSpace (Gh.mk (some ⟨0, 0, none⟩) 256 fun _ _ => .nil)]) [Ent.im (tI .u8) gl_strings_asciiSpace (Gh.mk (some ⟨0, 0, none⟩) 256 fun _ _ => .nil)] _ := hS.hand [0] [0] rfl rfl
          refine m_stpG 104 [105, 1, 9, 11, 13, 15, 17, 18, 19, 20, 21, 104] [(1, [], .string ⟨⟨z5⟩⟩), (9, [], .int .i64 y73.2), (11, [], .int .i64 y76.2), (13, [], .int .i64 y79.2), (15, [], .int .i64 y82.2), (17, [], .int .i64 y85.2), (18, [], .bool y88.1), (19, [], .int .i64 y88.2), (20, [], .bool y91.1), (21, [], .int .i64 y91.2), (104, [], .bool true)] H98 rfl rfl rfl rfl (o_callx H98 rfl rfl (props_Table_ok m _ hy99 _ _ hd)) (fun _ => rfl) fun _ wd102 v H103 hq => ?_
          clear H98 hd
          obtain ⟨g100, rfl, hq⟩ := hq
          replace hS : SH M X w [Ent.own 51 tyProp y99 g100, Ent.im (tI .u8) gl_strings_asciiSpace (Gh.mk (some ⟨0, 0, none⟩) 256 fun _ _ => .nil)] _ := hS.join [0] [0] rfl rfl hq
          clear hq
          obtain ⟨y104, hy104, hm⟩ := bindE hm
          have hd : S0 (AvL M [Ent.own 51 tyProp y99 g100, Ent.im (tI .u8) gl_strings_asciiSpace (Gh.mk (some ⟨0, 0, none⟩) 256 fun _ _ => .nil)]) [] _ := hS.hand [] [0, 1] rfl rfl
          refine m_stpG 104 [106, 1, 9, 11, 13, 15, 17, 18, 19, 20, 21, 104, 105] [(1, [], .string ⟨⟨z5⟩⟩), (9, [], .int .i64 y73.2), (11, [], .int .i64 y76.2), (13, [], .int .i64 y79.2), (15, [], .int .i64 y82.2), (17, [], .int .i64 y85.2), (18, [], .bool y88.1), (19, [], .int .i64 y88.2), (20, [], .bool y91.1), (21, [], .int .i64 y91.2), (104, [], .bool true), (105, [], .slice g100.a y99.length g100.c)] H103 rfl rfl rfl rfl (o_callx H103 rfl rfl (r25_Table_ok _ hy104 _ _ hd)) (fun _ => rfl) fun _ wd107 v H108 hq => ?_
          clear H103 hd
          obtain ⟨g105, rfl, hq⟩ := hq
          replace hS : SH M X w [Ent.own 51 tyProp y104 g105, Ent.own 51 tyProp y99 g100, Ent.im (tI .u8) gl_strings_asciiSpace (Gh.mk (some ⟨0, 0, none⟩) 256 fun _ _ => .nil)] _ := hS.join [] [0, 1] rfl rfl hq
          clear hq
          obtain ⟨y109, hy109, hm⟩ := bindE hm
          obtain ⟨y110, hy110, hm⟩ := bindE hm
          obtain ⟨ho111, hm⟩ := chkE hm
          obtain ⟨y112, hy112, hm⟩ := bindE hm
          obtain ⟨x113, hx113, hm⟩ := letE hm
          obtain ⟨y114, hy114, hm⟩ := bindE hm
          obtain ⟨x115, hx115, hm⟩ := letE hm
          obtain ⟨x116, hx116, hm⟩ := letE hm
          obtain ⟨x117, hx117, hm⟩ := letE hm
          obtain ⟨x118, hx118, hm⟩ := letE hm
          obtain ⟨x119, hx119, hm⟩ := letE hm
          obtain ⟨y120, hy120, hm⟩ := bindE hm
          obtain ⟨y121, hy121, hm⟩ := letE hm
          obtain ⟨y122, hy122, hm⟩ := bindE hm
          obtain ⟨y123, hy123, hm⟩ := bindE hm
          obtain ⟨x124, hx124, hm⟩ := letE hm
          obtain ⟨y125, hy125, hm⟩ := bindE hm
          obtain ⟨y126, hy126, hm⟩ := bindE hm
          obtain ⟨x127, hx127, hm⟩ := letE hm
          refine wl_batch 6 78 [(.bool y109), (.bool y110), (.bool y112), (.bool y114), (.bool y120), (.agg ⟨[.int .u8 y121.Kind, .string ⟨⟨y121.Word⟩⟩, .int .i64 y121.Num, .int .u8 y121.Color.Red, .int .u8 y121.Color.Green, .int .u8 y121.Color.Blue, .int .u8 y121.Color.Alpha]⟩), (.bool y122), (.bool y123), (.bool y125), (.bool y126)] [0] [(0, [], .bool x127)] [fun wz => (true = true ∧ True → RetB Tryd.prog 21 ⟨[.slice g100.a y99.length g100.c, .slice g105.a y104.length g105.c]⟩ (.bool y109) wz), fun wz => (y109 = true ∧ True → RetB Tryd.prog 15 ⟨[.string ⟨⟨z5⟩⟩]⟩ (.bool y110) wz), fun _ => ((cond y109 y110 false) = true ∧ True → ln z5 + ln [120] ≤ 9223372036854775807), fun wz => ((cond y109 y110 false) = true ∧ True → RetB Tryd.prog 15 ⟨[.string ⟨⟨z5 ++ [120]⟩⟩]⟩ (.bool y112) wz), fun wz => (x113 = true ∧ True → RetB Tryd.prog 15 ⟨[.string ⟨⟨[45, 45, 45]⟩⟩]⟩ (.bool y114) wz), fun wz => (x119 = true ∧ True → RetB Tryd.prog 24 ⟨[.int .i64 16, .agg ⟨[.int .u8 6, .string ⟨⟨[]⟩⟩, .int .i64 (-1000000000), .int .u8 0, .int .u8 0, .int .u8 0, .int .u8 0]⟩]⟩ (.bool y120) wz), fun wz => ((cond x119 y120 false) = true ∧ True → RetB Tryd.prog 19 ⟨[.int .i64 (-1000000000000)]⟩ (.agg ⟨[.int .u8 y121.Kind, .string ⟨⟨y121.Word⟩⟩, .int .i64 y121.Num, .int .u8 y121.Color.Red, .int .u8 y121.Color.Green, .int .u8 y121.Color.Blue, .int .u8 y121.Color.Alpha]⟩) wz), fun wz => ((cond x119 y120 false) = true ∧ True → RetB Tryd.prog 24 ⟨[.int .i64 8, .agg ⟨[.int .u8 y121.Kind, .string ⟨⟨y121.Word⟩⟩, .int .i64 y121.Num, .int .u8 y121.Color.Red, .int .u8 y121.Color.Green, .int .u8 y121.Color.Blue, .int .u8 y121.Color.Alpha]⟩]⟩ (.bool y122) wz), fun wz => ((cond (cond x119 y120 false) y122 false) = true ∧ True → RetB Tryd.prog 24 ⟨[.int .i64 13, .agg ⟨[.int .u8 5, .string ⟨⟨[]⟩⟩, .int .i64 0, .int .u8 0, .int .u8 0, .int .u8 0, .int .u8 0]⟩]⟩ (.bool y123) wz), fun wz => (x124 = true ∧ True → RetB Tryd.prog 24 ⟨[.int .i64 13, .agg ⟨[.int .u8 5, .string ⟨⟨[]⟩⟩, .int .i64 (-1), .int .u8 0, .int .u8 0, .int .u8 0, .int .u8 0]⟩]⟩ (.bool y125) wz), fun wz => ((cond x124 (!y125) false) = true ∧ True → RetB Tryd.prog 24 ⟨[.int .i64 15, .agg ⟨[.int .u8 5, .string ⟨⟨[]⟩⟩, .int .i64 (-1), .int .u8 0, .int .u8 0, .int .u8 0, .int .u8 0]⟩]⟩ (.bool y126) wz)] H108 (by decide) (by subst hx113 hx115 hx116 hx117 hx118 hx119 hy121 hx124 hx127; kernel_rfl) ⟨fun hg => r25_SameTable_ok (g_a_ := g100) (g_b_ := g105) m _ _ _ hy109 _ (s0im (s0im s0nil (hS.osl 0 rfl)) (hS.osl 1 rfl)), fun hg => (props_Custom_ok _ _ (bT (hg.1) hy110)).b, fun hg => (ho111 hg.1), fun hg => (props_Custom_ok _ _ (bT (hg.1) hy112)).b, fun hg => (props_Custom_ok _ _ (bT (hg.1) hy114)).b, fun hg => law25_has_ok m _ _ _ (bT (hg.1) hy120) _ (s0im s0nil (hS.im 2 rfl)), fun hg => (by rw [hy121]; exact (law25_px_ok _).b), fun hg => law25_has_ok m _ _ _ (bT (hg.1) hy122) _ (s0im s0nil (hS.im 2 rfl)), fun hg => law25_has_ok m _ _ _ (bT (hg.1) hy123) _ (s0im s0nil (hS.im 2 rfl)), fun hg => law25_has_ok m _ _ _ (bT (hg.1) hy125) _ (s0im s0nil (hS.im 2 rfl)), fun hg => law25_has_ok m _ _ _ (bT (hg.1) hy126) _ (s0im s0nil (hS.im 2 rfl)), trivial⟩ fun _ wd128 H129 hb => ?_
          clear H108
          replace hS := hS.below hb
          clear hb
          refine wl_end rfl ?_
          replace hS : SH M X w [Ent.im (tI .u8) gl_strings_asciiSpace (Gh.mk (some ⟨0, 0, none⟩) 256 fun _ _ => .nil)] _ := hS.sel [2] rfl
          obtain rfl := someE hm
          exact ⟨Fr.keep (ks := [0]) H129 (by kernel_rfl), hS⟩
        | false =>
          replace hm := bF rfl hm
          refine m_skipG 104 [105, 1, 9, 11, 13, 15, 17, 18, 19, 20, 21, 104] [(105, [], undef), (1, [], .string ⟨⟨z5⟩⟩), (9, [], .int .i64 y73.2), (11, [], .int .i64 y76.2), (13, [], .int .i64 y79.2), (15, [], .int .i64 y82.2), (17, [], .int .i64 y85.2), (18, [], .bool y88.1), (19, [], .int .i64 y88.2), (20, [], .bool y91.1), (21, [], .int .i64 y91.2), (104, [], .bool false)] H98 rfl rfl rfl rfl rfl rfl fun _ H130 => ?_
          clear H98
          refine m_skipG 104 [106, 1, 9, 11, 13, 15, 17, 18, 19, 20, 21, 104, 105] [(106, [], undef), (1, [], .string ⟨⟨z5⟩⟩), (9, [], .int .i64 y73.2), (11, [], .int .i64 y76.2), (13, [], .int .i64 y79.2), (15, [], .int .i64 y82.2), (17, [], .int .i64 y85.2), (18, [], .bool y88.1), (19, [], .int .i64 y88.2), (20, [], .bool y91.1), (21, [], .int .i64 y91.2), (104, [], .bool false), (105, [], undef)] H130 rfl rfl rfl rfl rfl rfl fun _ H131 => ?_
          clear H130
          refine m_skipG 104 [107, 1, 9, 11, 13, 15, 17, 18, 19, 20, 21, 104] [(107, [], undef), (1, [], .string ⟨⟨z5⟩⟩), (9, [], .int .i64 y73.2), (11, [], .int .i64 y76.2), (13, [], .int .i64 y79.2), (15, [], .int .i64 y82.2), (17, [], .int .i64 y85.2), (18, [], .bool y88.1), (19, [], .int .i64 y88.2), (20, [], .bool y91.1), (21, [], .int .i64 y91.2), (104, [], .bool false)] H131 rfl rfl rfl rfl rfl rfl fun _ H132 => ?_
          clear H131
          refine wl_batch 7 9 [] [1, 9, 11, 13, 15, 17, 18, 19, 20, 21, 109] [(1, [], .string ⟨⟨z5⟩⟩), (9, [], .int .i64 y73.2), (11, [], .int .i64 y76.2), (13, [], .int .i64 y79.2), (15, [], .int .i64 y82.2), (17, [], .int .i64 y85.2), (18, [], .bool y88.1), (19, [], .int .i64 y88.2), (20, [], .bool y91.1), (21, [], .int .i64 y91.2), (109, [], .bool false)] [] H132 (by decide) (by kernel_rfl) trivial fun _ wd133 H134 hb => ?_
          clear H132
          replace hS := hS.below hb
          clear hb
          refine m_skipG 109 [110, 1, 9, 11, 13, 15, 17, 18, 19, 20, 21, 109] [(110, [], undef), (1, [], .string ⟨⟨z5⟩⟩), (9, [], .int .i64 y73.2), (11, [], .int .i64 y76.2), (13, [], .int .i64 y79.2), (15, [], .int .i64 y82.2), (17, [], .int .i64 y85.2), (18, [], .bool y88.1), (19, [], .int .i64 y88.2), (20, [], .bool y91.1), (21, [], .int .i64 y91.2), (109, [], .bool false)] H134 rfl rfl rfl rfl rfl rfl fun _ H135 => ?_
          clear H134
          refine m_skipG 109 [111, 1, 9, 11, 13, 15, 17, 18, 19, 20, 21, 109] [(111, [], undef), (1, [], .string ⟨⟨z5⟩⟩), (9, [], .int .i64 y73.2), (11, [], .int .i64 y76.2), (13, [], .int .i64 y79.2), (15, [], .int .i64 y82.2), (17, [], .int .i64 y85.2), (18, [], .bool y88.1), (19, [], .int .i64 y88.2), (20, [], .bool y91.1), (21, [], .int .i64 y91.2), (109, [], .bool false)] H135 rfl rfl rfl rfl rfl rfl fun _ H136 => ?_
          clear H135
          refine wl_batch 11 13 [] [1, 9, 11, 13, 15, 17, 18, 19, 20, 21, 113] [(1, [], .string ⟨⟨z5⟩⟩), (9, [], .int .i64 y73.2), (11, [], .int .i64 y76.2), (13, [], .int .i64 y79.2), (15, [], .int .i64 y82.2), (17, [], .int .i64 y85.2), (18, [], .bool y88.1), (19, [], .int .i64 y88.2), (20, [], .bool y91.1), (21, [], .int .i64 y91.2), (113, [], .bool false)] [] H136 (by decide) (by kernel_rfl) trivial fun _ wd137 H138 hb => ?_
          clear H136
          replace hS := hS.below hb
          clear hb
          refine m_skipG 113 [114, 9, 11, 13, 15, 17, 18, 19, 20, 21, 113] [(114, [], undef), (9, [], .int .i64 y73.2), (11, [], .int .i64 y76.2), (13, [], .int .i64 y79.2), (15, [], .int .i64 y82.2), (17, [], .int .i64 y85.2), (18, [], .bool y88.1), (19, [], .int .i64 y88.2), (20, [], .bool y91.1), (21, [], .int .i64 y91.2), (113, [], .bool false)] H138 rfl rfl rfl rfl rfl rfl fun _ H139 => ?_
          clear H138
          refine m_skipG 113 [115, 9, 11, 13, 15, 17, 18, 19, 20, 21, 113] [(115, [], undef), (9, [], .int .i64 y73.2), (11, [], .int .i64 y76.2), (13, [], .int .i64 y79.2), (15, [], .int .i64 y82.2), (17, [], .int .i64 y85.2), (18, [], .bool y88.1), (19, [], .int .i64 y88.2), (20, [], .bool y91.1), (21, [], .int .i64 y91.2), (113, [], .bool false)] H139 rfl rfl rfl rfl rfl rfl fun _ H140 => ?_
          clear H139
          refine m_skipG 113 [116, 9, 11, 13, 15, 17, 18, 19, 20, 21, 113] [(116, [], undef), (9, [], .int .i64 y73.2), (11, [], .int .i64 y76.2), (13, [], .int .i64 y79.2), (15, [], .int .i64 y82.2), (17, [], .int .i64 y85.2), (18, [], .bool y88.1), (19, [], .int .i64 y88.2), (20, [], .bool y91.1), (21, [], .int .i64 y91.2), (113, [], .bool false)] H140 rfl rfl rfl rfl rfl rfl fun _ H141 => ?_
          clear H140
          refine m_skipG 113 [117, 9, 11, 13, 15, 17, 18, 19, 20, 21, 113] [(117, [], undef), (9, [], .int .i64 y73.2), (11, [], .int .i64 y76.2), (13, [], .int .i64 y79.2), (15, [], .int .i64 y82.2), (17, [], .int .i64 y85.2), (18, [], .bool y88.1), (19, [], .int .i64 y88.2), (20, [], .bool y91.1), (21, [], .int .i64 y91.2), (113, [], .bool false)] H141 rfl rfl rfl rfl rfl rfl fun _ H142 => ?_
          clear H141
          refine wl_batch 17 19 [] [9, 11, 13, 15, 17, 18, 19, 20, 21, 119] [(9, [], .int .i64 y73.2), (11, [], .int .i64 y76.2), (13, [], .int .i64 y79.2), (15, [], .int .i64 y82.2), (17, [], .int .i64 y85.2), (18, [], .bool y88.1), (19, [], .int .i64 y88.2), (20, [], .bool y91.1), (21, [], .int .i64 y91.2), (119, [], .bool false)] [] H142 (by decide) (by kernel_rfl) trivial fun _ wd143 H144 hb => ?_
          clear H142
          replace hS := hS.below hb
          clear hb
          refine m_skipG 119 [120, 9, 11, 13, 15, 17, 18, 19, 20, 21, 119] [(120, [], undef), (9, [], .int .i64 y73.2), (11, [], .int .i64 y76.2), (13, [], .int .i64 y79.2), (15, [], .int .i64 y82.2), (17, [], .int .i64 y85.2), (18, [], .bool y88.1), (19, [], .int .i64 y88.2), (20, [], .bool y91.1), (21, [], .int .i64 y91.2), (119, [], .bool false)] H144 rfl rfl rfl rfl rfl rfl fun _ H145 => ?_
          clear H144
          refine wl_batch 20 22 [] [9, 11, 13, 15, 17, 18, 19, 20, 21, 122] [(9, [], .int .i64 y73.2), (11, [], .int .i64 y76.2), (13, [], .int .i64 y79.2), (15, [], .int .i64 y82.2), (17, [], .int .i64 y85.2), (18, [], .bool y88.1), (19, [], .int .i64 y88.2), (20, [], .bool y91.1), (21, [], .int .i64 y91.2), (122, [], .bool false)] [] H145 (by decide) (by kernel_rfl) trivial fun _ wd146 H147 hb => ?_
          clear H145
          replace hS := hS.below hb
          clear hb
          refine m_skipG 122 [123, 11, 13, 15, 17, 18, 19, 20, 21, 122] [(123, [], undef), (11, [], .int .i64 y76.2), (13, [], .int .i64 y79.2), (15, [], .int .i64 y82.2), (17, [], .int .i64 y85.2), (18, [], .bool y88.1), (19, [], .int .i64 y88.2), (20, [], .bool y91.1), (21, [], .int .i64 y91.2), (122, [], .bool false)] H147 rfl rfl rfl rfl rfl rfl fun _ H148 => ?_
          clear H147
          refine m_skipG 122 [124, 11, 13, 15, 17, 18, 19, 20, 21, 122] [(124, [], undef), (11, [], .int .i64 y76.2), (13, [], .int .i64 y79.2), (15, [], .int .i64 y82.2), (17, [], .int .i64 y85.2), (18, [], .bool y88.1), (19, [], .int .i64 y88.2), (20, [], .bool y91.1), (21, [], .int .i64 y91.2), (122, [], .bool false)] H148 rfl rfl rfl rfl rfl rfl fun _ H149 => ?_
          clear H148
          refine wl_batch 24 26 [] [11, 13, 15, 17, 18, 19, 20, 21, 126] [(11, [], .int .i64 y76.2), (13, [], .int .i64 y79.2), (15, [], .int .i64 y82.2), (17, [], .int .i64 y85.2), (18, [], .bool y88.1), (19, [], .int .i64 y88.2), (20, [], .bool y91.1), (21, [], .int .i64 y91.2), (126, [], .bool false)] [] H149 (by decide) (by kernel_rfl) trivial fun _ wd150 H151 hb => ?_
          clear H149
          replace hS := hS.below hb
          clear hb
          refine m_skipG 126 [127, 13, 15, 17, 18, 19, 20, 21, 126] [(127, [], undef), (13, [], .int .i64 y79.2), (15, [], .int .i64 y82.2), (17, [], .int .i64 y85.2), (18, [], .bool y88.1), (19, [], .int .i64 y88.2), (20, [], .bool y91.1), (21, [], .int .i64 y91.2), (126, [], .bool false)] H151 rfl rfl rfl rfl rfl rfl fun _ H152 => ?_
          clear H151
          refine m_skipG 126 [128, 13, 15, 17, 18, 19, 20, 21, 126] [(128, [], undef), (13, [], .int .i64 y79.2), (15, [], .int .i64 y82.2), (17, [], .int .i64 y85.2), (18, [], .bool y88.1), (19, [], .int .i64 y88.2), (20, [], .bool y91.1), (21, [], .int .i64 y91.2), (126, [], .bool false)] H152 rfl rfl rfl rfl rfl rfl fun _ H153 => ?_
          clear H152
          refine wl_batch 28 30 [] [13, 15, 17, 18, 19, 20, 21, 130] [(13, [], .int .i64 y79.2), (15, [], .int .i64 y82.2), (17, [], .int .i64 y85.2), (18, [], .bool y88.1), (19, [], .int .i64 y88.2), (20, [], .bool y91.1), (21, [], .int .i64 y91.2), (130, [], .bool false)] [] H153 (by decide) (by kernel_rfl) trivial fun _ wd154 H155 hb => ?_
          clear H153
          replace hS := hS.below hb
          clear hb
          refine m_skipG 130 [131, 15, 17, 18, 19, 20, 21, 130] [(131, [], undef), (15, [], .int .i64 y82.2), (17, [], .int .i64 y85.2), (18, [], .bool y88.1), (19, [], .int .i64 y88.2), (20, [], .bool y91.1), (21, [], .int .i64 y91.2), (130, [], .bool false)] H155 rfl rfl rfl rfl rfl rfl fun _ H156 => ?_
          clear H155
          refine m_skipG 130 [132, 15, 17, 18, 19, 20, 21, 130] [(132, [], undef), (15, [], .int .i64 y82.2), (17, [], .int .i64 y85.2), (18, [], .bool y88.1), (19, [], .int .i64 y88.2), (20, [], .bool y91.1), (21, [], .int .i64 y91.2), (130, [], .bool false)] H156 rfl rfl rfl rfl rfl rfl fun _ H157 => ?_
          clear H156
          refine wl_batch 32 34 [] [15, 17, 18, 19, 20, 21, 134] [(15, [], .int .i64 y82.2), (17, [], .int .i64 y85.2), (18, [], .bool y88.1), (19, [], .int .i64 y88.2), (20, [], .bool y91.1), (21, [], .int .i64 y91.2), (134, [], .bool false)] [] H157 (by decide) (by kernel_rfl) trivial fun _ wd158 H159 hb => ?_
          clear H157
          replace hS := hS.below hb
          clear hb
          refine m_skipG 134 [135, 17, 18, 19, 20, 21, 134] [(135, [], undef), (17, [], .int .i64 y85.2), (18, [], .bool y88.1), (19, [], .int .i64 y88.2), (20, [], .bool y91.1), (21, [], .int .i64 y91.2), (134, [], .bool false)] H159 rfl rfl rfl rfl rfl rfl fun _ H160 => ?_
          clear H159
          refine m_skipG 134 [136, 17, 18, 19, 20, 21, 134] [(136, [], undef), (17, [], .int .i64 y85.2), (18, [], .bool y88.1), (19, [], .int .i64 y88.2), (20, [], .bool y91.1), (21, [], .int .i64 y91.2), (134, [], .bool false)] H160 rfl rfl rfl rfl rfl rfl fun _ H161 => ?_
          clear H160
          refine wl_batch 36 38 [] [17, 18, 19, 20, 21, 138] [(17, [], .int .i64 y85.2), (18, [], .bool y88.1), (19, [], .int .i64 y88.2), (20, [], .bool y91.1), (21, [], .int .i64 y91.2), (138, [], .bool false)] [] H161 (by decide) (by kernel_rfl) trivial fun _ wd162 H163 hb => ?_
          clear H161
          replace hS := hS.below hb
          clear hb
          refine m_skipG 138 [139, 18, 19, 20, 21, 138] [(139, [], undef), (18, [], .bool y88.1), (19, [], .int .i64 y88.2), (20, [], .bool y91.1), (21, [], .int .i64 y91.2), (138, [], .bool false)] H163 rfl rfl rfl rfl rfl rfl fun _ H164 => ?_
          clear H163
          refine m_skipG 138 [140, 18, 19, 20, 21, 138] [(140, [], undef), (18, [], .bool y88.1), (19, [], .int .i64 y88.2), (20, [], .bool y91.1), (21, [], .int .i64 y91.2), (138, [], .bool false)] H164 rfl rfl rfl rfl rfl rfl fun _ H165 => ?_
          clear H164
          refine wl_batch 40 42 [] [18, 19, 20, 21, 142] [(18, [], .bool y88.1), (19, [], .int .i64 y88.2), (20, [], .bool y91.1), (21, [], .int .i64 y91.2), (142, [], .bool false)] [] H165 (by decide) (by kernel_rfl) trivial fun _ wd166 H167 hb => ?_
          clear H165
          replace hS := hS.below hb
          clear hb
          refine m_skipG 142 [143, 18, 20, 21, 142] [(143, [], undef), (18, [], .bool y88.1), (20, [], .bool y91.1), (21, [], .int .i64 y91.2), (142, [], .bool false)] H167 rfl rfl rfl rfl rfl rfl fun _ H168 => ?_
          clear H167
          refine m_skipG 142 [144, 18, 20, 21, 142] [(144, [], undef), (18, [], .bool y88.1), (20, [], .bool y91.1), (21, [], .int .i64 y91.2), (142, [], .bool false)] H168 rfl rfl rfl rfl rfl rfl fun _ H169 => ?_
          clear H168
          refine wl_batch 44 46 [] [18, 20, 21, 146] [(18, [], .bool y88.1), (20, [], .bool y91.1), (21, [], .int .i64 y91.2), (146, [], .bool false)] [] H169 (by decide) (by kernel_rfl) trivial fun _ wd170 H171 hb => ?_
          clear H169
          replace hS := hS.below hb
          clear hb
          refine m_skipG 146 [147, 20, 21, 146] [(147, [], undef), (20, [], .bool y91.1), (21, [], .int .i64 y91.2), (146, [], .bool false)] H171 rfl rfl rfl rfl rfl rfl fun _ H172 => ?_
          clear H171
          refine wl_batch 47 49 [] [20, 21, 149] [(20, [], .bool y91.1), (21, [], .int .i64 y91.2), (149, [], .bool false)] [] H172 (by decide) (by kernel_rfl) trivial fun _ wd173 H174 hb => ?_
          clear H172
          replace hS := hS.below hb
          clear hb
          refine m_skipG 149 [150, 20, 149] [(150, [], undef), (20, [], .bool y91.1), (149, [], .bool false)] H174 rfl rfl rfl rfl rfl rfl fun _ H175 => ?_
          clear H174
          refine m_skipG 149 [151, 20, 149] [(151, [], undef), (20, [], .bool y91.1), (149, [], .bool false)] H175 rfl rfl rfl rfl rfl rfl fun _ H176 => ?_
          clear H175
          refine wl_batch 51 53 [] [20, 153] [(20, [], .bool y91.1), (153, [], .bool false)] [] H176 (by decide) (by kernel_rfl) trivial fun _ wd177 H178 hb => ?_
          clear H176
          replace hS := hS.below hb
          clear hb
          refine m_skipG 153 [154, 153] [(154, [], undef), (153, [], .bool false)] H178 rfl rfl rfl rfl rfl rfl fun _ H179 => ?_
          clear H178
          refine m_skipG 153 [155, 153] [(155, [], undef), (153, [], .bool false)] H179 rfl rfl rfl rfl rfl rfl fun _ H180 => ?_
          clear H179
          refine wl_batch 55 57 [] [157] [(157, [], .bool false)] [] H180 (by decide) (by kernel_rfl) trivial fun _ wd181 H182 hb => ?_
          clear H180
          replace hS := hS.below hb
          clear hb
          refine m_skipG 157 [158, 157] [(158, [], undef), (157, [], .bool false)] H182 rfl rfl rfl rfl rfl rfl fun _ H183 => ?_
          clear H182
          refine m_skipG 157 [159, 157] [(159, [], undef), (157, [], .bool false)] H183 rfl rfl rfl rfl rfl rfl fun _ H184 => ?_
          clear H183
          refine wl_batch 59 61 [] [161] [(161, [], .bool false)] [] H184 (by decide) (by kernel_rfl) trivial fun _ wd185 H186 hb => ?_
          clear H184
          replace hS := hS.below hb
          clear hb
          refine m_skipG 161 [162, 161] [(162, [], undef), (161, [], .bool false)] H186 rfl rfl rfl rfl rfl rfl fun _ H187 => ?_
          clear H186
          refine m_skipG 161 [163, 161] [(163, [], undef), (161, [], .bool false)] H187 rfl rfl rfl rfl rfl rfl fun _ H188 => ?_
          clear H187
          refine wl_batch 63 65 [] [165] [(165, [], .bool false)] [] H188 (by decide) (by kernel_rfl) trivial fun _ wd189 H190 hb => ?_
          clear H188
          replace hS := hS.below hb
          clear hb
          refine m_skipG 165 [166, 165] [(166, [], undef), (165, [], .bool false)] H190 rfl rfl rfl rfl rfl rfl fun _ H191 => ?_
          clear H190
          refine m_skipG 165 [167, 165] [(167, [], undef), (165, [], .bool false)] H191 rfl rfl rfl rfl rfl rfl fun _ H192 => ?_
          clear H191
          refine wl_batch 67 69 [] [169] [(169, [], .bool false)] [] H192 (by decide) (by kernel_rfl) trivial fun _ wd193 H194 hb => ?_
          clear H192
          replace hS := hS.below hb
          clear hb
          refine m_skipG 169 [170, 169] [(170, [], undef), (169, [], .bool false)] H194 rfl rfl rfl rfl rfl rfl fun _ H195 => ?_
          clear H194
          refine m_skipG 169 [171, 169] [(171, [], undef), (169, [], .bool false)] H195 rfl rfl rfl rfl rfl rfl fun _ H196 => ?_
          clear H195
          refine m_skipG 169 [172, 169] [(172, [], undef), (169, [], .bool false)] H196 rfl rfl rfl rfl rfl rfl fun _ H197 => ?_
          clear H196
          refine wl_batch 72 74 [] [174] [(174, [], .bool false)] [] H197 (by decide) (by kernel_rfl) trivial fun _ wd198 H199 hb => ?_
          clear H197
          replace hS := hS.below hb
          clear hb
          refine m_skipG 174 [175, 174] [(175, [], undef), (174, [], .bool false)] H199 rfl rfl rfl rfl rfl rfl fun _ H200 => ?_
          clear H199
          refine m_skipG 174 [176, 174] [(176, [], undef), (174, [], .bool false)] H200 rfl rfl rfl rfl rfl rfl fun _ H201 => ?_
          clear H200
          refine wl_batch 76 78 [] [0] [(0, [], .bool false)] [] H201 (by decide) (by kernel_rfl) trivial fun _ wd202 H203 hb => ?_
          clear H201
          replace hS := hS.below hb
          clear hb
          refine wl_end rfl ?_
          obtain rfl := someE hm
          exact ⟨Fr.keep (ks := [0]) H203 (by kernel_rfl), hS⟩
      · rintro _ wd204 ⟨H, hS⟩
        refine w_ret ?_
        obtain rfl := someE hm
        exact retR1 H rfl rfl ⟨_, rfl, rfl, (hS.sel [] rfl)⟩
theorem law25_PropsNames_ok  (m : Nat)  (r : Bool) (hm : law25_PropsNames m = some r) (w : World) (hL : S0 F0 [Ent.im (tI .u8) gl_strings_asciiSpace (Gh.mk (some ⟨0, 0, none⟩) 256 fun _ _ => .nil)] w ∧ fpl [Ent.im (tI .u8) gl_strings_asciiSpace (Gh.mk (some ⟨0, 0, none⟩) 256 fun _ _ => .nil)] = []) : RetB Tryd.prog 4 ⟨[]⟩ (.bool r) w := retB_of hL (Tryd.call4 _) (fun w' h => law25_PropsNames_w F0 m    r hm w' h)

def law25_PropsInitial_L1 (m : Nat) (prop : Int) (y6 : List TProp) : Nat → Int → Option (Sum (Bool) (Unit))
  | 0, _ => none
  | kk + 1, v53 =>
    cond (decide (v53 < (ln ((gi y6 prop).Words)))) (
    chk (0 ≤ v53 ∧ v53 < ln ((gi y6 prop).Words)) <|
    Option.bind (law25_has m prop (TVal.mk 1 (gi ((gi y6 prop).Words) v53) 0 (TColor.mk 0 0 0 0))) fun y57 =>
    chk ((decide (0 < v53)) = true → (!y57) = false → 0 ≤ (w64 (v53 - 1)) ∧ (w64 (v53 - 1)) < ln ((gi y6 prop).Words)) <|
    lt (cond (!y57) true (cond (decide (0 < v53)) (!(Op.bytesLess (gi ((gi y6 prop).Words) (w64 (v53 - 1))) (gi ((gi y6 prop).Words) v53))) false)) fun x59 =>
    cond x59 (
    some (.inl false)) (
    law25_PropsInitial_L1 m prop y6 kk (w64 (v53 + 1)))) (
    some (.inr ()))
def law25_PropsInitial_L2 (m : Nat) (prop : Int) (y6 : List TProp) : Nat → Int → Option (Sum (Bool) (Unit))
  | 0, _ => none
  | kk + 1, v70 =>
    cond (decide (v70 < (ln ((gi y6 prop).Kinds)))) (
    chk (0 ≤ v70 ∧ v70 < ln ((gi y6 prop).Kinds)) <|
    Option.bind (law25_has m prop (TVal.mk (gi ((gi y6 prop).Kinds) v70) [] 0 (TColor.mk 0 0 0 0))) fun y74 =>
    chk ((decide (0 < v70)) = true → (!y74) = false → 0 ≤ (w64 (v70 - 1)) ∧ (w64 (v70 - 1)) < ln ((gi y6 prop).Kinds)) <|
    lt (cond (!y74) true (cond (decide (0 < v70)) (decide ((gi ((gi y6 prop).Kinds) v70) ≤ (gi ((gi y6 prop).Kinds) (w64 (v70 - 1))))) false)) fun x76 =>
    lt (cond x76 true ((gi ((gi y6 prop).Kinds) v70) == 1)) fun x77 =>
    cond x77 (
    some (.inl false)) (
    law25_PropsInitial_L2 m prop y6 kk (w64 (v70 + 1)))) (
    some (.inr ()))
def law25_PropsInitial (m : Nat) (prop : Int) : Option (Bool) :=
  Option.bind (law25_alive m) fun y3 =>
  Option.bind (props_Table m) fun y6 =>
  cond (cond ((ln y6) != 18) true (!y3)) (
  some false) (
  lt (cond (decide (prop < 0)) true (decide ((ln y6) ≤ prop))) fun x17 =>
  cond x17 (
  chk (0 ≤ (0 : Int) ∧ (0 : Int) < ln y6) <|
  Option.bind (props_Has m prop ((gi y6 (0 : Int)).Initial)) fun y21 =>
  some (cond y3 (y21.2 == 2) false)) (
  chk (0 ≤ prop ∧ prop < ln y6) <|
  Option.bind (props_Find m ((gi y6 prop).Name)) fun y34 =>
  Option.bind (props_Inherited m ((gi y6 prop).Name)) fun y37 =>
  lt (cond (cond (y34.2 != 0) true (y34.1 != prop)) true (y37.2 != 0)) fun x40 =>
  lt (cond x40 true (!(y37.1 == ((gi y6 prop).Inherited)))) fun x41 =>
  Option.bind (cond x41 (some default) (props_Custom ((gi y6 prop).Name))) fun y42 =>
  Option.bind (cond (cond x41 true y42) (some default) (law25_has m prop ((gi y6 prop).Initial))) fun y43 =>
  Option.bind (cond (cond (cond x41 true y42) true (!y43)) (some default) (props_Check ((gi y6 prop).Initial))) fun y44 =>
  lt (cond (cond (cond x41 true y42) true (!y43)) true (y44 != 0)) fun x45 =>
  cond x45 (
  some false) (
  Option.bind (
  law25_PropsInitial_L1 m prop y6 m 0) fun (z50 : Sum (Bool) (Unit)) => sumK z50 fun s_z50 =>
  Option.bind (
  law25_PropsInitial_L2 m prop y6 m 0) fun (z67 : Sum (Bool) (Unit)) => sumK z67 fun s_z67 =>
  lt (cond y3 (decide (0 < (w64 ((ln ((gi y6 prop).Words)) + (ln ((gi y6 prop).Kinds)))))) false) fun x85 =>
  some x85)))
theorem law25_PropsInitial_w  (M : Av) (m : Nat) (prop : Int) (r : Bool) (hm : law25_PropsInitial m prop = some r) (w : World) (hS : S0 M [Ent.im (tI .u8) gl_strings_asciiSpace (Gh.mk (some ⟨0, 0, none⟩) 256 fun _ _ => .nil)] w) : Calls Tryd.prog 5 ⟨[.int .i64 prop]⟩ w (fun e w' => ∃ v, e = .returned v ∧ v = .bool r ∧ SH M (fpl [Ent.im (tI .u8) gl_strings_asciiSpace (Gh.mk (some ⟨0, 0, none⟩) 256 fun _ _ => .nil)]) w [] w') := by
  rw [law25_PropsInitial] at hm
  have hS0 : SH M (fpl [Ent.im (tI .u8) gl_strings_asciiSpace (Gh.mk (some ⟨0, 0, none⟩) 256 fun _ _ => .nil)]) w [Ent.im (tI .u8) gl_strings_asciiSpace (Gh.mk (some ⟨0, 0, none⟩) 256 fun _ _ => .nil)] w := hS
  generalize hX : fpl [Ent.im (tI .u8) gl_strings_asciiSpace (Gh.mk (some ⟨0, 0, none⟩) 256 fun _ _ => .nil)] = X at hS0 ⊢
  clear hS hX
  have hS := hS0
  clear hS0
  refine calls_entryP Tryd.func5 rfl Tryd.ntmps5 rfl fun _ H => ?_
  refine s_reg [] [0] [(0, [], .int .i64 prop)] [] H (by kernel_rfl) trivial fun _ wd1 H2 hb => ?_
  clear H
  replace hS := hS.below hb
  clear hb
  obtain ⟨y3, hy3, hm⟩ := bindE hm
  refine s_reg [(.bool y3)] [0, 3] [(0, [], .int .i64 prop), (3, [], .bool y3)] [fun wz => RetB Tryd.prog 20 ⟨[]⟩ (.bool y3) wz] H2 (by kernel_rfl) ⟨(law25_alive_ok m _ hy3 _ (s0im s0nil (hS.im 0 rfl))), trivial⟩ fun _ wd4 H5 hb => ?_
  clear H2
  replace hS := hS.below hb
  clear hb
  refine w_seq ?_
  refine wl_start ?_
  obtain ⟨y6, hy6, hm⟩ := bindE hm
  have hd : S0 (AvL M [Ent.im (tI .u8) gl_strings_asciiSpace (Gh.mk (some ⟨0, 0, none⟩) 256 fun _ _ => .nil)]) [Ent.im (tI .u8) gl_strings_asciiSpace (Gh.mk (some ⟨0, 0, none⟩) 256 fun _ _ => .nil)] _ := hS.hand [0] [0] rfl rfl
  refine m_stp [15, 0, 3] [(0, [], .int .i64 prop), (3, [], .bool y3)] H5 rfl rfl rfl rfl (o_callx H5 rfl rfl (props_Table_ok m _ hy6 _ _ hd)) (fun _ => rfl) fun _ wd9 v H10 hq => ?_
  clear H5 hd
  obtain ⟨g7, rfl, hq⟩ := hq
  replace hS : SH M X w [Ent.own 51 tyProp y6 g7, Ent.im (tI .u8) gl_strings_asciiSpace (Gh.mk (some ⟨0, 0, none⟩) 256 fun _ _ => .nil)] _ := hS.join [0] [0] rfl rfl hq
  clear hq
  refine wl_batch 1 2 [] [0, 3, 4] [(0, [], .int .i64 prop), (3, [], .bool y3), (4, [], .slice g7.a y6.length g7.c)] [] H10 (by decide) (by kernel_rfl) trivial fun _ wd11 H12 hb => ?_
  clear H10
  replace hS := hS.below hb
  clear hb
  refine wl_end rfl ?_
  refine w_seq ?_
  refine s_reg [] [0, 3, 4, 22] [(0, [], .int .i64 prop), (3, [], .bool y3), (4, [], .slice g7.a y6.length g7.c), (22, [], .bool (cond ((ln y6) != 18) true (!y3)))] [] H12 (by kernel_rfl) trivial fun _ wd13 H14 hb => ?_
  clear H12
  replace hS := hS.below hb
  clear hb
  refine w_if H14 rfl (fun hc => ?_) (fun hc => ?_)
  · replace hm := bT hc hm
    refine s_reg [] [2] [(2, [], .bool false)] [] H14 (by kernel_rfl) trivial fun _ wd15 H16 hb => ?_
    clear H14
    replace hS := hS.below hb
    clear hb
    replace hS : SH M X w [Ent.im (tI .u8) gl_strings_asciiSpace (Gh.mk (some ⟨0, 0, none⟩) 256 fun _ _ => .nil)] _ := hS.sel [1] rfl
    refine w_ret ?_
    obtain rfl := someE hm
    exact retR1 H16 rfl rfl ⟨_, rfl, rfl, (hS.sel [] rfl)⟩
  · replace hm := bF hc hm
    refine w_skip ?_
    refine w_seq ?_
    obtain ⟨x17, hx17, hm⟩ := letE hm
    refine s_reg [] [0, 3, 4, 30] [(0, [], .int .i64 prop), (3, [], .bool y3), (4, [], .slice g7.a y6.length g7.c), (30, [], .bool x17)] [] H14 (by subst hx17; kernel_rfl) trivial fun _ wd18 H19 hb => ?_
    clear H14
    replace hS := hS.below hb
    clear hb
    refine w_if H19 rfl (fun hc => ?_) (fun hc => ?_)
    · replace hm := bT hc hm
      obtain ⟨ho20, hm⟩ := chkE hm
      obtain ⟨y21, hy21, hm⟩ := bindE hm
      refine s_reg [(.agg ⟨[.int .u8 ((gi y6 (0 : Int)).Initial.Kind), .string ⟨⟨(gi y6 (0 : Int)).Initial.Word⟩⟩, .int .i64 ((gi y6 (0 : Int)).Initial.Num), .int .u8 ((gi y6 (0 : Int)).Initial.Color.Red), .int .u8 ((gi y6 (0 : Int)).Initial.Color.Green), .int .u8 ((gi y6 (0 : Int)).Initial.Color.Blue), .int .u8 ((gi y6 (0 : Int)).Initial.Color.Alpha)]⟩), (.tuple ⟨[.bool y21.1, .int .i64 y21.2]⟩)] [3, 6] [(3, [], .bool y3), (6, [], .int .i64 y21.2)] [fun _ => oka g7.a ∧ 0 ≤ (0 : Int) ∧ (0 : Int) < ln y6, fun wz => V.atN (ab g7.a) (ao g7.a + ((0 : Int)).toNat * 12 + 2) [.int .u8 ((gi y6 (0 : Int)).Initial.Kind), .string ⟨⟨(gi y6 (0 : Int)).Initial.Word⟩⟩, .int .i64 ((gi y6 (0 : Int)).Initial.Num), .int .u8 ((gi y6 (0 : Int)).Initial.Color.Red), .int .u8 ((gi y6 (0 : Int)).Initial.Color.Green), .int .u8 ((gi y6 (0 : Int)).Initial.Color.Blue), .int .u8 ((gi y6 (0 : Int)).Initial.Color.Alpha)] 0 wz, fun wz => RetB Tryd.prog 13 ⟨[.int .i64 prop, .agg ⟨[.int .u8 ((gi y6 (0 : Int)).Initial.Kind), .string ⟨⟨(gi y6 (0 : Int)).Initial.Word⟩⟩, .int .i64 ((gi y6 (0 : Int)).Initial.Num), .int .u8 ((gi y6 (0 : Int)).Initial.Color.Red), .int .u8 ((gi y6 (0 : Int)).Initial.Color.Green), .int .u8 ((gi y6 (0 : Int)).Initial.Color.Blue), .int .u8 ((gi y6 (0 : Int)).Initial.Color.Alpha)]⟩]⟩ (.tuple ⟨[.bool y21.1, .int .i64 y21.2]⟩) wz] H19 (by kernel_rfl) ⟨((hS.osl 0 rfl).oki ho20), ((hS.osl 0 rfl).atA ho20 2 rfl), (props_Has_ok m _ _ _ hy21 _ (s0im s0nil (hS.im 1 rfl))), trivial⟩ fun _ wd22 H23 hb => ?_
      clear H19
      replace hS := hS.below hb
      clear hb
      replace hS : SH M X w [Ent.im (tI .u8) gl_strings_asciiSpace (Gh.mk (some ⟨0, 0, none⟩) 256 fun _ _ => .nil)] _ := hS.sel [1] rfl
      refine s_reg [] [2] [(2, [], .bool (cond y3 (y21.2 == 2) false))] [] H23 (by kernel_rfl) trivial fun _ wd24 H25 hb => ?_
      clear H23
      replace hS := hS.below hb
      clear hb
      refine w_ret ?_
      obtain rfl := someE hm
      exact retR1 H25 rfl rfl ⟨_, rfl, rfl, (hS.sel [] rfl)⟩
    · replace hm := bF hc hm
      refine w_skip ?_
      refine w_seq ?_
      refine wl_start ?_
      obtain ⟨ho26, hm⟩ := chkE hm
      refine wl_batch 0 4 [(.agg ⟨[.string ⟨⟨(gi y6 prop).Name⟩⟩, .bool ((gi y6 prop).Inherited), .int .u8 ((gi y6 prop).Initial.Kind), .string ⟨⟨(gi y6 prop).Initial.Word⟩⟩, .int .i64 ((gi y6 prop).Initial.Num), .int .u8 ((gi y6 prop).Initial.Color.Red), .int .u8 ((gi y6 prop).Initial.Color.Green), .int .u8 ((gi y6 prop).Initial.Color.Blue), .int .u8 ((gi y6 prop).Initial.Color.Alpha), .slice (g7.s (prop).toNat 0).a (((gi y6 prop).Words).length) (g7.s (prop).toNat 0).c, .slice (g7.s (prop).toNat 1).a (((gi y6 prop).Kinds).length) (g7.s (prop).toNat 1).c, .bool ((gi y6 prop).Least)]⟩)] [0, 3, 48] [(0, [], .int .i64 prop), (3, [], .bool y3), (48, [], .agg ⟨[.string ⟨⟨(gi y6 prop).Name⟩⟩, .bool ((gi y6 prop).Inherited), .int .u8 ((gi y6 prop).Initial.Kind), .string ⟨⟨(gi y6 prop).Initial.Word⟩⟩, .int .i64 ((gi y6 prop).Initial.Num), .int .u8 ((gi y6 prop).Initial.Color.Red), .int .u8 ((gi y6 prop).Initial.Color.Green), .int .u8 ((gi y6 prop).Initial.Color.Blue), .int .u8 ((gi y6 prop).Initial.Color.Alpha), .slice (g7.s (prop).toNat 0).a (((gi y6 prop).Words).length) (g7.s (prop).toNat 0).c, .slice (g7.s (prop).toNat 1).a (((gi y6 prop).Kinds).length) (g7.s (prop).toNat 1).c, .bool ((gi y6 prop).Least)]⟩)] [fun _ => oka g7.a ∧ 0 ≤ prop ∧ prop < ln y6, fun wz => V.atN (ab g7.a) (ao g7.a + (prop).toNat * 12) [.string ⟨⟨(gi y6 prop).Name⟩⟩, .bool ((gi y6 prop).Inherited), .int .u8 ((gi y6 prop).Initial.Kind), .string ⟨⟨(gi y6 prop).Initial.Word⟩⟩, .int .i64 ((gi y6 prop).Initial.Num), .int .u8 ((gi y6 prop).Initial.Color.Red), .int .u8 ((gi y6 prop).Initial.Color.Green), .int .u8 ((gi y6 prop).Initial.Color.Blue), .int .u8 ((gi y6 prop).Initial.Color.Alpha), .slice (g7.s (prop).toNat 0).a (((gi y6 prop).Words).length) (g7.s (prop).toNat 0).c, .slice (g7.s (prop).toNat 1).a (((gi y6 prop).Kinds).length) (g7.s (prop).toNat 1).c, .bool ((gi y6 prop).Least)] 0 wz] H19 (by decide) (by kernel_rfl) ⟨((hS.osl 0 rfl).oki ho26), ((hS.osl 0 rfl).atA ho26 0 rfl), trivial⟩ fun _ wd27 H28 hb => ?_
      clear H19
      replace hS := hS.below hb
      clear hb
      have hd : S0 (AvL M [Ent.own 51 tyProp y6 g7, Ent.im (tI .u8) gl_strings_asciiSpace (Gh.mk (some ⟨0, 0, none⟩) 256 fun _ _ => .nil)]) [] _ := hS.hand [] [0, 1] rfl rfl
      refine m_stp [7, 0, 3, 48] [(0, [], .int .i64 prop), (3, [], .bool y3), (48, [], .agg ⟨[.string ⟨⟨(gi y6 prop).Name⟩⟩, .bool ((gi y6 prop).Inherited), .int .u8 ((gi y6 prop).Initial.Kind), .string ⟨⟨(gi y6 prop).Initial.Word⟩⟩, .int .i64 ((gi y6 prop).Initial.Num), .int .u8 ((gi y6 prop).Initial.Color.Red), .int .u8 ((gi y6 prop).Initial.Color.Green), .int .u8 ((gi y6 prop).Initial.Color.Blue), .int .u8 ((gi y6 prop).Initial.Color.Alpha), .slice (g7.s (prop).toNat 0).a (((gi y6 prop).Words).length) (g7.s (prop).toNat 0).c, .slice (g7.s (prop).toNat 1).a (((gi y6 prop).Kinds).length) (g7.s (prop).toNat 1).c, .bool ((gi y6 prop).Least)]⟩)] H28 rfl rfl rfl rfl (o_alloc [.string ⟨⟨[]⟩⟩, .bool false, .int .u8 0, .string ⟨⟨[]⟩⟩, .int .i64 0, .int .u8 0, .int .u8 0, .int .u8 0, .int .u8 0, .slice none 0 0, .slice none 0 0, .bool false] (z := .agg ⟨[.string ⟨⟨[]⟩⟩, .bool false, .int .u8 0, .string ⟨⟨[]⟩⟩, .int .i64 0, .int .u8 0, .int .u8 0, .int .u8 0, .int .u8 0, .slice none 0 0, .slice none 0 0, .bool false]⟩) hd (by kernel_rfl) rfl) (fun _ => rfl) fun _ wd30 v H31 hq => ?_
      clear H28 hd
      obtain ⟨b29, rfl, hq⟩ := hq
      replace hS : SH M X w [Ent.blk b29 [.string ⟨⟨[]⟩⟩, .bool false, .int .u8 0, .string ⟨⟨[]⟩⟩, .int .i64 0, .int .u8 0, .int .u8 0, .int .u8 0, .int .u8 0, .slice none 0 0, .slice none 0 0, .bool false], Ent.own 51 tyProp y6 g7, Ent.im (tI .u8) gl_strings_asciiSpace (Gh.mk (some ⟨0, 0, none⟩) 256 fun _ _ => .nil)] _ := hS.join [] [0, 1] rfl rfl hq
      clear hq
      have hd : S0 (AvL M [Ent.own 51 tyProp y6 g7, Ent.im (tI .u8) gl_strings_asciiSpace (Gh.mk (some ⟨0, 0, none⟩) 256 fun _ _ => .nil)]) [Ent.blk b29 [.string ⟨⟨[]⟩⟩, .bool false, .int .u8 0, .string ⟨⟨[]⟩⟩, .int .i64 0, .int .u8 0, .int .u8 0, .int .u8 0, .int .u8 0, .slice none 0 0, .slice none 0 0, .bool false]] _ := hS.hand [0] [1, 2] rfl rfl
      refine m_stp0 [0, 3, 7] [(0, [], .int .i64 prop), (3, [], .bool y3), (7, [], .pointer (some ⟨b29, 0, none⟩))] H31 rfl rfl rfl (o_store [.string ⟨⟨(gi y6 prop).Name⟩⟩, .bool ((gi y6 prop).Inherited), .int .u8 ((gi y6 prop).Initial.Kind), .string ⟨⟨(gi y6 prop).Initial.Word⟩⟩, .int .i64 ((gi y6 prop).Initial.Num), .int .u8 ((gi y6 prop).Initial.Color.Red), .int .u8 ((gi y6 prop).Initial.Color.Green), .int .u8 ((gi y6 prop).Initial.Color.Blue), .int .u8 ((gi y6 prop).Initial.Color.Alpha), .slice (g7.s (prop).toNat 0).a (((gi y6 prop).Words).length) (g7.s (prop).toNat 0).c, .slice (g7.s (prop).toNat 1).a (((gi y6 prop).Kinds).length) (g7.s (prop).toNat 1).c, .bool ((gi y6 prop).Least)] H31 hd rfl rfl (by kernel_rfl) rfl rfl rfl) rfl fun _ wd32 H33 hq => ?_
      clear H31 hd
      obtain ⟨_, hq⟩ := hq
      replace hS : SH M X w [Ent.blk b29 [.string ⟨⟨(gi y6 prop).Name⟩⟩, .bool ((gi y6 prop).Inherited), .int .u8 ((gi y6 prop).Initial.Kind), .string ⟨⟨(gi y6 prop).Initial.Word⟩⟩, .int .i64 ((gi y6 prop).Initial.Num), .int .u8 ((gi y6 prop).Initial.Color.Red), .int .u8 ((gi y6 prop).Initial.Color.Green), .int .u8 ((gi y6 prop).Initial.Color.Blue), .int .u8 ((gi y6 prop).Initial.Color.Alpha), .slice (g7.s (prop).toNat 0).a (((gi y6 prop).Words).length) (g7.s (prop).toNat 0).c, .slice (g7.s (prop).toNat 1).a (((gi y6 prop).Kinds).length) (g7.s (prop).toNat 1).c, .bool ((gi y6 prop).Least)], Ent.own 51 tyProp y6 g7, Ent.im (tI .u8) gl_strings_asciiSpace (Gh.mk (some ⟨0, 0, none⟩) 256 fun _ _ => .nil)] _ := hS.join [0] [1, 2] rfl rfl hq
      clear hq
      refine wl_end rfl ?_
      obtain ⟨y34, hy34, hm⟩ := bindE hm
      refine s_reg [(.string ⟨⟨(gi y6 prop).Name⟩⟩), (.tuple ⟨[.int .i64 y34.1, .int .i64 y34.2]⟩)] [0, 3, 7, 8, 9] [(0, [], .int .i64 prop), (3, [], .bool y3), (7, [], .pointer (some ⟨b29, 0, none⟩)), (8, [], .int .i64 y34.1), (9, [], .int .i64 y34.2)] [fun wz => V.at1 ⟨b29, 0, none⟩ (.string ⟨⟨(gi y6 prop).Name⟩⟩) wz, fun wz => RetB Tryd.prog 9 ⟨[.string ⟨⟨(gi y6 prop).Name⟩⟩]⟩ (.tuple ⟨[.int .i64 y34.1, .int .i64 y34.2]⟩) wz] H33 (by kernel_rfl) ⟨((hS.bk 0 rfl).at1 rfl), (props_Find_ok m _ _ hy34 _ (s0im s0nil (hS.im 2 rfl))), trivial⟩ fun _ wd35 H36 hb => ?_
      clear H33
      replace hS := hS.below hb
      clear hb
      obtain ⟨y37, hy37, hm⟩ := bindE hm
      refine s_reg [(.string ⟨⟨(gi y6 prop).Name⟩⟩), (.tuple ⟨[.bool y37.1, .int .i64 y37.2]⟩)] [0, 3, 7, 8, 9, 10, 11] [(0, [], .int .i64 prop), (3, [], .bool y3), (7, [], .pointer (some ⟨b29, 0, none⟩)), (8, [], .int .i64 y34.1), (9, [], .int .i64 y34.2), (10, [], .bool y37.1), (11, [], .int .i64 y37.2)] [fun wz => V.at1 ⟨b29, 0, none⟩ (.string ⟨⟨(gi y6 prop).Name⟩⟩) wz, fun wz => RetB Tryd.prog 11 ⟨[.string ⟨⟨(gi y6 prop).Name⟩⟩]⟩ (.tuple ⟨[.bool y37.1, .int .i64 y37.2]⟩) wz] H36 (by kernel_rfl) ⟨((hS.bk 0 rfl).at1 rfl), (props_Inherited_ok m _ _ hy37 _ (s0im s0nil (hS.im 2 rfl))), trivial⟩ fun _ wd38 H39 hb => ?_
      clear H36
      replace hS := hS.below hb
      clear hb
      refine w_seq ?_
      obtain ⟨x40, hx40, hm⟩ := letE hm
      obtain ⟨x41, hx41, hm⟩ := letE hm
      obtain ⟨y42, hy42, hm⟩ := bindE hm
      obtain ⟨y43, hy43, hm⟩ := bindE hm
      obtain ⟨y44, hy44, hm⟩ := bindE hm
      obtain ⟨x45, hx45, hm⟩ := letE hm
      refine s_reg [(.bool ((gi y6 prop).Inherited)), (.string ⟨⟨(gi y6 prop).Name⟩⟩), (.bool y42), (.agg ⟨[.int .u8 ((gi y6 prop).Initial.Kind), .string ⟨⟨(gi y6 prop).Initial.Word⟩⟩, .int .i64 ((gi y6 prop).Initial.Num), .int .u8 ((gi y6 prop).Initial.Color.Red), .int .u8 ((gi y6 prop).Initial.Color.Green), .int .u8 ((gi y6 prop).Initial.Color.Blue), .int .u8 ((gi y6 prop).Initial.Color.Alpha)]⟩), (.bool y43), (.agg ⟨[.int .u8 ((gi y6 prop).Initial.Kind), .string ⟨⟨(gi y6 prop).Initial.Word⟩⟩, .int .i64 ((gi y6 prop).Initial.Num), .int .u8 ((gi y6 prop).Initial.Color.Red), .int .u8 ((gi y6 prop).Initial.Color.Green), .int .u8 ((gi y6 prop).Initial.Color.Blue), .int .u8 ((gi y6 prop).Initial.Color.Alpha)]⟩), (.int .i64 y44)] [0, 3, 7, 95] [(0, [], .int .i64 prop), (3, [], .bool y3), (7, [], .pointer (some ⟨b29, 0, none⟩)), (95, [], .bool x45)] [fun wz => (x40 = false ∧ True → V.at1 ⟨b29, 1, none⟩ (.bool ((gi y6 prop).Inherited)) wz), fun wz => (x41 = false ∧ True → V.at1 ⟨b29, 0, none⟩ (.string ⟨⟨(gi y6 prop).Name⟩⟩) wz), fun wz => (x41 = false ∧ True → RetB Tryd.prog 15 ⟨[.string ⟨⟨(gi y6 prop).Name⟩⟩]⟩ (.bool y42) wz), fun wz => ((cond x41 true y42) = false ∧ True → V.atN b29 2 [.int .u8 ((gi y6 prop).Initial.Kind), .string ⟨⟨(gi y6 prop).Initial.Word⟩⟩, .int .i64 ((gi y6 prop).Initial.Num), .int .u8 ((gi y6 prop).Initial.Color.Red), .int .u8 ((gi y6 prop).Initial.Color.Green), .int .u8 ((gi y6 prop).Initial.Color.Blue), .int .u8 ((gi y6 prop).Initial.Color.Alpha)] 0 wz), fun wz => ((cond x41 true y42) = false ∧ True → RetB Tryd.prog 24 ⟨[.int .i64 prop, .agg ⟨[.int .u8 ((gi y6 prop).Initial.Kind), .string ⟨⟨(gi y6 prop).Initial.Word⟩⟩, .int .i64 ((gi y6 prop).Initial.Num), .int .u8 ((gi y6 prop).Initial.Color.Red), .int .u8 ((gi y6 prop).Initial.Color.Green), .int .u8 ((gi y6 prop).Initial.Color.Blue), .int .u8 ((gi y6 prop).Initial.Color.Alpha)]⟩]⟩ (.bool y43) wz), fun wz => ((cond (cond x41 true y42) true (!y43)) = false ∧ True → V.atN b29 2 [.int .u8 ((gi y6 prop).Initial.Kind), .string ⟨⟨(gi y6 prop).Initial.Word⟩⟩, .int .i64 ((gi y6 prop).Initial.Num), .int .u8 ((gi y6 prop).Initial.Color.Red), .int .u8 ((gi y6 prop).Initial.Color.Green), .int .u8 ((gi y6 prop).Initial.Color.Blue), .int .u8 ((gi y6 prop).Initial.Color.Alpha)] 0 wz), fun wz => ((cond (cond x41 true y42) true (!y43)) = false ∧ True → RetB Tryd.prog 17 ⟨[.agg ⟨[.int .u8 ((gi y6 prop).Initial.Kind), .string ⟨⟨(gi y6 prop).Initial.Word⟩⟩, .int .i64 ((gi y6 prop).Initial.Num), .int .u8 ((gi y6 prop).Initial.Color.Red), .int .u8 ((gi y6 prop).Initial.Color.Green), .int .u8 ((gi y6 prop).Initial.Color.Blue), .int .u8 ((gi y6 prop).Initial.Color.Alpha)]⟩]⟩ (.int .i64 y44) wz)] H39 (by subst hx40 hx41 hx45; kernel_rfl) ⟨fun hg => (hS.bk 0 rfl).at1 rfl, fun hg => (hS.bk 0 rfl).at1 rfl, fun hg => (props_Custom_ok _ _ (bF (hg.1) hy42)).b, fun hg => (hS.bk 0 rfl).atD rfl, fun hg => law25_has_ok m _ _ _ (bF (hg.1) hy43) _ (s0im s0nil (hS.im 2 rfl)), fun hg => (hS.bk 0 rfl).atD rfl, fun hg => (props_Check_ok _ _ (bF (hg.1) hy44)).b, trivial⟩ fun _ wd46 H47 hb => ?_
      clear H39
      replace hS := hS.below hb
      clear hb
      refine w_if H47 rfl (fun hc => ?_) (fun hc => ?_)
      · replace hm := bT hc hm
        refine s_reg [] [2] [(2, [], .bool false)] [] H47 (by kernel_rfl) trivial fun _ wd48 H49 hb => ?_
        clear H47
        replace hS := hS.below hb
        clear hb
        replace hS : SH M X w [Ent.im (tI .u8) gl_strings_asciiSpace (Gh.mk (some ⟨0, 0, none⟩) 256 fun _ _ => .nil)] _ := hS.sel [2] rfl
        refine w_ret ?_
        obtain rfl := someE hm
        exact retR1 H49 rfl rfl ⟨_, rfl, rfl, (hS.sel [] rfl)⟩
      · replace hm := bF hc hm
        refine w_skip ?_
        obtain ⟨z50, hz, hm_z50⟩ := bindE hm
        refine w_cut (fun a' w' => ∃ s_z50 : Unit, z50 = Sum.inr s_z50 ∧ Fr 183 [(0, [], .int .i64 prop), (3, [], .bool y3), (7, [], .pointer (some ⟨b29, 0, none⟩))] a' ∧ SH M X w [Ent.blk b29 [.string ⟨⟨(gi y6 prop).Name⟩⟩, .bool ((gi y6 prop).Inherited), .int .u8 ((gi y6 prop).Initial.Kind), .string ⟨⟨(gi y6 prop).Initial.Word⟩⟩, .int .i64 ((gi y6 prop).Initial.Num), .int .u8 ((gi y6 prop).Initial.Color.Red), .int .u8 ((gi y6 prop).Initial.Color.Green), .int .u8 ((gi y6 prop).Initial.Color.Blue), .int .u8 ((gi y6 prop).Initial.Color.Alpha), .slice (g7.s (prop).toNat 0).a (((gi y6 prop).Words).length) (g7.s (prop).toNat 0).c, .slice (g7.s (prop).toNat 1).a (((gi y6 prop).Kinds).length) (g7.s (prop).toNat 1).c, .bool ((gi y6 prop).Least)], Ent.own 51 tyProp y6 g7, Ent.im (tI .u8) gl_strings_asciiSpace (Gh.mk (some ⟨0, 0, none⟩) 256 fun _ _ => .nil)] w') ?_ ?_
        · replace hm := hz
          refine s_reg [] [0, 3, 7, 12] [(0, [], .int .i64 prop), (3, [], .bool y3), (7, [], .pointer (some ⟨b29, 0, none⟩)), (12, [], .int .i64 0)] [] H47 (by kernel_rfl) trivial fun _ wd51 H52 hb => ?_
          clear H47
          replace hS := hS.below hb
          clear hb
          refine w_block ?_
          refine w_loop (fun kk a' w' => ∃ (v53 : Int), law25_PropsInitial_L1 m prop y6 kk v53 = some _ ∧ Fr 183 [(0, [], .int .i64 prop), (3, [], .bool y3), (7, [], .pointer (some ⟨b29, 0, none⟩)), (12, [], .int .i64 v53)] a' ∧ SH M X w [Ent.blk b29 [.string ⟨⟨(gi y6 prop).Name⟩⟩, .bool ((gi y6 prop).Inherited), .int .u8 ((gi y6 prop).Initial.Kind), .string ⟨⟨(gi y6 prop).Initial.Word⟩⟩, .int .i64 ((gi y6 prop).Initial.Num), .int .u8 ((gi y6 prop).Initial.Color.Red), .int .u8 ((gi y6 prop).Initial.Color.Green), .int .u8 ((gi y6 prop).Initial.Color.Blue), .int .u8 ((gi y6 prop).Initial.Color.Alpha), .slice (g7.s (prop).toNat 0).a (((gi y6 prop).Words).length) (g7.s (prop).toNat 0).c, .slice (g7.s (prop).toNat 1).a (((gi y6 prop).Kinds).length) (g7.s (prop).toNat 1).c, .bool ((gi y6 prop).Least)], Ent.own 51 tyProp y6 g7, Ent.im (tI .u8) gl_strings_asciiSpace (Gh.mk (some ⟨0, 0, none⟩) 256 fun _ _ => .nil)] w') ⟨_, 0, hm, Fr.keep (ks := [0, 3, 7, 12]) H52 (by kernel_rfl), hS⟩ ?_
          clear hm H52 hS
          rintro kk _ wd66 ⟨v53, hm, H, hS⟩
          cases kk with
          | zero => exact noneE hm
          | succ kk =>
            rw [law25_PropsInitial_L1] at hm
            refine w_seq ?_
            refine s_reg [(.slice (g7.s (prop).toNat 0).a (((gi y6 prop).Words).length) (g7.s (prop).toNat 0).c)] [0, 3, 7, 12, 100] [(0, [], .int .i64 prop), (3, [], .bool y3), (7, [], .pointer (some ⟨b29, 0, none⟩)), (12, [], .int .i64 v53), (100, [], .bool (decide (v53 < (ln ((gi y6 prop).Words)))))] [fun wz => V.at1 ⟨b29, 9, none⟩ (.slice (g7.s (prop).toNat 0).a (((gi y6 prop).Words).length) (g7.s (prop).toNat 0).c) wz] H (by kernel_rfl) ⟨((hS.bk 0 rfl).at1 rfl), trivial⟩ fun _ wd54 H55 hb => ?_
            clear H
            replace hS := hS.below hb
            clear hb
            refine w_if H55 rfl (fun hc => ?_) (fun hc => ?_)
            · replace hm := bT hc hm
              refine w_skip ?_
              refine w_seq ?_
              refine w_block ?_
              obtain ⟨ho56, hm⟩ := chkE hm
              obtain ⟨y57, hy57, hm⟩ := bindE hm
              obtain ⟨ho58, hm⟩ := chkE hm
              obtain ⟨x59, hx59, hm⟩ := letE hm
              refine s_draw [(.slice (g7.s (prop).toNat 0).a (((gi y6 prop).Words).length) (g7.s (prop).toNat 0).c), (.string ⟨⟨(gi ((gi y6 prop).Words) v53)⟩⟩), (.bool y57), (.slice (g7.s (prop).toNat 0).a (((gi y6 prop).Words).length) (g7.s (prop).toNat 0).c), (.string ⟨⟨(gi ((gi y6 prop).Words) (w64 (v53 - 1)))⟩⟩), (.slice (g7.s (prop).toNat 0).a (((gi y6 prop).Words).length) (g7.s (prop).toNat 0).c), (.string ⟨⟨(gi ((gi y6 prop).Words) v53)⟩⟩)] [0, 3, 7, 12, 129] [(0, [], .int .i64 prop), (3, [], .bool y3), (7, [], .pointer (some ⟨b29, 0, none⟩)), (12, [], .int .i64 v53), (129, [], .bool x59)] [fun wz => V.at1 ⟨b29, 9, none⟩ (.slice (g7.s (prop).toNat 0).a (((gi y6 prop).Words).length) (g7.s (prop).toNat 0).c) wz, fun _ => oka (g7.s (prop).toNat 0).a ∧ 0 ≤ v53 ∧ v53 < ln ((gi y6 prop).Words), fun wz => V.at1 ⟨ab (g7.s (prop).toNat 0).a, ao (g7.s (prop).toNat 0).a + (v53).toNat * 1, none⟩ (.string ⟨⟨(gi ((gi y6 prop).Words) v53)⟩⟩) wz, fun wz => RetB Tryd.prog 24 ⟨[.int .i64 prop, .agg ⟨[.int .u8 1, .string ⟨⟨(gi ((gi y6 prop).Words) v53)⟩⟩, .int .i64 0, .int .u8 0, .int .u8 0, .int .u8 0, .int .u8 0]⟩]⟩ (.bool y57) wz, fun wz => ((decide (0 < v53)) = true ∧ (!y57) = false ∧ True → V.at1 ⟨b29, 9, none⟩ (.slice (g7.s (prop).toNat 0).a (((gi y6 prop).Words).length) (g7.s (prop).toNat 0).c) wz), fun _ => ((decide (0 < v53)) = true ∧ (!y57) = false ∧ True → oka (g7.s (prop).toNat 0).a ∧ 0 ≤ (w64 (v53 - 1)) ∧ (w64 (v53 - 1)) < ln ((gi y6 prop).Words)), fun wz => ((decide (0 < v53)) = true ∧ (!y57) = false ∧ True → V.at1 ⟨ab (g7.s (prop).toNat 0).a, ao (g7.s (prop).toNat 0).a + ((w64 (v53 - 1))).toNat * 1, none⟩ (.string ⟨⟨(gi ((gi y6 prop).Words) (w64 (v53 - 1)))⟩⟩) wz), fun wz => ((decide (0 < v53)) = true ∧ (!y57) = false ∧ True → V.at1 ⟨b29, 9, none⟩ (.slice (g7.s (prop).toNat 0).a (((gi y6 prop).Words).length) (g7.s (prop).toNat 0).c) wz), fun _ => ((decide (0 < v53)) = true ∧ (!y57) = false ∧ True → oka (g7.s (prop).toNat 0).a ∧ 0 ≤ v53 ∧ v53 < ln ((gi y6 prop).Words)), fun wz => ((decide (0 < v53)) = true ∧ (!y57) = false ∧ True → V.at1 ⟨ab (g7.s (prop).toNat 0).a, ao (g7.s (prop).toNat 0).a + (v53).toNat * 1, none⟩ (.string ⟨⟨(gi ((gi y6 prop).Words) v53)⟩⟩) wz)] H55 (by kernel_rfl) (by kernel_rfl) (by subst hx59; kernel_rfl) ⟨((hS.bk 0 rfl).at1 rfl), ((tyProp_i0 ((hS.osl 1 rfl).el ho26)).oki ho56), ((tyProp_i0 ((hS.osl 1 rfl).el ho26)).at1 ho56 0 rfl), (law25_has_ok m _ _ _ hy57 _ (s0im s0nil (hS.im 2 rfl))), fun hg => (hS.bk 0 rfl).at1 rfl, fun hg => (tyProp_i0 ((hS.osl 1 rfl).el ho26)).oki (ho58 hg.1 hg.2.1), fun hg => (tyProp_i0 ((hS.osl 1 rfl).el ho26)).at1 (ho58 hg.1 hg.2.1) 0 rfl, fun hg => (hS.bk 0 rfl).at1 rfl, fun hg => (tyProp_i0 ((hS.osl 1 rfl).el ho26)).oki ho56, fun hg => (tyProp_i0 ((hS.osl 1 rfl).el ho26)).at1 ho56 0 rfl, trivial⟩ fun _ wd60 H61 hb => ?_
              clear H55
              replace hS := hS.below hb
              clear hb
              refine w_if H61 rfl (fun hc => ?_) (fun hc => ?_)
              · replace hm := bT hc hm
                refine s_reg [] [2] [(2, [], .bool false)] [] H61 (by kernel_rfl) trivial fun _ wd62 H63 hb => ?_
                clear H61
                replace hS := hS.below hb
                clear hb
                refine w_ret ?_
                obtain rfl := someE hm
                have hm := hm_z50
                obtain rfl := someE hm
                exact retR1 H63 rfl rfl ⟨_, rfl, rfl, (hS.sel [] rfl)⟩
              · replace hm := bF hc hm
                refine w_skip ?_
                refine w_reg [] [0, 3, 7, 12] [(0, [], .int .i64 prop), (3, [], .bool y3), (7, [], .pointer (some ⟨b29, 0, none⟩)), (12, [], .int .i64 (w64 (v53 + 1)))] [] H61 (by kernel_rfl) trivial fun _ wd64 H65 hb => ?_
                clear H61
                replace hS := hS.below hb
                clear hb
                exact ⟨_, Nat.lt_succ_self _, w64 (v53 + 1), hm, Fr.keep (ks := [0, 3, 7, 12]) H65 (by kernel_rfl), hS⟩
            · replace hm := bF hc hm
              refine w_exit rfl ?_
              obtain rfl := someE hm
              exact ⟨_, rfl, Fr.keep (ks := [0, 3, 7]) H55 (by kernel_rfl), hS⟩
        · rintro _ wd89 ⟨s_z50, hz, H, hS⟩
          subst hz
          replace hm := sumR hm_z50
          obtain ⟨z67, hz, hm_z67⟩ := bindE hm
          refine w_cut (fun a' w' => ∃ s_z67 : Unit, z67 = Sum.inr s_z67 ∧ Fr 183 [(3, [], .bool y3), (7, [], .pointer (some ⟨b29, 0, none⟩))] a' ∧ SH M X w [Ent.blk b29 [.string ⟨⟨(gi y6 prop).Name⟩⟩, .bool ((gi y6 prop).Inherited), .int .u8 ((gi y6 prop).Initial.Kind), .string ⟨⟨(gi y6 prop).Initial.Word⟩⟩, .int .i64 ((gi y6 prop).Initial.Num), .int .u8 ((gi y6 prop).Initial.Color.Red), .int .u8 ((gi y6 prop).Initial.Color.Green), .int .u8 ((gi y6 prop).Initial.Color.Blue), .int .u8 ((gi y6 prop).Initial.Color.Alpha), .slice (g7.s (prop).toNat 0).a (((gi y6 prop).Words).length) (g7.s (prop).toNat 0).c, .slice (g7.s (prop).toNat 1).a (((gi y6 prop).Kinds).length) (g7.s (prop).toNat 1).c, .bool ((gi y6 prop).Least)], Ent.own 51 tyProp y6 g7, Ent.im (tI .u8) gl_strings_asciiSpace (Gh.mk (some ⟨0, 0, none⟩) 256 fun _ _ => .nil)] w') ?_ ?_
          · replace hm := hz
            refine s_reg [] [0, 3, 7, 13] [(0, [], .int .i64 prop), (3, [], .bool y3), (7, [], .pointer (some ⟨b29, 0, none⟩)), (13, [], .int .i64 0)] [] H (by kernel_rfl) trivial fun _ wd68 H69 hb => ?_
            clear H
            replace hS := hS.below hb
            clear hb
            refine w_block ?_
            refine w_loop (fun kk a' w' => ∃ (v70 : Int), law25_PropsInitial_L2 m prop y6 kk v70 = some _ ∧ Fr 183 [(0, [], .int .i64 prop), (3, [], .bool y3), (7, [], .pointer (some ⟨b29, 0, none⟩)), (13, [], .int .i64 v70)] a' ∧ SH M X w [Ent.blk b29 [.string ⟨⟨(gi y6 prop).Name⟩⟩, .bool ((gi y6 prop).Inherited), .int .u8 ((gi y6 prop).Initial.Kind), .string ⟨⟨(gi y6 prop).Initial.Word⟩⟩, .int .i64 ((gi y6 prop).Initial.Num), .int .u8 ((gi y6 prop).Initial.Color.Red), .int .u8 ((gi y6 prop).Initial.Color.Green), .int .u8 ((gi y6 prop).Initial.Color.Blue), .int .u8 ((gi y6 prop).Initial.Color.Alpha), .slice (g7.s (prop).toNat 0).a (((gi y6 prop).Words).length) (g7.s (prop).toNat 0).c, .slice (g7.s (prop).toNat 1).a (((gi y6 prop).Kinds).length) (g7.s (prop).toNat 1).c, .bool ((gi y6 prop).Least)], Ent.own 51 tyProp y6 g7, Ent.im (tI .u8) gl_strings_asciiSpace (Gh.mk (some ⟨0, 0, none⟩) 256 fun _ _ => .nil)] w') ⟨_, 0, hm, Fr.keep (ks := [0, 3, 7, 13]) H69 (by kernel_rfl), hS⟩ ?_
            clear hm H69 hS
            rintro kk _ wd84 ⟨v70, hm, H, hS⟩
            cases kk with
            | zero => exact noneE hm
            | succ kk =>
              rw [law25_PropsInitial_L2] at hm
              refine w_seq ?_
              refine s_reg [(.slice (g7.s (prop).toNat 1).a (((gi y6 prop).Kinds).length) (g7.s (prop).toNat 1).c)] [0, 3, 7, 13, 134] [(0, [], .int .i64 prop), (3, [], .bool y3), (7, [], .pointer (some ⟨b29, 0, none⟩)), (13, [], .int .i64 v70), (134, [], .bool (decide (v70 < (ln ((gi y6 prop).Kinds)))))] [fun wz => V.at1 ⟨b29, 10, none⟩ (.slice (g7.s (prop).toNat 1).a (((gi y6 prop).Kinds).length) (g7.s (prop).toNat 1).c) wz] H (by kernel_rfl) ⟨((hS.bk 0 rfl).at1 rfl), trivial⟩ fun _ wd71 H72 hb => ?_
              clear H
              replace hS := hS.below hb
              clear hb
              refine w_if H72 rfl (fun hc => ?_) (fun hc => ?_)
              · replace hm := bT hc hm
                refine w_skip ?_
                refine w_seq ?_
                refine w_block ?_
                obtain ⟨ho73, hm⟩ := chkE hm
                obtain ⟨y74, hy74, hm⟩ := bindE hm
                obtain ⟨ho75, hm⟩ := chkE hm
                obtain ⟨x76, hx76, hm⟩ := letE hm
                obtain ⟨x77, hx77, hm⟩ := letE hm
                refine s_draw [(.slice (g7.s (prop).toNat 1).a (((gi y6 prop).Kinds).length) (g7.s (prop).toNat 1).c), (.int .u8 (gi ((gi y6 prop).Kinds) v70)), (.bool y74), (.slice (g7.s (prop).toNat 1).a (((gi y6 prop).Kinds).length) (g7.s (prop).toNat 1).c), (.int .u8 (gi ((gi y6 prop).Kinds) (w64 (v70 - 1)))), (.slice (g7.s (prop).toNat 1).a (((gi y6 prop).Kinds).length) (g7.s (prop).toNat 1).c), (.int .u8 (gi ((gi y6 prop).Kinds) v70)), (.slice (g7.s (prop).toNat 1).a (((gi y6 prop).Kinds).length) (g7.s (prop).toNat 1).c), (.int .u8 (gi ((gi y6 prop).Kinds) v70))] [0, 3, 7, 13, 171] [(0, [], .int .i64 prop), (3, [], .bool y3), (7, [], .pointer (some ⟨b29, 0, none⟩)), (13, [], .int .i64 v70), (171, [], .bool x77)] [fun wz => V.at1 ⟨b29, 10, none⟩ (.slice (g7.s (prop).toNat 1).a (((gi y6 prop).Kinds).length) (g7.s (prop).toNat 1).c) wz, fun _ => oka (g7.s (prop).toNat 1).a ∧ 0 ≤ v70 ∧ v70 < ln ((gi y6 prop).Kinds), fun wz => V.at1 ⟨ab (g7.s (prop).toNat 1).a, ao (g7.s (prop).toNat 1).a + (v70).toNat * 1, none⟩ (.int .u8 (gi ((gi y6 prop).Kinds) v70)) wz, fun wz => RetB Tryd.prog 24 ⟨[.int .i64 prop, .agg ⟨[.int .u8 (gi ((gi y6 prop).Kinds) v70), .string ⟨⟨[]⟩⟩, .int .i64 0, .int .u8 0, .int .u8 0, .int .u8 0, .int .u8 0]⟩]⟩ (.bool y74) wz, fun wz => ((decide (0 < v70)) = true ∧ (!y74) = false ∧ True → V.at1 ⟨b29, 10, none⟩ (.slice (g7.s (prop).toNat 1).a (((gi y6 prop).Kinds).length) (g7.s (prop).toNat 1).c) wz), fun _ => ((decide (0 < v70)) = true ∧ (!y74) = false ∧ True → oka (g7.s (prop).toNat 1).a ∧ 0 ≤ (w64 (v70 - 1)) ∧ (w64 (v70 - 1)) < ln ((gi y6 prop).Kinds)), fun wz => ((decide (0 < v70)) = true ∧ (!y74) = false ∧ True → V.at1 ⟨ab (g7.s (prop).toNat 1).a, ao (g7.s (prop).toNat 1).a + ((w64 (v70 - 1))).toNat * 1, none⟩ (.int .u8 (gi ((gi y6 prop).Kinds) (w64 (v70 - 1)))) wz), fun wz => ((decide (0 < v70)) = true ∧ (!y74) = false ∧ True → V.at1 ⟨b29, 10, none⟩ (.slice (g7.s (prop).toNat 1).a (((gi y6 prop).Kinds).length) (g7.s (prop).toNat 1).c) wz), fun _ => ((decide (0 < v70)) = true ∧ (!y74) = false ∧ True → oka (g7.s (prop).toNat 1).a ∧ 0 ≤ v70 ∧ v70 < ln ((gi y6 prop).Kinds)), fun wz => ((decide (0 < v70)) = true ∧ (!y74) = false ∧ True → V.at1 ⟨ab (g7.s (prop).toNat 1).a, ao (g7.s (prop).toNat 1).a + (v70).toNat * 1, none⟩ (.int .u8 (gi ((gi y6 prop).Kinds) v70)) wz), fun wz => (x76 = false ∧ True → V.at1 ⟨b29, 10, none⟩ (.slice (g7.s (prop).toNat 1).a (((gi y6 prop).Kinds).length) (g7.s (prop).toNat 1).c) wz), fun _ => (x76 = false ∧ True → oka (g7.s (prop).toNat 1).a ∧ 0 ≤ v70 ∧ v70 < ln ((gi y6 prop).Kinds)), fun wz => (x76 = false ∧ True → V.at1 ⟨ab (g7.s (prop).toNat 1).a, ao (g7.s (prop).toNat 1).a + (v70).toNat * 1, none⟩ (.int .u8 (gi ((gi y6 prop).Kinds) v70)) wz)] H72 (by kernel_rfl) (by kernel_rfl) (by subst hx76 hx77; kernel_rfl) ⟨((hS.bk 0 rfl).at1 rfl), ((tyProp_i1 ((hS.osl 1 rfl).el ho26)).oki ho73), ((tyProp_i1 ((hS.osl 1 rfl).el ho26)).at1 ho73 0 rfl), (law25_has_ok m _ _ _ hy74 _ (s0im s0nil (hS.im 2 rfl))), fun hg => (hS.bk 0 rfl).at1 rfl, fun hg => (tyProp_i1 ((hS.osl 1 rfl).el ho26)).oki (ho75 hg.1 hg.2.1), fun hg => (tyProp_i1 ((hS.osl 1 rfl).el ho26)).at1 (ho75 hg.1 hg.2.1) 0 rfl, fun hg => (hS.bk 0 rfl).at1 rfl, fun hg => (tyProp_i1 ((hS.osl 1 rfl).el ho26)).oki ho73, fun hg => (tyProp_i1 ((hS.osl 1 rfl).el ho26)).at1 ho73 0 rfl, fun hg => (hS.bk 0 rfl).at1 rfl, fun hg => (tyProp_i1 ((hS.osl 1 rfl).el ho26)).oki ho73, fun hg => (tyProp_i1 ((hS.osl 1 rfl).el ho26)).at1 ho73 0 rfl, trivial⟩ fun _ wd78 H79 hb => ?_
                clear H72
                replace hS := hS.below hb
                clear hb
                refine w_if H79 rfl (fun hc => ?_) (fun hc => ?_)
                · replace hm := bT hc hm
                  refine s_reg [] [2] [(2, [], .bool false)] [] H79 (by kernel_rfl) trivial fun _ wd80 H81 hb => ?_
                  clear H79
                  replace hS := hS.below hb
                  clear hb
                  refine w_ret ?_
                  obtain rfl := someE hm
                  have hm := hm_z67
                  obtain rfl := someE hm
                  exact retR1 H81 rfl rfl ⟨_, rfl, rfl, (hS.sel [] rfl)⟩
                · replace hm := bF hc hm
                  refine w_skip ?_
                  refine w_reg [] [0, 3, 7, 13] [(0, [], .int .i64 prop), (3, [], .bool y3), (7, [], .pointer (some ⟨b29, 0, none⟩)), (13, [], .int .i64 (w64 (v70 + 1)))] [] H79 (by kernel_rfl) trivial fun _ wd82 H83 hb => ?_
                  clear H79
                  replace hS := hS.below hb
                  clear hb
                  exact ⟨_, Nat.lt_succ_self _, w64 (v70 + 1), hm, Fr.keep (ks := [0, 3, 7, 13]) H83 (by kernel_rfl), hS⟩
              · replace hm := bF hc hm
                refine w_exit rfl ?_
                obtain rfl := someE hm
                exact ⟨_, rfl, Fr.keep (ks := [3, 7]) H72 (by kernel_rfl), hS⟩
          · rintro _ wd88 ⟨s_z67, hz, H, hS⟩
            subst hz
            replace hm := sumR hm_z67
            obtain ⟨x85, hx85, hm⟩ := letE hm
            refine s_reg [(.slice (g7.s (prop).toNat 0).a (((gi y6 prop).Words).length) (g7.s (prop).toNat 0).c), (.slice (g7.s (prop).toNat 1).a (((gi y6 prop).Kinds).length) (g7.s (prop).toNat 1).c)] [2] [(2, [], .bool x85)] [fun wz => (y3 = true ∧ True → V.at1 ⟨b29, 9, none⟩ (.slice (g7.s (prop).toNat 0).a (((gi y6 prop).Words).length) (g7.s (prop).toNat 0).c) wz), fun wz => (y3 = true ∧ True → V.at1 ⟨b29, 10, none⟩ (.slice (g7.s (prop).toNat 1).a (((gi y6 prop).Kinds).length) (g7.s (prop).toNat 1).c) wz)] H (by subst hx85; kernel_rfl) ⟨fun hg => (hS.bk 0 rfl).at1 rfl, fun hg => (hS.bk 0 rfl).at1 rfl, trivial⟩ fun _ wd86 H87 hb => ?_
            clear H
            replace hS := hS.below hb
            clear hb
            replace hS : SH M X w [Ent.im (tI .u8) gl_strings_asciiSpace (Gh.mk (some ⟨0, 0, none⟩) 256 fun _ _ => .nil)] _ := hS.sel [2] rfl
            refine w_ret ?_
            obtain rfl := someE hm
            exact retR1 H87 rfl rfl ⟨_, rfl, rfl, (hS.sel [] rfl)⟩
theorem law25_PropsInitial_ok  (m : Nat) (prop : Int) (r : Bool) (hm : law25_PropsInitial m prop = some r) (w : World) (hL : S0 F0 [Ent.im (tI .u8) gl_strings_asciiSpace (Gh.mk (some ⟨0, 0, none⟩) 256 fun _ _ => .nil)] w ∧ fpl [Ent.im (tI .u8) gl_strings_asciiSpace (Gh.mk (some ⟨0, 0, none⟩) 256 fun _ _ => .nil)] = []) : RetB Tryd.prog 5 ⟨[.int .i64 prop]⟩ (.bool r) w := retB_of hL (Tryd.call5 _) (fun w' h => law25_PropsInitial_w F0 m   prop r hm w' h)

def law25_PropsOwn_L2 (m : Nat) (v21 : List TProp) (v23 : Int) : Nat → Int → Option (Unit)
  | 0, _ => none
  | kk + 1, v30 =>
    chk (0 ≤ v23 ∧ v23 < ln v21) <|
    cond (decide (v30 < (ln ((gi v21 v23).Words)))) (
    none) (
    some ())
def law25_PropsOwn_L3 (m : Nat) (v21 : List TProp) (v23 : Int) : Nat → Int → Option (Unit)
  | 0, _ => none
  | kk + 1, v41 =>
    chk (0 ≤ v23 ∧ v23 < ln v21) <|
    cond (decide (v41 < (ln ((gi v21 v23).Kinds)))) (
    none) (
    some ())
def law25_PropsOwn_L1 (m : Nat)  : Nat → (List TProp) → Int → Option (List TProp)
  | 0, _, _ => none
  | kk + 1, v21, v23 =>
    cond (decide (v23 < (ln v21))) (
    Option.bind (
    Option.bind (
    law25_PropsOwn_L2 m v21 v23 m 0) fun (z27 : Unit) =>
    Option.bind (
    law25_PropsOwn_L3 m v21 v23 m 0) fun (z38 : Unit) =>
    chk (0 ≤ v23 ∧ v23 < ln v21) <|
    lt (setl v21 v23 (TProp.mk [] ((gi v21 v23).Inherited) ((gi v21 v23).Initial) ((gi v21 v23).Words) ((gi v21 v23).Kinds) ((gi v21 v23).Least))) fun q55 =>
    some q55) fun (z26 : List TProp) =>
    law25_PropsOwn_L1 m  kk z26 (w64 (v23 + 1))) (
    some v21)
def law25_PropsOwn_L4 (m : Nat) (name_ : Str) (y64 : List TProp) : Nat → Int → Int → Option (Int)
  | 0, _, _ => none
  | kk + 1, v76, v77 =>
    cond (decide (v77 < (ln y64))) (
    Option.bind (
    chk (0 ≤ v77 ∧ v77 < ln y64) <|
    cond (((gi y64 v77).Name) == name_) (
    some (w64 (v76 + 1))) (
    some v76)) fun (z80 : Int) =>
    law25_PropsOwn_L4 m name_ y64 kk z80 (w64 (v77 + 1))) (
    some v76)
def law25_PropsOwn (m : Nat) (name_ : Str) : Option (Bool) :=
  Option.bind (law25_alive m) fun y3 =>
  lt (cond (decide (200 < (ln name_))) true (!y3)) fun x6 =>
  cond x6 (
  some y3) (
  Option.bind (props_Table m) fun y11 =>
  Option.bind (
  law25_PropsOwn_L1 m  m y11 0) fun (z18 : List TProp) =>
  Option.bind (props_Table m) fun y64 =>
  Option.bind (
  law25_PropsOwn_L4 m name_ y64 m 0 0) fun (z73 : Int) =>
  Option.bind (props_Find m name_) fun y90 =>
  Option.bind (
  lt (y3) fun x94 =>
  cond x94 (
  Option.bind (r25_Table) fun y99 =>
  Option.bind (r25_SameTable m y64 y99) fun y104 =>
  lt (cond (cond y104 (decide (z73 ≤ 1)) false) ((y90.2 == 0) == (z73 == 1)) false) fun x105 =>
  Option.bind (cond x105 (cond (z73 == 0) (some default) (props_Custom name_)) (some default)) fun y106 =>
  lt (cond x105 (cond (z73 == 0) true (!y106)) false) fun x107 =>
  some x107) (
  some false)) fun (z93 : Bool) =>
  some z93)
theorem law25_PropsOwn_w  (M : Av) (m : Nat) (name_ : Str) (r : Bool) (hm : law25_PropsOwn m name_ = some r) (w : World) (hS : S0 M [Ent.im (tI .u8) gl_strings_asciiSpace (Gh.mk (some ⟨0, 0, none⟩) 256 fun _ _ => .nil)] w) : Calls Tryd.prog 6 ⟨[.string ⟨⟨name_⟩⟩]⟩ w (fun e w' => ∃ v, e = .returned v ∧ v = .bool r ∧ SH M (fpl [Ent.im (tI .u8) gl_strings_asciiSpace (Gh.mk (some ⟨0, 0, none⟩) 256 fun _ _ => .nil)]) w [] w') := by
  rw [law25_PropsOwn] at hm
  have hS0 : SH M (fpl [Ent.im (tI .u8) gl_strings_asciiSpace (Gh.mk (some ⟨0, 0, none⟩) 256 fun _ _ => .nil)]) w [Ent.im (tI .u8) gl_strings_asciiSpace (Gh.mk (some ⟨0, 0, none⟩) 256 fun _ _ => .nil)] w := hS
  generalize hX : fpl [Ent.im (tI .u8) gl_strings_asciiSpace (Gh.mk (some ⟨0, 0, none⟩) 256 fun _ _ => .nil)] = X at hS0 ⊢
  clear hS hX
  have hS := hS0
  clear hS0
  refine calls_entryP Tryd.func6 rfl Tryd.ntmps6 rfl fun _ H => ?_
  refine s_reg [] [0] [(0, [], .string ⟨⟨name_⟩⟩)] [] H (by kernel_rfl) trivial fun _ wd1 H2 hb => ?_
  clear H
  replace hS := hS.below hb
  clear hb
  obtain ⟨y3, hy3, hm⟩ := bindE hm
  refine s_reg [(.bool y3)] [0, 3] [(0, [], .string ⟨⟨name_⟩⟩), (3, [], .bool y3)] [fun wz => RetB Tryd.prog 20 ⟨[]⟩ (.bool y3) wz] H2 (by kernel_rfl) ⟨(law25_alive_ok m _ hy3 _ (s0im s0nil (hS.im 0 rfl))), trivial⟩ fun _ wd4 H5 hb => ?_
  clear H2
  replace hS := hS.below hb
  clear hb
  refine w_seq ?_
  obtain ⟨x6, hx6, hm⟩ := letE hm
  refine s_reg [] [0, 3, 20] [(0, [], .string ⟨⟨name_⟩⟩), (3, [], .bool y3), (20, [], .bool x6)] [] H5 (by subst hx6; kernel_rfl) trivial fun _ wd7 H8 hb => ?_
  clear H5
  replace hS := hS.below hb
  clear hb
  refine w_if H8 rfl (fun hc => ?_) (fun hc => ?_)
  · replace hm := bT hc hm
    refine s_reg [] [2] [(2, [], .bool y3)] [] H8 (by kernel_rfl) trivial fun _ wd9 H10 hb => ?_
    clear H8
    replace hS := hS.below hb
    clear hb
    refine w_ret ?_
    obtain rfl := someE hm
    exact retR1 H10 rfl rfl ⟨_, rfl, rfl, (hS.sel [] rfl)⟩
  · replace hm := bF hc hm
    refine w_skip ?_
    refine w_seq ?_
    refine wl_start ?_
    obtain ⟨y11, hy11, hm⟩ := bindE hm
    have hd : S0 (AvL M [Ent.im (tI .u8) gl_strings_asciiSpace (Gh.mk (some ⟨0, 0, none⟩) 256 fun _ _ => .nil)]) [Ent.im (tI .u8) gl_strings_asciiSpace (Gh.mk (some ⟨0, 0, none⟩) 256 fun _ _ => .nil)] _ := hS.hand [0] [0] rfl rfl
    refine m_stp [22, 0, 3] [(0, [], .string ⟨⟨name_⟩⟩), (3, [], .bool y3)] H8 rfl rfl rfl rfl (o_callx H8 rfl rfl (props_Table_ok m _ hy11 _ _ hd)) (fun _ => rfl) fun _ wd14 v H15 hq => ?_
    clear H8 hd
    obtain ⟨g12, rfl, hq⟩ := hq
    replace hS : SH M X w [Ent.own 51 tyProp y11 g12, Ent.im (tI .u8) gl_strings_asciiSpace (Gh.mk (some ⟨0, 0, none⟩) 256 fun _ _ => .nil)] _ := hS.join [0] [0] rfl rfl hq
    clear hq
    refine wl_batch 1 2 [] [0, 3, 4] [(0, [], .string ⟨⟨name_⟩⟩), (3, [], .bool y3), (4, [], .slice g12.a y11.length g12.c)] [] H15 (by decide) (by kernel_rfl) trivial fun _ wd16 H17 hb => ?_
    clear H15
    replace hS := hS.below hb
    clear hb
    refine wl_end rfl ?_
    obtain ⟨z18, hz, hm⟩ := bindE hm
    refine w_cut (fun a' w' => ∃ (g63 : Gh), Fr 114 [(0, [], .string ⟨⟨name_⟩⟩), (3, [], .bool y3)] a' ∧ SH M X w [Ent.own 51 tyProp z18 g63, Ent.im (tI .u8) gl_strings_asciiSpace (Gh.mk (some ⟨0, 0, none⟩) 256 fun _ _ => .nil)] w') ?_ ?_
    · replace hm := hz
      refine s_reg [] [0, 3, 4, 5] [(0, [], .string ⟨⟨name_⟩⟩), (3, [], .bool y3), (4, [], .slice g12.a y11.length g12.c), (5, [], .int .i64 0)] [] H17 (by kernel_rfl) trivial fun _ wd19 H20 hb => ?_
      clear H17
      replace hS := hS.below hb
      clear hb
      refine w_block ?_
      refine w_loop (fun kk a' w' => ∃ (v21 : List TProp) (v23 : Int) (g22 : Gh), law25_PropsOwn_L1 m  kk v21 v23 = some _ ∧ Fr 114 [(0, [], .string ⟨⟨name_⟩⟩), (3, [], .bool y3), (4, [], .slice g22.a v21.length g22.c), (5, [], .int .i64 v23)] a' ∧ SH M X w [Ent.own 51 tyProp v21 g22, Ent.im (tI .u8) gl_strings_asciiSpace (Gh.mk (some ⟨0, 0, none⟩) 256 fun _ _ => .nil)] w') ⟨_, y11, 0, g12, hm, Fr.keep (ks := [0, 3, 4, 5]) H20 (by kernel_rfl), hS⟩ ?_
      clear hm H20 hS
      rintro kk _ wd62 ⟨v21, v23, g22, hm, H, hS⟩
      cases kk with
      | zero => exact noneE hm
      | succ kk =>
        rw [law25_PropsOwn_L1] at hm
        refine w_seq ?_
        refine s_reg [] [0, 3, 4, 5, 26] [(0, [], .string ⟨⟨name_⟩⟩), (3, [], .bool y3), (4, [], .slice g22.a v21.length g22.c), (5, [], .int .i64 v23), (26, [], .bool (decide (v23 < (ln v21))))] [] H (by kernel_rfl) trivial fun _ wd24 H25 hb => ?_
        clear H
        replace hS := hS.below hb
        clear hb
        refine w_if H25 rfl (fun hc => ?_) (fun hc => ?_)
        · replace hm := bT hc hm
          refine w_skip ?_
          obtain ⟨z26, hz, hm⟩ := bindE hm
          refine w_cut (fun a' w' => ∃ (g58 : Gh), Fr 114 [(0, [], .string ⟨⟨name_⟩⟩), (3, [], .bool y3), (5, [], .int .i64 v23), (4, [], .slice g58.a z26.length g58.c)] a' ∧ SH M X w [Ent.own 51 tyProp z26 g58, Ent.im (tI .u8) gl_strings_asciiSpace (Gh.mk (some ⟨0, 0, none⟩) 256 fun _ _ => .nil)] w') ?_ ?_
          · replace hm := hz
            refine w_block ?_
            obtain ⟨z27, hz, hm⟩ := bindE hm
            refine w_cut (fun a' w' => Fr 114 [(0, [], .string ⟨⟨name_⟩⟩), (3, [], .bool y3), (4, [], .slice g22.a v21.length g22.c), (5, [], .int .i64 v23)] a' ∧ SH M X w [Ent.own 51 tyProp v21 g22, Ent.im (tI .u8) gl_strings_asciiSpace (Gh.mk (some ⟨0, 0, none⟩) 256 fun _ _ => .nil)] w') ?_ ?_
            · replace hm := hz
              refine s_reg [] [0, 3, 4, 5, 6] [(0, [], .string ⟨⟨name_⟩⟩), (3, [], .bool y3), (4, [], .slice g22.a v21.length g22.c), (5, [], .int .i64 v23), (6, [], .int .i64 0)] [] H25 (by kernel_rfl) trivial fun _ wd28 H29 hb => ?_
              clear H25
              replace hS := hS.below hb
              clear hb
              refine w_block ?_
              refine w_loop (fun kk a' w' => ∃ (v30 : Int), law25_PropsOwn_L2 m v21 v23 kk v30 = some _ ∧ Fr 114 [(0, [], .string ⟨⟨name_⟩⟩), (3, [], .bool y3), (4, [], .slice g22.a v21.length g22.c), (5, [], .int .i64 v23), (6, [], .int .i64 v30)] a' ∧ SH M X w [Ent.own 51 tyProp v21 g22, Ent.im (tI .u8) gl_strings_asciiSpace (Gh.mk (some ⟨0, 0, none⟩) 256 fun _ _ => .nil)] w') ⟨_, 0, hm, Fr.keep (ks := [0, 3, 4, 5, 6]) H29 (by kernel_rfl), hS⟩ ?_
              clear hm H29 hS
              rintro kk _ wd37 ⟨v30, hm, H, hS⟩
              cases kk with
              | zero => exact noneE hm
              | succ kk =>
                rw [law25_PropsOwn_L2] at hm
                refine w_seq ?_
                obtain ⟨ho31, hm⟩ := chkE hm
                refine s_reg [(.slice (g22.s (v23).toNat 0).a (((gi v21 v23).Words).length) (g22.s (v23).toNat 0).c)] [0, 3, 4, 5, 6, 36] [(0, [], .string ⟨⟨name_⟩⟩), (3, [], .bool y3), (4, [], .slice g22.a v21.length g22.c), (5, [], .int .i64 v23), (6, [], .int .i64 v30), (36, [], .bool (decide (v30 < (ln ((gi v21 v23).Words)))))] [fun _ => oka g22.a ∧ 0 ≤ v23 ∧ v23 < ln v21, fun wz => V.at1 ⟨ab g22.a, ao g22.a + (v23).toNat * 12 + 9, none⟩ (.slice (g22.s (v23).toNat 0).a (((gi v21 v23).Words).length) (g22.s (v23).toNat 0).c) wz] H (by kernel_rfl) ⟨((hS.osl 0 rfl).oki ho31), ((hS.osl 0 rfl).at1 ho31 9 rfl), trivial⟩ fun _ wd32 H33 hb => ?_
                clear H
                replace hS := hS.below hb
                clear hb
                refine w_if H33 rfl (fun hc => ?_) (fun hc => ?_)
                · replace hm := bT hc hm
                  refine w_skip ?_
                  refine w_seq ?_
                  refine w_block ?_
                  exact noneE hm
                · replace hm := bF hc hm
                  refine w_exit rfl ?_
                  obtain rfl := someE hm
                  exact ⟨Fr.keep (ks := [0, 3, 4, 5]) H33 (by kernel_rfl), hS⟩
            · rintro _ wd57 ⟨H, hS⟩
              obtain ⟨z38, hz, hm⟩ := bindE hm
              refine w_cut (fun a' w' => Fr 114 [(0, [], .string ⟨⟨name_⟩⟩), (3, [], .bool y3), (4, [], .slice g22.a v21.length g22.c), (5, [], .int .i64 v23)] a' ∧ SH M X w [Ent.own 51 tyProp v21 g22, Ent.im (tI .u8) gl_strings_asciiSpace (Gh.mk (some ⟨0, 0, none⟩) 256 fun _ _ => .nil)] w') ?_ ?_
              · replace hm := hz
                refine s_reg [] [0, 3, 4, 5, 7] [(0, [], .string ⟨⟨name_⟩⟩), (3, [], .bool y3), (4, [], .slice g22.a v21.length g22.c), (5, [], .int .i64 v23), (7, [], .int .i64 0)] [] H (by kernel_rfl) trivial fun _ wd39 H40 hb => ?_
                clear H
                replace hS := hS.below hb
                clear hb
                refine w_block ?_
                refine w_loop (fun kk a' w' => ∃ (v41 : Int), law25_PropsOwn_L3 m v21 v23 kk v41 = some _ ∧ Fr 114 [(0, [], .string ⟨⟨name_⟩⟩), (3, [], .bool y3), (4, [], .slice g22.a v21.length g22.c), (5, [], .int .i64 v23), (7, [], .int .i64 v41)] a' ∧ SH M X w [Ent.own 51 tyProp v21 g22, Ent.im (tI .u8) gl_strings_asciiSpace (Gh.mk (some ⟨0, 0, none⟩) 256 fun _ _ => .nil)] w') ⟨_, 0, hm, Fr.keep (ks := [0, 3, 4, 5, 7]) H40 (by kernel_rfl), hS⟩ ?_
                clear hm H40 hS
                rintro kk _ wd48 ⟨v41, hm, H, hS⟩
                cases kk with
                | zero => exact noneE hm
                | succ kk =>
                  rw [law25_PropsOwn_L3] at hm
                  refine w_seq ?_
                  obtain ⟨ho42, hm⟩ := chkE hm
                  refine s_reg [(.slice (g22.s (v23).toNat 1).a (((gi v21 v23).Kinds).length) (g22.s (v23).toNat 1).c)] [0, 3, 4, 5, 7, 53] [(0, [], .string ⟨⟨name_⟩⟩), (3, [], .bool y3), (4, [], .slice g22.a v21.length g22.c), (5, [], .int .i64 v23), (7, [], .int .i64 v41), (53, [], .bool (decide (v41 < (ln ((gi v21 v23).Kinds)))))] [fun _ => oka g22.a ∧ 0 ≤ v23 ∧ v23 < ln v21, fun wz => V.at1 ⟨ab g22.a, ao g22.a + (v23).toNat * 12 + 10, none⟩ (.slice (g22.s (v23).toNat 1).a (((gi v21 v23).Kinds).length) (g22.s (v23).toNat 1).c) wz] H (by kernel_rfl) ⟨((hS.osl 0 rfl).oki ho42), ((hS.osl 0 rfl).at1 ho42 10 rfl), trivial⟩ fun _ wd43 H44 hb => ?_
                  clear H
                  replace hS := hS.below hb
                  clear hb
                  refine w_if H44 rfl (fun hc => ?_) (fun hc => ?_)
                  · replace hm := bT hc hm
                    refine w_skip ?_
                    refine w_seq ?_
                    refine w_block ?_
                    exact noneE hm
                  · replace hm := bF hc hm
                    refine w_exit rfl ?_
                    obtain rfl := someE hm
                    exact ⟨Fr.keep (ks := [0, 3, 4, 5]) H44 (by kernel_rfl), hS⟩
              · rintro _ wd56 ⟨H, hS⟩
                refine wl_start ?_
                obtain ⟨ho49, hm⟩ := chkE hm
                refine wl_batch 0 4 [] [0, 3, 4, 5, 66] [(0, [], .string ⟨⟨name_⟩⟩), (3, [], .bool y3), (4, [], .slice g22.a v21.length g22.c), (5, [], .int .i64 v23), (66, [], .pointer (some ⟨ab g22.a, ao g22.a + (v23).toNat * 12, none⟩))] [fun _ => oka g22.a ∧ 0 ≤ v23 ∧ v23 < ln v21] H (by decide) (by kernel_rfl) ⟨((hS.osl 0 rfl).oki ho49), trivial⟩ fun _ wd50 H51 hb => ?_
                clear H
                replace hS := hS.below hb
                clear hb
                have hd : S0 (AvL M [Ent.im (tI .u8) gl_strings_asciiSpace (Gh.mk (some ⟨0, 0, none⟩) 256 fun _ _ => .nil)]) [Ent.own 51 tyProp v21 g22] _ := hS.hand [0] [1] rfl rfl
                refine m_stp0 [0, 3, 4, 5] [(0, [], .string ⟨⟨name_⟩⟩), (3, [], .bool y3), (4, [], .slice g22.a v21.length g22.c), (5, [], .int .i64 v23)] H51 rfl rfl rfl (o_estore (T := tyProp) (g := g22) (q := v21) (ix := v23) (off := 0) (TProp.mk [] ((gi v21 v23).Inherited) ((gi v21 v23).Initial) ((gi v21 v23).Words) ((gi v21 v23).Kinds) ((gi v21 v23).Least)) (gL [(g22.s (v23).toNat 0), (g22.s (v23).toNat 1)]) H51 hd rfl rfl rfl rfl (by kernel_rfl) rfl rfl ho49 rfl (tyProp_mk (tyProp_i0 ((hd.ow 0 rfl).el ho49)) (tyProp_i1 ((hd.ow 0 rfl).el ho49))) rfl) rfl fun _ wd52 H53 hq => ?_
                clear H51 hd
                obtain ⟨_, hq⟩ := hq
                obtain ⟨s54, hq⟩ := hq
                obtain ⟨q55, hq55, hm⟩ := letE hm
                rw [← hq55] at hq
                have hn : v21.length = q55.length := by rw [hq55, setl_len]
                first | rw [hn] at H53 | skip
                clear hn
                replace hS : SH M X w [Ent.own 51 tyProp q55 (Gh.mk g22.a g22.c s54), Ent.im (tI .u8) gl_strings_asciiSpace (Gh.mk (some ⟨0, 0, none⟩) 256 fun _ _ => .nil)] _ := hS.join [0] [1] rfl rfl hq
                clear hq
                refine wl_end rfl ?_
                obtain rfl := someE hm
                exact ⟨(Gh.mk g22.a g22.c s54), Fr.keep (ks := [0, 3, 5, 4]) H53 (by kernel_rfl), hS⟩
          · rintro _ wd61 ⟨g58, H, hS⟩
            refine w_reg [] [0, 3, 4, 5] [(0, [], .string ⟨⟨name_⟩⟩), (3, [], .bool y3), (4, [], .slice g58.a z26.length g58.c), (5, [], .int .i64 (w64 (v23 + 1)))] [] H (by kernel_rfl) trivial fun _ wd59 H60 hb => ?_
            clear H
            replace hS := hS.below hb
            clear hb
            exact ⟨_, Nat.lt_succ_self _, z26, w64 (v23 + 1), g58, hm, Fr.keep (ks := [0, 3, 4, 5]) H60 (by kernel_rfl), hS⟩
        · replace hm := bF hc hm
          refine w_exit rfl ?_
          obtain rfl := someE hm
          exact ⟨g22, Fr.keep (ks := [0, 3]) H25 (by kernel_rfl), hS⟩
    · rintro _ wd137 ⟨g63, H, hS⟩
      replace hS : SH M X w [Ent.im (tI .u8) gl_strings_asciiSpace (Gh.mk (some ⟨0, 0, none⟩) 256 fun _ _ => .nil)] _ := hS.sel [1] rfl
      refine w_seq ?_
      refine wl_start ?_
      obtain ⟨y64, hy64, hm⟩ := bindE hm
      have hd : S0 (AvL M [Ent.im (tI .u8) gl_strings_asciiSpace (Gh.mk (some ⟨0, 0, none⟩) 256 fun _ _ => .nil)]) [Ent.im (tI .u8) gl_strings_asciiSpace (Gh.mk (some ⟨0, 0, none⟩) 256 fun _ _ => .nil)] _ := hS.hand [0] [0] rfl rfl
      refine m_stp [67, 0, 3] [(0, [], .string ⟨⟨name_⟩⟩), (3, [], .bool y3)] H rfl rfl rfl rfl (o_callx H rfl rfl (props_Table_ok m _ hy64 _ _ hd)) (fun _ => rfl) fun _ wd67 v H68 hq => ?_
      clear H hd
      obtain ⟨g65, rfl, hq⟩ := hq
      replace hS : SH M X w [Ent.own 51 tyProp y64 g65, Ent.im (tI .u8) gl_strings_asciiSpace (Gh.mk (some ⟨0, 0, none⟩) 256 fun _ _ => .nil)] _ := hS.join [0] [0] rfl rfl hq
      clear hq
      refine wl_batch 1 2 [] [0, 3, 8] [(0, [], .string ⟨⟨name_⟩⟩), (3, [], .bool y3), (8, [], .slice g65.a y64.length g65.c)] [] H68 (by decide) (by kernel_rfl) trivial fun _ wd69 H70 hb => ?_
      clear H68
      replace hS := hS.below hb
      clear hb
      refine wl_end rfl ?_
      refine s_reg [] [0, 3, 8, 9] [(0, [], .string ⟨⟨name_⟩⟩), (3, [], .bool y3), (8, [], .slice g65.a y64.length g65.c), (9, [], .int .i64 0)] [] H70 (by kernel_rfl) trivial fun _ wd71 H72 hb => ?_
      clear H70
      replace hS := hS.below hb
      clear hb
      obtain ⟨z73, hz, hm⟩ := bindE hm
      refine w_cut (fun a' w' => Fr 114 [(0, [], .string ⟨⟨name_⟩⟩), (3, [], .bool y3), (8, [], .slice g65.a y64.length g65.c), (9, [], .int .i64 z73)] a' ∧ SH M X w [Ent.own 51 tyProp y64 g65, Ent.im (tI .u8) gl_strings_asciiSpace (Gh.mk (some ⟨0, 0, none⟩) 256 fun _ _ => .nil)] w') ?_ ?_
      · replace hm := hz
        refine s_reg [] [0, 3, 8, 9, 10] [(0, [], .string ⟨⟨name_⟩⟩), (3, [], .bool y3), (8, [], .slice g65.a y64.length g65.c), (9, [], .int .i64 0), (10, [], .int .i64 0)] [] H72 (by kernel_rfl) trivial fun _ wd74 H75 hb => ?_
        clear H72
        replace hS := hS.below hb
        clear hb
        refine w_block ?_
        refine w_loop (fun kk a' w' => ∃ (v76 : Int) (v77 : Int), law25_PropsOwn_L4 m name_ y64 kk v76 v77 = some _ ∧ Fr 114 [(0, [], .string ⟨⟨name_⟩⟩), (3, [], .bool y3), (8, [], .slice g65.a y64.length g65.c), (9, [], .int .i64 v76), (10, [], .int .i64 v77)] a' ∧ SH M X w [Ent.own 51 tyProp y64 g65, Ent.im (tI .u8) gl_strings_asciiSpace (Gh.mk (some ⟨0, 0, none⟩) 256 fun _ _ => .nil)] w') ⟨_, 0, 0, hm, Fr.keep (ks := [0, 3, 8, 9, 10]) H75 (by kernel_rfl), hS⟩ ?_
        clear hm H75 hS
        rintro kk _ wd89 ⟨v76, v77, hm, H, hS⟩
        cases kk with
        | zero => exact noneE hm
        | succ kk =>
          rw [law25_PropsOwn_L4] at hm
          refine w_seq ?_
          refine s_reg [] [0, 3, 8, 9, 10, 71] [(0, [], .string ⟨⟨name_⟩⟩), (3, [], .bool y3), (8, [], .slice g65.a y64.length g65.c), (9, [], .int .i64 v76), (10, [], .int .i64 v77), (71, [], .bool (decide (v77 < (ln y64))))] [] H (by kernel_rfl) trivial fun _ wd78 H79 hb => ?_
          clear H
          replace hS := hS.below hb
          clear hb
          refine w_if H79 rfl (fun hc => ?_) (fun hc => ?_)
          · replace hm := bT hc hm
            refine w_skip ?_
            obtain ⟨z80, hz, hm⟩ := bindE hm
            refine w_cut (fun a' w' => Fr 114 [(0, [], .string ⟨⟨name_⟩⟩), (3, [], .bool y3), (8, [], .slice g65.a y64.length g65.c), (10, [], .int .i64 v77), (9, [], .int .i64 z80)] a' ∧ SH M X w [Ent.own 51 tyProp y64 g65, Ent.im (tI .u8) gl_strings_asciiSpace (Gh.mk (some ⟨0, 0, none⟩) 256 fun _ _ => .nil)] w') ?_ ?_
            · replace hm := hz
              refine w_block ?_
              obtain ⟨ho81, hm⟩ := chkE hm
              refine s_reg [(.string ⟨⟨(gi y64 v77).Name⟩⟩)] [0, 3, 8, 9, 10, 80] [(0, [], .string ⟨⟨name_⟩⟩), (3, [], .bool y3), (8, [], .slice g65.a y64.length g65.c), (9, [], .int .i64 v76), (10, [], .int .i64 v77), (80, [], .bool (((gi y64 v77).Name) == name_))] [fun _ => oka g65.a ∧ 0 ≤ v77 ∧ v77 < ln y64, fun wz => V.at1 ⟨ab g65.a, ao g65.a + (v77).toNat * 12, none⟩ (.string ⟨⟨(gi y64 v77).Name⟩⟩) wz] H79 (by kernel_rfl) ⟨((hS.osl 0 rfl).oki ho81), ((hS.osl 0 rfl).at1 ho81 0 rfl), trivial⟩ fun _ wd82 H83 hb => ?_
              clear H79
              replace hS := hS.below hb
              clear hb
              refine w_if H83 rfl (fun hc => ?_) (fun hc => ?_)
              · replace hm := bT hc hm
                refine w_reg [] [0, 3, 8, 9, 10] [(0, [], .string ⟨⟨name_⟩⟩), (3, [], .bool y3), (8, [], .slice g65.a y64.length g65.c), (9, [], .int .i64 (w64 (v76 + 1))), (10, [], .int .i64 v77)] [] H83 (by kernel_rfl) trivial fun _ wd84 H85 hb => ?_
                clear H83
                replace hS := hS.below hb
                clear hb
                obtain rfl := someE hm
                exact ⟨Fr.keep (ks := [0, 3, 8, 10, 9]) H85 (by kernel_rfl), hS⟩
              · replace hm := bF hc hm
                refine w_skip ?_
                obtain rfl := someE hm
                exact ⟨Fr.keep (ks := [0, 3, 8, 10, 9]) H83 (by kernel_rfl), hS⟩
            · rintro _ wd88 ⟨H, hS⟩
              refine w_reg [] [0, 3, 8, 9, 10] [(0, [], .string ⟨⟨name_⟩⟩), (3, [], .bool y3), (8, [], .slice g65.a y64.length g65.c), (9, [], .int .i64 z80), (10, [], .int .i64 (w64 (v77 + 1)))] [] H (by kernel_rfl) trivial fun _ wd86 H87 hb => ?_
              clear H
              replace hS := hS.below hb
              clear hb
              exact ⟨_, Nat.lt_succ_self _, z80, w64 (v77 + 1), hm, Fr.keep (ks := [0, 3, 8, 9, 10]) H87 (by kernel_rfl), hS⟩
          · replace hm := bF hc hm
            refine w_exit rfl ?_
            obtain rfl := someE hm
            exact ⟨Fr.keep (ks := [0, 3, 8, 9]) H79 (by kernel_rfl), hS⟩
      · rintro _ wd136 ⟨H, hS⟩
        obtain ⟨y90, hy90, hm⟩ := bindE hm
        refine s_reg [(.tuple ⟨[.int .i64 y90.1, .int .i64 y90.2]⟩)] [0, 3, 8, 9, 12] [(0, [], .string ⟨⟨name_⟩⟩), (3, [], .bool y3), (8, [], .slice g65.a y64.length g65.c), (9, [], .int .i64 z73), (12, [], .int .i64 y90.2)] [fun wz => RetB Tryd.prog 9 ⟨[.string ⟨⟨name_⟩⟩]⟩ (.tuple ⟨[.int .i64 y90.1, .int .i64 y90.2]⟩) wz] H (by kernel_rfl) ⟨(props_Find_ok m _ _ hy90 _ (s0im s0nil (hS.im 1 rfl))), trivial⟩ fun _ wd91 H92 hb => ?_
        clear H
        replace hS := hS.below hb
        clear hb
        obtain ⟨z93, hz, hm⟩ := bindE hm
        refine w_cut (fun a' w' => Fr 114 [(2, [], .bool z93)] a' ∧ SH M X w [Ent.own 51 tyProp y64 g65, Ent.im (tI .u8) gl_strings_asciiSpace (Gh.mk (some ⟨0, 0, none⟩) 256 fun _ _ => .nil)] w') ?_ ?_
        · replace hm := hz
          refine wl_start ?_
          obtain ⟨x94, hx94, hm⟩ := letE hm
          refine wl_batch 0 2 [] [0, 8, 9, 12, 89] [(0, [], .string ⟨⟨name_⟩⟩), (8, [], .slice g65.a y64.length g65.c), (9, [], .int .i64 z73), (12, [], .int .i64 y90.2), (89, [], .bool x94)] [] H92 (by decide) (by subst hx94; kernel_rfl) trivial fun _ wd95 H96 hb => ?_
          clear H92
          replace hS := hS.below hb
          clear hb
          cases x94 with
          | true =>
            replace hm := bT rfl hm
            refine wl_batchM 2 3 [] [(0, 0), (9, 0), (12, 0), (89, 0), (90, 1)] [(0, [], .string ⟨⟨name_⟩⟩), (9, [], .int .i64 z73), (12, [], .int .i64 y90.2), (89, [], .bool true), (90, [], .slice g65.a y64.length g65.c)] [] H96 (by decide) (by kernel_rfl) trivial fun _ wd97 H98 hb => ?_
            clear H96
            replace hS := hS.below hb
            clear hb
            obtain ⟨y99, hy99, hm⟩ := bindE hm
            have hd : S0 (AvL M [Ent.own 51 tyProp y64 g65, Ent.im (tI .u8) gl_strings_asciiSpace (Gh.mk (some ⟨0, 0, none⟩) 256 fun _ _ => .nil)]) [] _ := hS.hand [] [0, 1] rfl rfl
            refine m_stpG 89 [91, 0, 9, 12, 89, 90] [(0, [], .string ⟨⟨name_⟩⟩), (9, [], .int .i64 z73), (12, [], .int .i64 y90.2), (89, [], .bool true), (90, [], .slice g65.a y64.length g65.c)] H98 rfl rfl rfl rfl (o_callx H98 rfl rfl (r25_Table_ok _ hy99 _ _ hd)) (fun _ => rfl) fun _ wd102 v H103 hq => ?_
            clear H98 hd
            obtain ⟨g100, rfl, hq⟩ := hq
            replace hS : SH M X w [Ent.own 51 tyProp y99 g100, Ent.own 51 tyProp y64 g65, Ent.im (tI .u8) gl_strings_asciiSpace (Gh.mk (some ⟨0, 0, none⟩) 256 fun _ _ => .nil)] _ := hS.join [] [0, 1] rfl rfl hq
            clear hq
            obtain ⟨y104, hy104, hm⟩ := bindE hm
            obtain ⟨x105, hx105, hm⟩ := letE hm
            obtain ⟨y106, hy106, hm⟩ := bindE hm
            obtain ⟨x107, hx107, hm⟩ := letE hm
            refine wl_batch 4 27 [(.bool y104), (.bool y106)] [2] [(2, [], .bool x107)] [fun wz => (true = true ∧ True → RetB Tryd.prog 21 ⟨[.slice g65.a y64.length g65.c, .slice g100.a y99.length g100.c]⟩ (.bool y104) wz), fun wz => ((z73 == 0) = false ∧ x105 = true ∧ True → RetB Tryd.prog 15 ⟨[.string ⟨⟨name_⟩⟩]⟩ (.bool y106) wz)] H103 (by decide) (by subst hx105 hx107; kernel_rfl) ⟨fun hg => r25_SameTable_ok (g_a_ := g65) (g_b_ := g100) m _ _ _ hy104 _ (s0im (s0im s0nil (hS.osl 0 rfl)) (hS.osl 1 rfl)), fun hg => (props_Custom_ok _ _ (bF (hg.1) (bT (hg.2.1) hy106))).b, trivial⟩ fun _ wd108 H109 hb => ?_
            clear H103
            replace hS := hS.below hb
            clear hb
            refine wl_end rfl ?_
            replace hS : SH M X w [Ent.own 51 tyProp y64 g65, Ent.im (tI .u8) gl_strings_asciiSpace (Gh.mk (some ⟨0, 0, none⟩) 256 fun _ _ => .nil)] _ := hS.sel [1, 2] rfl
            obtain rfl := someE hm
            exact ⟨Fr.keep (ks := [2]) H109 (by kernel_rfl), hS⟩
          | false =>
            replace hm := bF rfl hm
            refine m_skipG 89 [90, 0, 9, 12, 89] [(90, [], undef), (0, [], .string ⟨⟨name_⟩⟩), (9, [], .int .i64 z73), (12, [], .int .i64 y90.2), (89, [], .bool false)] H96 rfl rfl rfl rfl rfl rfl fun _ H110 => ?_
            clear H96
            refine m_skipG 89 [91, 0, 9, 12, 89, 90] [(91, [], undef), (0, [], .string ⟨⟨name_⟩⟩), (9, [], .int .i64 z73), (12, [], .int .i64 y90.2), (89, [], .bool false), (90, [], undef)] H110 rfl rfl rfl rfl rfl rfl fun _ H111 => ?_
            clear H110
            refine m_skipG 89 [92, 0, 9, 12, 89] [(92, [], undef), (0, [], .string ⟨⟨name_⟩⟩), (9, [], .int .i64 z73), (12, [], .int .i64 y90.2), (89, [], .bool false)] H111 rfl rfl rfl rfl rfl rfl fun _ H112 => ?_
            clear H111
            refine wl_batch 5 7 [] [0, 9, 12, 94] [(0, [], .string ⟨⟨name_⟩⟩), (9, [], .int .i64 z73), (12, [], .int .i64 y90.2), (94, [], .bool false)] [] H112 (by decide) (by kernel_rfl) trivial fun _ wd113 H114 hb => ?_
            clear H112
            replace hS := hS.below hb
            clear hb
            refine m_skipG 94 [95, 0, 9, 12, 94] [(95, [], undef), (0, [], .string ⟨⟨name_⟩⟩), (9, [], .int .i64 z73), (12, [], .int .i64 y90.2), (94, [], .bool false)] H114 rfl rfl rfl rfl rfl rfl fun _ H115 => ?_
            clear H114
            refine m_skipG 94 [96, 0, 9, 12, 94] [(96, [], undef), (0, [], .string ⟨⟨name_⟩⟩), (9, [], .int .i64 z73), (12, [], .int .i64 y90.2), (94, [], .bool false)] H115 rfl rfl rfl rfl rfl rfl fun _ H116 => ?_
            clear H115
            refine wl_batch 9 11 [] [0, 9, 12, 98] [(0, [], .string ⟨⟨name_⟩⟩), (9, [], .int .i64 z73), (12, [], .int .i64 y90.2), (98, [], .bool false)] [] H116 (by decide) (by kernel_rfl) trivial fun _ wd117 H118 hb => ?_
            clear H116
            replace hS := hS.below hb
            clear hb
            refine m_skipG 98 [99, 0, 9, 98] [(99, [], undef), (0, [], .string ⟨⟨name_⟩⟩), (9, [], .int .i64 z73), (98, [], .bool false)] H118 rfl rfl rfl rfl rfl rfl fun _ H119 => ?_
            clear H118
            refine m_skipG 98 [100, 0, 9, 98] [(100, [], undef), (0, [], .string ⟨⟨name_⟩⟩), (9, [], .int .i64 z73), (98, [], .bool false)] H119 rfl rfl rfl rfl rfl rfl fun _ H120 => ?_
            clear H119
            refine m_skipG 98 [101, 0, 9, 98, 100] [(101, [], undef), (0, [], .string ⟨⟨name_⟩⟩), (9, [], .int .i64 z73), (98, [], .bool false), (100, [], undef)] H120 rfl rfl rfl rfl rfl rfl fun _ H121 => ?_
            clear H120
            refine m_skipG 98 [102, 0, 9, 98, 100] [(102, [], undef), (0, [], .string ⟨⟨name_⟩⟩), (9, [], .int .i64 z73), (98, [], .bool false), (100, [], undef)] H121 rfl rfl rfl rfl rfl rfl fun _ H122 => ?_
            clear H121
            refine m_skipG 98 [103, 0, 9, 98] [(103, [], undef), (0, [], .string ⟨⟨name_⟩⟩), (9, [], .int .i64 z73), (98, [], .bool false)] H122 rfl rfl rfl rfl rfl rfl fun _ H123 => ?_
            clear H122
            refine wl_batch 16 18 [] [0, 9, 105] [(0, [], .string ⟨⟨name_⟩⟩), (9, [], .int .i64 z73), (105, [], .bool false)] [] H123 (by decide) (by kernel_rfl) trivial fun _ wd124 H125 hb => ?_
            clear H123
            replace hS := hS.below hb
            clear hb
            refine m_skipG 105 [106, 0, 105] [(106, [], undef), (0, [], .string ⟨⟨name_⟩⟩), (105, [], .bool false)] H125 rfl rfl rfl rfl rfl rfl fun _ H126 => ?_
            clear H125
            refine m_skipG 105 [107, 0, 105] [(107, [], undef), (0, [], .string ⟨⟨name_⟩⟩), (105, [], .bool false)] H126 rfl rfl rfl rfl rfl rfl fun _ H127 => ?_
            clear H126
            refine m_skipG 105 [108, 0, 105] [(108, [], undef), (0, [], .string ⟨⟨name_⟩⟩), (105, [], .bool false)] H127 rfl rfl rfl rfl rfl rfl fun _ H128 => ?_
            clear H127
            refine m_skipU 108 [109, 105, 108] [(109, [], undef), (105, [], .bool false), (108, [], undef)] H128 rfl rfl rfl rfl rfl fun _ H129 => ?_
            clear H128
            refine m_skipU 108 [110, 105, 108] [(110, [], undef), (105, [], .bool false), (108, [], undef)] H129 rfl rfl rfl rfl rfl fun _ H130 => ?_
            clear H129
            refine m_skipU 108 [111, 105, 108] [(111, [], undef), (105, [], .bool false), (108, [], undef)] H130 rfl rfl rfl rfl rfl fun _ H131 => ?_
            clear H130
            refine m_skipG 105 [112, 105] [(112, [], undef), (105, [], .bool false)] H131 rfl rfl rfl rfl rfl rfl fun _ H132 => ?_
            clear H131
            refine wl_batch 25 27 [] [2] [(2, [], .bool false)] [] H132 (by decide) (by kernel_rfl) trivial fun _ wd133 H134 hb => ?_
            clear H132
            replace hS := hS.below hb
            clear hb
            refine wl_end rfl ?_
            obtain rfl := someE hm
            exact ⟨Fr.keep (ks := [2]) H134 (by kernel_rfl), hS⟩
        · rintro _ wd135 ⟨H, hS⟩
          replace hS : SH M X w [Ent.im (tI .u8) gl_strings_asciiSpace (Gh.mk (some ⟨0, 0, none⟩) 256 fun _ _ => .nil)] _ := hS.sel [1] rfl
          refine w_ret ?_
          obtain rfl := someE hm
          exact retR1 H rfl rfl ⟨_, rfl, rfl, (hS.sel [] rfl)⟩
theorem law25_PropsOwn_ok  (m : Nat) (name_ : Str) (r : Bool) (hm : law25_PropsOwn m name_ = some r) (w : World) (hL : S0 F0 [Ent.im (tI .u8) gl_strings_asciiSpace (Gh.mk (some ⟨0, 0, none⟩) 256 fun _ _ => .nil)] w ∧ fpl [Ent.im (tI .u8) gl_strings_asciiSpace (Gh.mk (some ⟨0, 0, none⟩) 256 fun _ _ => .nil)] = []) : RetB Tryd.prog 6 ⟨[.string ⟨⟨name_⟩⟩]⟩ (.bool r) w := retB_of hL (Tryd.call6 _) (fun w' h => law25_PropsOwn_w F0 m   name_ r hm w' h)

def law25_PropsHas_L1 (m : Nat) (prop : Int) (v_ : TVal) (y9 : List TProp) : Nat → Bool → Int → Option (Bool)
  | 0, _, _ => none
  | kk + 1, v44, v45 =>
    cond (decide (v45 < (ln ((gi y9 prop).Words)))) (
    chk (v44 = false → 0 ≤ v45 ∧ v45 < ln ((gi y9 prop).Words)) <|
    lt (cond v44 true ((gi ((gi y9 prop).Words) v45) == v_.Word)) fun x49 =>
    law25_PropsHas_L1 m prop v_ y9 kk x49 (w64 (v45 + 1))) (
    some v44)
def law25_PropsHas_L2 (m : Nat) (prop : Int) (v_ : TVal) (y9 : List TProp) : Nat → Bool → Int → Option (Bool)
  | 0, _, _ => none
  | kk + 1, v58, v59 =>
    cond (decide (v59 < (ln ((gi y9 prop).Kinds)))) (
    chk (v58 = false → 0 ≤ v59 ∧ v59 < ln ((gi y9 prop).Kinds)) <|
    lt (cond v58 true (cond ((gi ((gi y9 prop).Kinds) v59) == v_.Kind) (cond (!((gi y9 prop).Least)) true (decide (0 ≤ v_.Num))) false)) fun x63 =>
    law25_PropsHas_L2 m prop v_ y9 kk x63 (w64 (v59 + 1))) (
    some v58)
def law25_PropsHas (m : Nat) (prop : Int) (v_ : TVal) : Option (Bool) :=
  Option.bind (law25_alive m) fun y6 =>
  Option.bind (props_Table m) fun y9 =>
  lt (cond (decide (prop < 0)) true (decide (18 ≤ prop))) fun x16 =>
  lt (cond (cond x16 true ((ln y9) != 18)) true (decide (200 < (ln v_.Word)))) fun x17 =>
  cond (cond x17 true (!y6)) (
  some y6) (
  Option.bind (props_Has m prop v_) fun y22 =>
  cond (y22.2 != 0) (
  some false) (
  chk (0 ≤ prop ∧ prop < ln y9) <|
  Option.bind (
  cond (v_.Kind == 1) (
  law25_PropsHas_L1 m prop v_ y9 m false 0) (
  some false)) fun (z39 : Bool) =>
  Option.bind (
  law25_PropsHas_L2 m prop v_ y9 m z39 0) fun (z55 : Bool) =>
  Option.bind (cond y6 (cond z55 (props_Check v_) (some default)) (some default)) fun y69 =>
  lt (cond y6 (y22.1 == (cond z55 (y69 == 0) false)) false) fun x70 =>
  some x70))
end Go.Proofs.YtfcnkhiohnjepaaDoor
