/-
  What the Go functions compute, as Lean functions, and that a call returns just that. Printed by a program.
-/
import Derived.Test.YtemchjneoalnoaaDoorRows
import Derived.Test.YtemchjneoalnoaaDoorX
import Derived.Test.YtemchjneoalnoaaDoorIF
import Derived.Test.YtemchjneoalnoaaDoorMP
import Derived.Test.YtemchjneoalnoaaDoorM
set_option linter.unusedVariables false
set_option maxRecDepth 20000
set_option maxHeartbeats 4000000
namespace Go.Proofs.YtemchjneoalnoaaDoor
open Go.V Go.RowKit
def tyColor : Ty TColor where
  z := 4
  enc := fun x g => [.int .u8 x.Red, .int .u8 x.Green, .int .u8 x.Blue, .int .u8 x.Alpha]
  inn := fun _ _ _ _ => True
  len := fun _ _ => rfl
  one := fun _ _ => rfl
  kp := fun _ _ _ => trivial
  anti := fun _ _ => trivial
  fresh := fun _ => trivial
def tyVal : Ty TVal where
  z := 7
  enc := fun x g => [.int .u8 x.Kind, .string ⟨⟨x.Word⟩⟩, .int .i64 x.Num, .int .u8 x.Color.Red, .int .u8 x.Color.Green, .int .u8 x.Color.Blue, .int .u8 x.Color.Alpha]
  inn := fun _ _ _ _ => True
  len := fun _ _ => rfl
  one := fun _ _ => rfl
  kp := fun _ _ _ => trivial
  anti := fun _ _ => trivial
  fresh := fun _ => trivial
theorem props_Check_w  (M : Av) (v_ : TVal) (r : Int) (hm : props_Check v_ = some r) (w : World) (hS : S0 M [] w) : Calls Tryd.prog 10 ⟨[.agg ⟨[.int .u8 v_.Kind, .string ⟨⟨v_.Word⟩⟩, .int .i64 v_.Num, .int .u8 v_.Color.Red, .int .u8 v_.Color.Green, .int .u8 v_.Color.Blue, .int .u8 v_.Color.Alpha]⟩]⟩ w (fun e w' => ∃ v, e = .returned v ∧ v = .int .i64 r ∧ SH M (fpl []) w [] w') := by
 rw [props_Check] at hm
 have hS0 : SH M (fpl []) w [] w := hS
 generalize hX : fpl [] = X at hS0 ⊢
 clear hS hX
 have hS := hS0
 clear hS0
 refine calls_entryP Tryd.func10 rfl Tryd.ntmps10 rfl fun _ H => ?_
 refine w_seq ?_
 refine wl_start ?_
 have hd := hS.hand [] [] rfl rfl
 refine m_stp [1] [] H rfl rfl rfl rfl (o_box [.int .u8 v_.Kind, .string ⟨⟨v_.Word⟩⟩, .int .i64 v_.Num, .int .u8 v_.Color.Red, .int .u8 v_.Color.Green, .int .u8 v_.Color.Blue, .int .u8 v_.Color.Alpha] H hd rfl rfl) (fun _ => rfl) fun _ wd2 v H3 hq => ?_
 clear H hd
 obtain ⟨b1, rfl, hq⟩ := hq
 replace hS : SH M X w [Ent.blk b1 [.int .u8 v_.Kind, .string ⟨⟨v_.Word⟩⟩, .int .i64 v_.Num, .int .u8 v_.Color.Red, .int .u8 v_.Color.Green, .int .u8 v_.Color.Blue, .int .u8 v_.Color.Alpha]] _ := hS.join [] [] rfl rfl hq
 clear hq
 refine wl_batch 1 2 [] [1] [(1, [], .pointer (some ⟨b1, 0, none⟩))] [] H3 (by decide) (by kernel_rfl) trivial fun _ wd4 H5 hb => ?_
 clear H3
 replace hS := hS.below hb
 clear hb
 refine wl_end rfl ?_
 refine w_seq ?_
 refine wl_start ?_
 refine wl_batch 0 3 [(.int .u8 v_.Kind)] [1, 7] [(1, [], .pointer (some ⟨b1, 0, none⟩)), (7, [], .agg ⟨[.int .u8 v_.Kind, .string ⟨⟨[]⟩⟩, .int .i64 0, .int .u8 0, .int .u8 0, .int .u8 0, .int .u8 0]⟩)] [fun wz => V.at1 ⟨b1, 0, none⟩ (.int .u8 v_.Kind) wz] H5 (by decide) (by kernel_rfl) ⟨((hS.bk 0 rfl).at1 rfl), trivial⟩ fun _ wd6 H7 hb => ?_
 clear H5
 replace hS := hS.below hb
 clear hb
 have hd := hS.hand [] [0] rfl rfl
 refine m_stp [3, 1, 7] [(1, [], .pointer (some ⟨b1, 0, none⟩)), (7, [], .agg ⟨[.int .u8 v_.Kind, .string ⟨⟨[]⟩⟩, .int .i64 0, .int .u8 0, .int .u8 0, .int .u8 0, .int .u8 0]⟩)] H7 rfl rfl rfl rfl (o_alloc [.int .u8 0, .string ⟨⟨[]⟩⟩, .int .i64 0, .int .u8 0, .int .u8 0, .int .u8 0, .int .u8 0] (z := .agg ⟨[.int .u8 0, .string ⟨⟨[]⟩⟩, .int .i64 0, .int .u8 0, .int .u8 0, .int .u8 0, .int .u8 0]⟩) hd (by kernel_rfl) rfl) (fun _ => rfl) fun _ wd9 v H10 hq => ?_
 clear H7 hd
 obtain ⟨b8, rfl, hq⟩ := hq
 replace hS : SH M X w [Ent.blk b8 [.int .u8 0, .string ⟨⟨[]⟩⟩, .int .i64 0, .int .u8 0, .int .u8 0, .int .u8 0, .int .u8 0], Ent.blk b1 [.int .u8 v_.Kind, .string ⟨⟨v_.Word⟩⟩, .int .i64 v_.Num, .int .u8 v_.Color.Red, .int .u8 v_.Color.Green, .int .u8 v_.Color.Blue, .int .u8 v_.Color.Alpha]] _ := hS.join [] [0] rfl rfl hq
 clear hq
 have hd := hS.hand [0] [1] rfl rfl
 refine m_stp0 [1, 3] [(1, [], .pointer (some ⟨b1, 0, none⟩)), (3, [], .pointer (some ⟨b8, 0, none⟩))] H10 rfl rfl rfl (o_store [.int .u8 v_.Kind, .string ⟨⟨[]⟩⟩, .int .i64 0, .int .u8 0, .int .u8 0, .int .u8 0, .int .u8 0] H10 hd rfl rfl (by kernel_rfl) rfl rfl rfl) rfl fun _ wd11 H12 hq => ?_
 clear H10 hd
 obtain ⟨_, hq⟩ := hq
 replace hS : SH M X w [Ent.blk b8 [.int .u8 v_.Kind, .string ⟨⟨[]⟩⟩, .int .i64 0, .int .u8 0, .int .u8 0, .int .u8 0, .int .u8 0], Ent.blk b1 [.int .u8 v_.Kind, .string ⟨⟨v_.Word⟩⟩, .int .i64 v_.Num, .int .u8 v_.Color.Red, .int .u8 v_.Color.Green, .int .u8 v_.Color.Blue, .int .u8 v_.Color.Alpha]] _ := hS.join [0] [1] rfl rfl hq
 clear hq
 refine wl_end rfl ?_
 refine s_reg [] [1, 3, 4] [(1, [], .pointer (some ⟨b1, 0, none⟩)), (3, [], .pointer (some ⟨b8, 0, none⟩)), (4, [], .int .i64 1000000000000)] [] H12 (by kernel_rfl) trivial fun _ wd13 H14 hb => ?_
 clear H12
 replace hS := hS.below hb
 clear hb
 obtain ⟨z15, hz, hm_z15⟩ := bindE hm
 refine w_cut (fun a' w' => ∃ s_z15 : Str × Int × Int × Int × Int × Int, z15 = Sum.inr s_z15 ∧ Fr 52 [(1, [], .pointer (some ⟨b1, 0, none⟩)), (3, [], .pointer (some ⟨b8, 0, none⟩))] a' ∧ SH M X w [Ent.blk b8 [.int .u8 v_.Kind, .string ⟨⟨s_z15.1⟩⟩, .int .i64 s_z15.2.2.2.2.2, .int .u8 s_z15.2.1, .int .u8 s_z15.2.2.1, .int .u8 s_z15.2.2.2.1, .int .u8 s_z15.2.2.2.2.1], Ent.blk b1 [.int .u8 v_.Kind, .string ⟨⟨v_.Word⟩⟩, .int .i64 v_.Num, .int .u8 v_.Color.Red, .int .u8 v_.Color.Green, .int .u8 v_.Color.Blue, .int .u8 v_.Color.Alpha]] w') ?_ ?_
 ·replace hm := hz
  refine s_reg [(.int .u8 v_.Kind)] [1, 3, 4, 9] [(1, [], .pointer (some ⟨b1, 0, none⟩)), (3, [], .pointer (some ⟨b8, 0, none⟩)), (4, [], .int .i64 1000000000000), (9, [], .int .u8 v_.Kind)] [fun wz => V.at1 ⟨b1, 0, none⟩ (.int .u8 v_.Kind) wz] H14 (by kernel_rfl) ⟨((hS.bk 1 rfl).at1 rfl), trivial⟩ fun _ wd16 H17 hb => ?_
  clear H14
  replace hS := hS.below hb
  clear hb
  refine w_block ?_
  refine w_seq ?_
  refine w_block ?_
  refine w_seq ?_
  refine w_block ?_
  refine w_seq ?_
  refine w_block ?_
  obtain ⟨z18, hz, hm_z18⟩ := bindE hm
  refine w_cut (fun a' w' => ∃ s_z18 : Int, z18 = Sum.inr s_z18 ∧ Fr 52 [(1, [], .pointer (some ⟨b1, 0, none⟩)), (3, [], .pointer (some ⟨b8, 0, none⟩)), (4, [], .int .i64 s_z18)] a' ∧ SH M X w [Ent.blk b8 [.int .u8 v_.Kind, .string ⟨⟨[]⟩⟩, .int .i64 0, .int .u8 0, .int .u8 0, .int .u8 0, .int .u8 0], Ent.blk b1 [.int .u8 v_.Kind, .string ⟨⟨v_.Word⟩⟩, .int .i64 v_.Num, .int .u8 v_.Color.Red, .int .u8 v_.Color.Green, .int .u8 v_.Color.Blue, .int .u8 v_.Color.Alpha]] w') ?_ ?_
  ·replace hm := hz
   refine w_block ?_
   refine w_seq ?_
   refine w_block ?_
   refine w_seq ?_
   refine w_block ?_
   refine w_seq ?_
   refine w_seq ?_
   refine s_reg [] [1, 3, 4, 9, 10] [(1, [], .pointer (some ⟨b1, 0, none⟩)), (3, [], .pointer (some ⟨b8, 0, none⟩)), (4, [], .int .i64 1000000000000), (9, [], .int .u8 v_.Kind), (10, [], .bool (v_.Kind == 1))] [] H17 (by kernel_rfl) trivial fun _ wd19 H20 hb => ?_
   clear H17
   replace hS := hS.below hb
   clear hb
   refine w_if H20 rfl (fun hc => ?c60) (fun hc => ?_)
   case c60 =>
    replace hm := bT hc hm
    refine w_exit rfl ?_
    refine w_seq ?_
    refine wl_start ?_
    refine wl_batch 0 3 [(.string ⟨⟨v_.Word⟩⟩)] [1, 3, 24, 25] [(1, [], .pointer (some ⟨b1, 0, none⟩)), (3, [], .pointer (some ⟨b8, 0, none⟩)), (24, [], .string ⟨⟨v_.Word⟩⟩), (25, [], .pointer (some ⟨b8, 1, none⟩))] [fun wz => V.at1 ⟨b1, 1, none⟩ (.string ⟨⟨v_.Word⟩⟩) wz] H20 (by decide) (by kernel_rfl) ⟨((hS.bk 1 rfl).at1 rfl), trivial⟩ fun _ wd21 H22 hb => ?_
    clear H20
    replace hS := hS.below hb
    clear hb
    have hd := hS.hand [0] [1] rfl rfl
    refine m_stp0 [1, 3] [(1, [], .pointer (some ⟨b1, 0, none⟩)), (3, [], .pointer (some ⟨b8, 0, none⟩))] H22 rfl rfl rfl (o_store [.int .u8 v_.Kind, .string ⟨⟨v_.Word⟩⟩, .int .i64 0, .int .u8 0, .int .u8 0, .int .u8 0, .int .u8 0] H22 hd rfl rfl (by kernel_rfl) rfl rfl rfl) rfl fun _ wd23 H24 hq => ?_
    clear H22 hd
    obtain ⟨_, hq⟩ := hq
    replace hS : SH M X w [Ent.blk b8 [.int .u8 v_.Kind, .string ⟨⟨v_.Word⟩⟩, .int .i64 0, .int .u8 0, .int .u8 0, .int .u8 0, .int .u8 0], Ent.blk b1 [.int .u8 v_.Kind, .string ⟨⟨v_.Word⟩⟩, .int .i64 v_.Num, .int .u8 v_.Color.Red, .int .u8 v_.Color.Green, .int .u8 v_.Color.Blue, .int .u8 v_.Color.Alpha]] _ := hS.join [0] [1] rfl rfl hq
    clear hq
    refine wl_end rfl ?_
    refine w_exit rfl ?_
    obtain ⟨r25, hr_r25, hm⟩ := bindE hm
    obtain rfl := someE hm
    have hm := hm_z18
    obtain rfl := someE hm
    have hm := hr_r25
    clear hr_r25
    obtain rfl := someE hm
    exact ⟨_, rfl, FrG.keep (ks := [1, 3]) H24 (by kernel_rfl), hS⟩
   replace hm := bF hc hm
   refine w_skip ?_
   refine w_seq ?_
   refine s_reg [] [1, 3, 4, 9, 12] [(1, [], .pointer (some ⟨b1, 0, none⟩)), (3, [], .pointer (some ⟨b8, 0, none⟩)), (4, [], .int .i64 1000000000000), (9, [], .int .u8 v_.Kind), (12, [], .bool (v_.Kind == 6))] [] H20 (by kernel_rfl) trivial fun _ wd26 H27 hb => ?_
   clear H20
   replace hS := hS.below hb
   clear hb
   refine w_if H27 rfl (fun hc => ?c59) (fun hc => ?_)
   case c59 =>
    replace hm := bT hc hm
    refine w_exit rfl ?_
    refine w_reg [] [1, 3, 4] [(1, [], .pointer (some ⟨b1, 0, none⟩)), (3, [], .pointer (some ⟨b8, 0, none⟩)), (4, [], .int .i64 (w64 (Int.tdiv 1000000000000 1000)))] [fun _ => (1000 : Int) ≠ 0] H27 (by kernel_rfl) ⟨(by show (1000 : Int) ≠ 0; decide), trivial⟩ fun _ wd28 H29 hb => ?_
    clear H27
    replace hS := hS.below hb
    clear hb
    obtain rfl := someE hm
    exact ⟨_, rfl, FrG.keep (ks := [1, 3, 4]) H29 (by kernel_rfl), hS⟩
   replace hm := bF hc hm
   refine w_skip ?_
   refine w_seq ?_
   obtain ⟨z30, hz, hm⟩ := bindE hm
   refine w_cut (fun a' w' => Fr 52 [(1, [], .pointer (some ⟨b1, 0, none⟩)), (3, [], .pointer (some ⟨b8, 0, none⟩)), (4, [], .int .i64 1000000000000), (9, [], .int .u8 v_.Kind), (14, [], .bool z30)] a' ∧ SH M X w [Ent.blk b8 [.int .u8 v_.Kind, .string ⟨⟨[]⟩⟩, .int .i64 0, .int .u8 0, .int .u8 0, .int .u8 0, .int .u8 0], Ent.blk b1 [.int .u8 v_.Kind, .string ⟨⟨v_.Word⟩⟩, .int .i64 v_.Num, .int .u8 v_.Color.Red, .int .u8 v_.Color.Green, .int .u8 v_.Color.Blue, .int .u8 v_.Color.Alpha]] w') ?_ ?_
   ·replace hm := hz
    refine s_reg [] [1, 3, 4, 9, 14] [(1, [], .pointer (some ⟨b1, 0, none⟩)), (3, [], .pointer (some ⟨b8, 0, none⟩)), (4, [], .int .i64 1000000000000), (9, [], .int .u8 v_.Kind), (14, [], .bool (v_.Kind == 2))] [] H27 (by kernel_rfl) trivial fun _ wd31 H32 hb => ?_
    clear H27
    replace hS := hS.below hb
    clear hb
    refine w_if H32 rfl (fun hc => ?c41) (fun hc => ?_)
    case c41 =>
     replace hm := bT hc hm
     refine w_skip ?_
     obtain rfl := someE hm
     exact ⟨FrG.keep (ks := [1, 3, 4, 9, 14]) H32 (by kernel_rfl), hS⟩
    replace hm := bF hc hm
    refine s_reg [] [1, 3, 4, 9, 14] [(1, [], .pointer (some ⟨b1, 0, none⟩)), (3, [], .pointer (some ⟨b8, 0, none⟩)), (4, [], .int .i64 1000000000000), (9, [], .int .u8 v_.Kind), (14, [], .bool (v_.Kind == 3))] [] H32 (by kernel_rfl) trivial fun _ wd33 H34 hb => ?_
    clear H32
    replace hS := hS.below hb
    clear hb
    refine w_if H34 rfl (fun hc => ?c40) (fun hc => ?_)
    case c40 =>
     replace hm := bT hc hm
     refine w_skip ?_
     obtain rfl := someE hm
     exact ⟨FrG.keep (ks := [1, 3, 4, 9, 14]) H34 (by kernel_rfl), hS⟩
    replace hm := bF hc hm
    refine s_reg [] [1, 3, 4, 9, 14] [(1, [], .pointer (some ⟨b1, 0, none⟩)), (3, [], .pointer (some ⟨b8, 0, none⟩)), (4, [], .int .i64 1000000000000), (9, [], .int .u8 v_.Kind), (14, [], .bool (v_.Kind == 4))] [] H34 (by kernel_rfl) trivial fun _ wd35 H36 hb => ?_
    clear H34
    replace hS := hS.below hb
    clear hb
    refine w_if H36 rfl (fun hc => ?c39) (fun hc => ?_)
    case c39 =>
     replace hm := bT hc hm
     refine w_skip ?_
     obtain rfl := someE hm
     exact ⟨FrG.keep (ks := [1, 3, 4, 9, 14]) H36 (by kernel_rfl), hS⟩
    replace hm := bF hc hm
    refine w_reg [] [1, 3, 4, 9, 14] [(1, [], .pointer (some ⟨b1, 0, none⟩)), (3, [], .pointer (some ⟨b8, 0, none⟩)), (4, [], .int .i64 1000000000000), (9, [], .int .u8 v_.Kind), (14, [], .bool (v_.Kind == 5))] [] H36 (by kernel_rfl) trivial fun _ wd37 H38 hb => ?_
    clear H36
    replace hS := hS.below hb
    clear hb
    obtain rfl := someE hm
    exact ⟨FrG.keep (ks := [1, 3, 4, 9, 14]) H38 (by kernel_rfl), hS⟩
   ·rintro _ wd58 ⟨H, hS⟩
    refine w_if H rfl (fun hc => ?c57) (fun hc => ?_)
    case c57 =>
     replace hm := bT hc hm
     refine w_exit rfl ?_
     obtain rfl := someE hm
     exact ⟨_, rfl, FrG.keep (ks := [1, 3, 4]) H (by kernel_rfl), hS⟩
    replace hm := bF hc hm
    refine w_skip ?_
    refine w_seq ?_
    refine s_reg [] [1, 3, 9, 19] [(1, [], .pointer (some ⟨b1, 0, none⟩)), (3, [], .pointer (some ⟨b8, 0, none⟩)), (9, [], .int .u8 v_.Kind), (19, [], .bool (v_.Kind == 7))] [] H (by kernel_rfl) trivial fun _ wd42 H43 hb => ?_
    clear H
    replace hS := hS.below hb
    clear hb
    refine w_if H43 rfl (fun hc => ?c56) (fun hc => ?_)
    case c56 =>
     replace hm := bT hc hm
     refine w_exit rfl ?_
     obtain ⟨r48, hr_r48, hm⟩ := bindE hm
     obtain rfl := someE hm
     have hm := hm_z18
     obtain rfl := someE hm
     have hm := hr_r48
     clear hr_r48
     refine w_seq ?_
     refine wl_start ?_
     refine wl_batch 0 3 [(.agg ⟨[.int .u8 v_.Color.Red, .int .u8 v_.Color.Green, .int .u8 v_.Color.Blue, .int .u8 v_.Color.Alpha]⟩)] [1, 3, 37, 38] [(1, [], .pointer (some ⟨b1, 0, none⟩)), (3, [], .pointer (some ⟨b8, 0, none⟩)), (37, [], .agg ⟨[.int .u8 v_.Color.Red, .int .u8 v_.Color.Green, .int .u8 v_.Color.Blue, .int .u8 v_.Color.Alpha]⟩), (38, [], .pointer (some ⟨b8, 3, none⟩))] [fun wz => V.atN b1 3 [.int .u8 v_.Color.Red, .int .u8 v_.Color.Green, .int .u8 v_.Color.Blue, .int .u8 v_.Color.Alpha] 0 wz] H43 (by decide) (by kernel_rfl) ⟨((hS.bk 1 rfl).atD rfl), trivial⟩ fun _ wd44 H45 hb => ?_
     clear H43
     replace hS := hS.below hb
     clear hb
     have hd := hS.hand [0] [1] rfl rfl
     refine m_stp0 [1, 3] [(1, [], .pointer (some ⟨b1, 0, none⟩)), (3, [], .pointer (some ⟨b8, 0, none⟩))] H45 rfl rfl rfl (o_store [.int .u8 v_.Kind, .string ⟨⟨[]⟩⟩, .int .i64 0, .int .u8 v_.Color.Red, .int .u8 v_.Color.Green, .int .u8 v_.Color.Blue, .int .u8 v_.Color.Alpha] H45 hd rfl rfl (by kernel_rfl) rfl rfl rfl) rfl fun _ wd46 H47 hq => ?_
     clear H45 hd
     obtain ⟨_, hq⟩ := hq
     replace hS : SH M X w [Ent.blk b8 [.int .u8 v_.Kind, .string ⟨⟨[]⟩⟩, .int .i64 0, .int .u8 v_.Color.Red, .int .u8 v_.Color.Green, .int .u8 v_.Color.Blue, .int .u8 v_.Color.Alpha], Ent.blk b1 [.int .u8 v_.Kind, .string ⟨⟨v_.Word⟩⟩, .int .i64 v_.Num, .int .u8 v_.Color.Red, .int .u8 v_.Color.Green, .int .u8 v_.Color.Blue, .int .u8 v_.Color.Alpha]] _ := hS.join [0] [1] rfl rfl hq
     clear hq
     refine wl_end rfl ?_
     refine w_exit rfl ?_
     obtain rfl := someE hm
     exact ⟨_, rfl, FrG.keep (ks := [1, 3]) H47 (by kernel_rfl), hS⟩
    replace hm := bF hc hm
    refine w_skip ?_
    refine s_reg [] [1, 3, 21] [(1, [], .pointer (some ⟨b1, 0, none⟩)), (3, [], .pointer (some ⟨b8, 0, none⟩)), (21, [], .bool (v_.Kind == 8))] [] H43 (by kernel_rfl) trivial fun _ wd49 H50 hb => ?_
    clear H43
    replace hS := hS.below hb
    clear hb
    refine w_if H50 rfl (fun hc => ?c55) (fun hc => ?_)
    case c55 =>
     replace hm := bT hc hm
     refine w_exit rfl ?_
     obtain ⟨r51, hr_r51, hm⟩ := bindE hm
     obtain rfl := someE hm
     have hm := hm_z18
     obtain rfl := someE hm
     have hm := hr_r51
     clear hr_r51
     refine w_exit rfl ?_
     obtain rfl := someE hm
     exact ⟨_, rfl, FrG.keep (ks := [1, 3]) H50 (by kernel_rfl), hS⟩
    replace hm := bF hc hm
    refine w_skip ?_
    refine w_exit rfl ?_
    obtain ⟨r54, hr_r54, hm⟩ := bindE hm
    obtain rfl := someE hm
    have hm := hm_z18
    obtain rfl := someE hm
    have hm := hr_r54
    clear hr_r54
    refine w_seq ?_
    refine s_reg [] [2] [(2, [], .int .i64 8)] [] H50 (by kernel_rfl) trivial fun _ wd52 H53 hb => ?_
    clear H50
    replace hS := hS.below hb
    clear hb
    refine w_ret ?_
    obtain rfl := someE hm
    have hm := hm_z15
    obtain rfl := someE hm
    exact retR1 H53 rfl rfl ⟨_, rfl, rfl, (hS.sel [] rfl)⟩
  ·rintro _ wd66 ⟨s_z18, hz, H, hS⟩
   subst hz
   replace hm := sumR hm_z18
   refine w_seq ?_
   refine wl_start ?_
   obtain ⟨x61, hx61, hm⟩ := letE hm
   refine wl_batch 0 8 [(.int .i64 v_.Num)] [1, 3, 34, 35] [(1, [], .pointer (some ⟨b1, 0, none⟩)), (3, [], .pointer (some ⟨b8, 0, none⟩)), (34, [], .int .i64 x61), (35, [], .pointer (some ⟨b8, 2, none⟩))] [fun wz => V.at1 ⟨b1, 2, none⟩ (.int .i64 v_.Num) wz] H (by decide) (by subst hx61; kernel_rfl) ⟨((hS.bk 1 rfl).at1 rfl), trivial⟩ fun _ wd62 H63 hb => ?_
   clear H
   replace hS := hS.below hb
   clear hb
   have hd := hS.hand [0] [1] rfl rfl
   refine m_stp0 [1, 3] [(1, [], .pointer (some ⟨b1, 0, none⟩)), (3, [], .pointer (some ⟨b8, 0, none⟩))] H63 rfl rfl rfl (o_store [.int .u8 v_.Kind, .string ⟨⟨[]⟩⟩, .int .i64 x61, .int .u8 0, .int .u8 0, .int .u8 0, .int .u8 0] H63 hd rfl rfl (by kernel_rfl) rfl rfl rfl) rfl fun _ wd64 H65 hq => ?_
   clear H63 hd
   obtain ⟨_, hq⟩ := hq
   replace hS : SH M X w [Ent.blk b8 [.int .u8 v_.Kind, .string ⟨⟨[]⟩⟩, .int .i64 x61, .int .u8 0, .int .u8 0, .int .u8 0, .int .u8 0], Ent.blk b1 [.int .u8 v_.Kind, .string ⟨⟨v_.Word⟩⟩, .int .i64 v_.Num, .int .u8 v_.Color.Red, .int .u8 v_.Color.Green, .int .u8 v_.Color.Blue, .int .u8 v_.Color.Alpha]] _ := hS.join [0] [1] rfl rfl hq
   clear hq
   refine wl_end rfl ?_
   refine w_exit rfl ?_
   obtain rfl := someE hm
   exact ⟨_, rfl, FrG.keep (ks := [1, 3]) H65 (by kernel_rfl), hS⟩
 ·rintro _ wd76 ⟨s_z15, hz, H, hS⟩
  subst hz
  replace hm := sumR hm_z15
  refine w_seq ?_
  obtain ⟨x67, hx67, hm⟩ := letE hm
  obtain ⟨x68, hx68, hm⟩ := letE hm
  refine s_reg [(.agg ⟨[.int .u8 v_.Kind, .string ⟨⟨v_.Word⟩⟩, .int .i64 v_.Num, .int .u8 v_.Color.Red, .int .u8 v_.Color.Green, .int .u8 v_.Color.Blue, .int .u8 v_.Color.Alpha]⟩), (.agg ⟨[.int .u8 v_.Kind, .string ⟨⟨s_z15.1⟩⟩, .int .i64 s_z15.2.2.2.2.2, .int .u8 s_z15.2.1, .int .u8 s_z15.2.2.1, .int .u8 s_z15.2.2.2.1, .int .u8 s_z15.2.2.2.2.1]⟩), (.int .u8 v_.Kind), (.string ⟨⟨v_.Word⟩⟩)] [51] [(51, [], .bool x68)] [fun wz => V.atN b1 0 [.int .u8 v_.Kind, .string ⟨⟨v_.Word⟩⟩, .int .i64 v_.Num, .int .u8 v_.Color.Red, .int .u8 v_.Color.Green, .int .u8 v_.Color.Blue, .int .u8 v_.Color.Alpha] 0 wz, fun wz => V.atN b8 0 [.int .u8 v_.Kind, .string ⟨⟨s_z15.1⟩⟩, .int .i64 s_z15.2.2.2.2.2, .int .u8 s_z15.2.1, .int .u8 s_z15.2.2.1, .int .u8 s_z15.2.2.2.1, .int .u8 s_z15.2.2.2.2.1] 0 wz, fun wz => (x67 = false ∧ True → V.at1 ⟨b1, 0, none⟩ (.int .u8 v_.Kind) wz), fun wz => ((v_.Kind == 1) = true ∧ x67 = false ∧ True → V.at1 ⟨b1, 1, none⟩ (.string ⟨⟨v_.Word⟩⟩) wz)] H (by subst hx67 hx68; kernel_rfl) ⟨((hS.bk 1 rfl).atD rfl), ((hS.bk 0 rfl).atD rfl), fun hg => (hS.bk 1 rfl).at1 rfl, fun hg => (hS.bk 1 rfl).at1 rfl, trivial⟩ fun _ wd69 H70 hb => ?_
  clear H
  replace hS := hS.below hb
  clear hb
  replace hS : SH M X w [] _ := hS.sel [] rfl
  refine w_if H70 rfl (fun hc => ?c75) (fun hc => ?_)
  case c75 =>
   replace hm := bT hc hm
   refine s_reg [] [2] [(2, [], .int .i64 8)] [] H70 (by kernel_rfl) trivial fun _ wd71 H72 hb => ?_
   clear H70
   replace hS := hS.below hb
   clear hb
   refine w_ret ?_
   obtain rfl := someE hm
   exact retR1 H72 rfl rfl ⟨_, rfl, rfl, (hS.sel [] rfl)⟩
  replace hm := bF hc hm
  refine w_skip ?_
  refine s_reg [] [2] [(2, [], .int .i64 0)] [] H70 (by kernel_rfl) trivial fun _ wd73 H74 hb => ?_
  clear H70
  replace hS := hS.below hb
  clear hb
  refine w_ret ?_
  obtain rfl := someE hm
  exact retR1 H74 rfl rfl ⟨_, rfl, rfl, (hS.sel [] rfl)⟩
theorem props_Check_ok  (v_ : TVal) (r : Int) (hm : props_Check v_ = some r) : Ret Tryd.prog 10 ⟨[.agg ⟨[.int .u8 v_.Kind, .string ⟨⟨v_.Word⟩⟩, .int .i64 v_.Num, .int .u8 v_.Color.Red, .int .u8 v_.Color.Green, .int .u8 v_.Color.Blue, .int .u8 v_.Color.Alpha]⟩]⟩ (.int .i64 r) := retP_of (Tryd.call10 _) (fun w h => props_Check_w F0   v_ r hm w h)

theorem strings_Join_w {g_elems : Gh} (M : Av) (m : Nat) (elems : List Str) (sep : Str) (r : Str) (hm : strings_Join m elems sep = some r) (w : World) (hS : S0 M [Ent.im tS elems g_elems] w) : Calls Tryd.prog 20 ⟨[.slice g_elems.a elems.length g_elems.c, .string ⟨⟨sep⟩⟩]⟩ w (fun e w' => ∃ v, e = .returned v ∧ v = .string ⟨⟨r⟩⟩ ∧ SH M (fpl [Ent.im tS elems g_elems]) w [] w') := by
 rw [strings_Join] at hm
 have hS0 : SH M (fpl [Ent.im tS elems g_elems]) w [Ent.im tS elems g_elems] w := hS
 generalize hX : fpl [Ent.im tS elems g_elems] = X at hS0 ⊢
 clear hS hX
 have hS := hS0
 clear hS0
 refine calls_entryP Tryd.func20 rfl Tryd.ntmps20 rfl fun _ H => ?_
 refine s_reg [] [0, 1] [(0, [], .slice g_elems.a elems.length g_elems.c), (1, [], .string ⟨⟨sep⟩⟩)] [] H (by kernel_rfl) trivial fun _ wd1 H2 hb => ?_
 clear H
 replace hS := hS.below hb
 clear hb
 refine w_seq ?_
 refine s_reg [] [0, 1, 12] [(0, [], .slice g_elems.a elems.length g_elems.c), (1, [], .string ⟨⟨sep⟩⟩), (12, [], .int .i64 (ln elems))] [] H2 (by kernel_rfl) trivial fun _ wd3 H4 hb => ?_
 clear H2
 replace hS := hS.below hb
 clear hb
 refine w_block ?_
 refine s_reg [] [0, 1, 12, 13] [(0, [], .slice g_elems.a elems.length g_elems.c), (1, [], .string ⟨⟨sep⟩⟩), (12, [], .int .i64 (ln elems)), (13, [], .bool ((ln elems) == 0))] [] H4 (by kernel_rfl) trivial fun _ wd5 H6 hb => ?_
 clear H4
 replace hS := hS.below hb
 clear hb
 refine w_if H6 rfl (fun hc => ?c111) (fun hc => ?_)
 case c111 =>
  replace hm := bT hc hm
  refine s_reg [] [4] [(4, [], .string ⟨⟨[]⟩⟩)] [] H6 (by kernel_rfl) trivial fun _ wd7 H8 hb => ?_
  clear H6
  replace hS := hS.below hb
  clear hb
  replace hS : SH M X w [] _ := hS.sel [] rfl
  refine w_ret ?_
  obtain rfl := someE hm
  exact retR1 H8 rfl rfl ⟨_, rfl, rfl, (hS.sel [] rfl)⟩
 replace hm := bF hc hm
 refine s_reg [] [0, 1, 15] [(0, [], .slice g_elems.a elems.length g_elems.c), (1, [], .string ⟨⟨sep⟩⟩), (15, [], .bool ((ln elems) == 1))] [] H6 (by kernel_rfl) trivial fun _ wd9 H10 hb => ?_
 clear H6
 replace hS := hS.below hb
 clear hb
 refine w_if H10 rfl (fun hc => ?c110) (fun hc => ?_)
 case c110 =>
  replace hm := bT hc hm
  obtain ⟨ho11, hm⟩ := chkE hm
  refine s_reg [(.string ⟨⟨(gi elems (0 : Int))⟩⟩)] [4] [(4, [], .string ⟨⟨(gi elems (0 : Int))⟩⟩)] [fun _ => oka g_elems.a ∧ 0 ≤ (0 : Int) ∧ (0 : Int) < ln elems, fun wz => V.at1 ⟨ab g_elems.a, ao g_elems.a + ((0 : Int)).toNat * 1, none⟩ (.string ⟨⟨(gi elems (0 : Int))⟩⟩) wz] H10 (by kernel_rfl) ⟨((hS.im 0 rfl).oki ho11), ((hS.im 0 rfl).at1 ho11 0 rfl), trivial⟩ fun _ wd12 H13 hb => ?_
  clear H10
  replace hS := hS.below hb
  clear hb
  replace hS : SH M X w [] _ := hS.sel [] rfl
  refine w_ret ?_
  obtain rfl := someE hm
  exact retR1 H13 rfl rfl ⟨_, rfl, rfl, (hS.sel [] rfl)⟩
 replace hm := bF hc hm
 refine w_skip ?_
 refine s_reg [] [0, 1, 5] [(0, [], .slice g_elems.a elems.length g_elems.c), (1, [], .string ⟨⟨sep⟩⟩), (5, [], .int .i64 0)] [] H10 (by kernel_rfl) trivial fun _ wd14 H15 hb => ?_
 clear H10
 replace hS := hS.below hb
 clear hb
 obtain ⟨z16, hz, hm⟩ := bindE hm
 refine w_cut (fun a' w' => Fr 75 [(0, [], .slice g_elems.a elems.length g_elems.c), (1, [], .string ⟨⟨sep⟩⟩), (5, [], .int .i64 z16)] a' ∧ SH M X w [Ent.im tS elems g_elems] w') ?_ ?_
 ·replace hm := hz
  refine s_reg [] [0, 1, 5, 22] [(0, [], .slice g_elems.a elems.length g_elems.c), (1, [], .string ⟨⟨sep⟩⟩), (5, [], .int .i64 0), (22, [], .bool (decide (0 < (ln sep))))] [] H15 (by kernel_rfl) trivial fun _ wd17 H18 hb => ?_
  clear H15
  replace hS := hS.below hb
  clear hb
  refine w_if H18 rfl (fun hc => ?_) (fun hc => ?c27)
  case c27 =>
   replace hm := bF hc hm
   refine w_skip ?_
   obtain rfl := someE hm
   exact ⟨FrG.keep (ks := [0, 1, 5]) H18 (by kernel_rfl), hS⟩
  replace hm := bT hc hm
  refine w_seq ?_
  obtain ⟨ho19, hm⟩ := chkE hm
  obtain ⟨x20, hx20, hm⟩ := letE hm
  refine s_reg [] [0, 1, 5, 29] [(0, [], .slice g_elems.a elems.length g_elems.c), (1, [], .string ⟨⟨sep⟩⟩), (5, [], .int .i64 0), (29, [], .bool (decide (x20 ≤ (ln sep))))] [fun _ => (w64 ((ln elems) - 1)) ≠ 0] H18 (by subst hx20; kernel_rfl) ⟨ho19, trivial⟩ fun _ wd21 H22 hb => ?_
  clear H18
  replace hS := hS.below hb
  clear hb
  refine w_if H22 rfl (fun hc => ?c26) (fun hc => ?_)
  case c26 =>
   replace hm := bT hc hm
   exact noneE hm
  replace hm := bF hc hm
  refine w_skip ?_
  obtain ⟨x23, hx23, hm⟩ := letE hm
  refine w_reg [] [0, 1, 5] [(0, [], .slice g_elems.a elems.length g_elems.c), (1, [], .string ⟨⟨sep⟩⟩), (5, [], .int .i64 x23)] [] H22 (by subst hx23; kernel_rfl) trivial fun _ wd24 H25 hb => ?_
  clear H22
  replace hS := hS.below hb
  clear hb
  obtain rfl := someE hm
  exact ⟨FrG.keep (ks := [0, 1, 5]) H25 (by kernel_rfl), hS⟩
 ·rintro _ wd109 ⟨H, hS⟩
  obtain ⟨z28, hz, hm⟩ := bindE hm
  refine w_cut (fun a' w' => Fr 75 [(0, [], .slice g_elems.a elems.length g_elems.c), (1, [], .string ⟨⟨sep⟩⟩), (5, [], .int .i64 z28)] a' ∧ SH M X w [Ent.im tS elems g_elems] w') ?_ ?_
  ·replace hm := hz
   refine s_reg [] [0, 1, 5, 39, 40, 41] [(0, [], .slice g_elems.a elems.length g_elems.c), (1, [], .string ⟨⟨sep⟩⟩), (5, [], .int .i64 z16), (39, [], .slice g_elems.a elems.length g_elems.c), (40, [], .int .i64 (ln elems)), (41, [], .int .i64 0)] [] H (by kernel_rfl) trivial fun _ wd29 H30 hb => ?_
   clear H
   replace hS := hS.below hb
   clear hb
   refine w_block ?_
   refine w_loop (fun kk a' w' => ∃ (v31 : Int) (v32 : Int), strings_Join_L1 m elems kk v31 v32 = some _ ∧ Fr 75 [(0, [], .slice g_elems.a elems.length g_elems.c), (1, [], .string ⟨⟨sep⟩⟩), (39, [], .slice g_elems.a elems.length g_elems.c), (40, [], .int .i64 (ln elems)), (5, [], .int .i64 v31), (41, [], .int .i64 v32)] a' ∧ SH M X w [Ent.im tS elems g_elems] w') ⟨_, z16, 0, hm, FrG.keep (ks := [0, 1, 39, 40, 5, 41]) H30 (by kernel_rfl), hS⟩ ?_
   clear hm H30 hS
   rintro kk _ wd47 ⟨v31, v32, hm, H, hS⟩
   cases kk with
   | zero => exact noneE hm
   | succ kk =>
    rw [strings_Join_L1] at hm
    refine s_reg [] [0, 1, 5, 39, 40, 41, 42] [(0, [], .slice g_elems.a elems.length g_elems.c), (1, [], .string ⟨⟨sep⟩⟩), (5, [], .int .i64 v31), (39, [], .slice g_elems.a elems.length g_elems.c), (40, [], .int .i64 (ln elems)), (41, [], .int .i64 v32), (42, [], .bool (decide (v32 < (ln elems))))] [] H (by kernel_rfl) trivial fun _ wd33 H34 hb => ?_
    clear H
    replace hS := hS.below hb
    clear hb
    refine w_seq ?_
    refine w_if H34 rfl (fun hc => ?_) (fun hc => ?c46)
    case c46 =>
     replace hm := bF hc hm
     refine w_exit rfl ?_
     obtain rfl := someE hm
     exact ⟨FrG.keep (ks := [0, 1, 5]) H34 (by kernel_rfl), hS⟩
    replace hm := bT hc hm
    refine w_skip ?_
    refine w_seq ?_
    refine w_block ?_
    obtain ⟨ho35, hm⟩ := chkE hm
    refine s_reg [(.string ⟨⟨(gi elems v32)⟩⟩)] [0, 1, 5, 7, 39, 40, 41] [(0, [], .slice g_elems.a elems.length g_elems.c), (1, [], .string ⟨⟨sep⟩⟩), (5, [], .int .i64 v31), (7, [], .string ⟨⟨(gi elems v32)⟩⟩), (39, [], .slice g_elems.a elems.length g_elems.c), (40, [], .int .i64 (ln elems)), (41, [], .int .i64 v32)] [fun _ => oka g_elems.a ∧ 0 ≤ v32 ∧ v32 < ln elems, fun wz => V.at1 ⟨ab g_elems.a, ao g_elems.a + (v32).toNat * 1, none⟩ (.string ⟨⟨(gi elems v32)⟩⟩) wz] H34 (by kernel_rfl) ⟨((hS.im 0 rfl).oki ho35), ((hS.im 0 rfl).at1 ho35 0 rfl), trivial⟩ fun _ wd36 H37 hb => ?_
    clear H34
    replace hS := hS.below hb
    clear hb
    refine w_seq ?_
    obtain ⟨x38, hx38, hm⟩ := letE hm
    refine s_reg [] [0, 1, 5, 7, 39, 40, 41, 49] [(0, [], .slice g_elems.a elems.length g_elems.c), (1, [], .string ⟨⟨sep⟩⟩), (5, [], .int .i64 v31), (7, [], .string ⟨⟨(gi elems v32)⟩⟩), (39, [], .slice g_elems.a elems.length g_elems.c), (40, [], .int .i64 (ln elems)), (41, [], .int .i64 v32), (49, [], .bool x38)] [] H37 (by subst hx38; kernel_rfl) trivial fun _ wd39 H40 hb => ?_
    clear H37
    replace hS := hS.below hb
    clear hb
    refine w_if H40 rfl (fun hc => ?c45) (fun hc => ?_)
    case c45 =>
     replace hm := bT hc hm
     exact noneE hm
    replace hm := bF hc hm
    refine w_skip ?_
    refine w_reg [] [0, 1, 5, 39, 40, 41] [(0, [], .slice g_elems.a elems.length g_elems.c), (1, [], .string ⟨⟨sep⟩⟩), (5, [], .int .i64 (w64 (v31 + (ln (gi elems v32))))), (39, [], .slice g_elems.a elems.length g_elems.c), (40, [], .int .i64 (ln elems)), (41, [], .int .i64 v32)] [] H40 (by kernel_rfl) trivial fun _ wd41 H42 hb => ?_
    clear H40
    replace hS := hS.below hb
    clear hb
    refine w_reg [] [0, 1, 5, 39, 40, 41] [(0, [], .slice g_elems.a elems.length g_elems.c), (1, [], .string ⟨⟨sep⟩⟩), (5, [], .int .i64 (w64 (v31 + (ln (gi elems v32))))), (39, [], .slice g_elems.a elems.length g_elems.c), (40, [], .int .i64 (ln elems)), (41, [], .int .i64 (w64 (v32 + 1)))] [] H42 (by kernel_rfl) trivial fun _ wd43 H44 hb => ?_
    clear H42
    replace hS := hS.below hb
    clear hb
    exact ⟨_, Nat.lt_succ_self _, w64 (v31 + (ln (gi elems v32))), w64 (v32 + 1), hm, FrG.keep (ks := [0, 1, 39, 40, 5, 41]) H44 (by kernel_rfl), hS⟩
  ·rintro _ wd108 ⟨H, hS⟩
   refine w_seq ?_
   refine wl_start ?_
   have hd := hS.hand [] [0] rfl rfl
   refine m_stp [8, 0, 1, 5] [(0, [], .slice g_elems.a elems.length g_elems.c), (1, [], .string ⟨⟨sep⟩⟩), (5, [], .int .i64 z28)] H rfl rfl rfl rfl (o_allocB 5 (z := .agg ⟨[.pointer none, .slice none 0 0]⟩) hd (by kernel_rfl) rfl) (fun _ => rfl) fun _ wd49 v H50 hq => ?_
   clear H hd
   obtain ⟨b48, rfl, hq⟩ := hq
   replace hS : SH M X w [Ent.bld 58 5 b48 ([] : Str) (.nil), Ent.im tS elems g_elems] _ := hS.join [] [0] rfl rfl hq
   clear hq
   refine wl_end rfl ?_
   refine w_seq ?_
   refine wl_start ?_
   refine wl_batch 0 1 [] [0, 1, 8, 56] [(0, [], .slice g_elems.a elems.length g_elems.c), (1, [], .string ⟨⟨sep⟩⟩), (8, [], .pointer (some ⟨b48, 0, none⟩)), (56, [], .int .i64 z28)] [] H50 (by decide) (by kernel_rfl) trivial fun _ wd51 H52 hb => ?_
   clear H50
   replace hS := hS.below hb
   clear hb
   obtain ⟨ho53, hm⟩ := chkE hm
   have hd := hS.hand [0] [1] rfl rfl
   refine m_stp [57, 0, 1, 8] [(0, [], .slice g_elems.a elems.length g_elems.c), (1, [], .string ⟨⟨sep⟩⟩), (8, [], .pointer (some ⟨b48, 0, none⟩))] H52 rfl rfl rfl rfl (o_callx H52 rfl rfl (bld_Gr z28 ho53 hd)) (fun _ => rfl) fun _ wd54 v H55 hq => ?_
   clear H52 hd
   obtain ⟨g56, rfl, hq⟩ := hq
   replace hS : SH M X w [Ent.bld 58 5 b48 ([] : Str) g56, Ent.im tS elems g_elems] _ := hS.join [0] [1] rfl rfl hq
   clear hq
   refine wl_end rfl ?_
   refine w_seq ?_
   refine wl_start ?_
   obtain ⟨ho57, hm⟩ := chkE hm
   refine wl_batch 0 3 [(.string ⟨⟨(gi elems (0 : Int))⟩⟩)] [0, 1, 8, 60] [(0, [], .slice g_elems.a elems.length g_elems.c), (1, [], .string ⟨⟨sep⟩⟩), (8, [], .pointer (some ⟨b48, 0, none⟩)), (60, [], .string ⟨⟨(gi elems (0 : Int))⟩⟩)] [fun _ => oka g_elems.a ∧ 0 ≤ (0 : Int) ∧ (0 : Int) < ln elems, fun wz => V.at1 ⟨ab g_elems.a, ao g_elems.a + ((0 : Int)).toNat * 1, none⟩ (.string ⟨⟨(gi elems (0 : Int))⟩⟩) wz] H55 (by decide) (by kernel_rfl) ⟨((hS.im 1 rfl).oki ho57), ((hS.im 1 rfl).at1 ho57 0 rfl), trivial⟩ fun _ wd58 H59 hb => ?_
   clear H55
   replace hS := hS.below hb
   clear hb
   obtain ⟨ho60, hm⟩ := chkE hm
   obtain ⟨q61, hq61, hm⟩ := letE hm
   have hd := hS.hand [0] [1] rfl rfl
   refine m_stp [61, 0, 1, 8] [(0, [], .slice g_elems.a elems.length g_elems.c), (1, [], .string ⟨⟨sep⟩⟩), (8, [], .pointer (some ⟨b48, 0, none⟩))] H59 rfl rfl rfl rfl (o_callx H59 rfl rfl (bld_WS (gi elems (0 : Int)) ho60 hd)) (fun _ => rfl) fun _ wd62 v H63 hq => ?_
   clear H59 hd
   obtain ⟨g64, rfl, hq⟩ := hq
   rw [← hq61] at hq
   replace hS : SH M X w [Ent.bld 58 5 b48 q61 g64, Ent.im tS elems g_elems] _ := hS.join [0] [1] rfl rfl hq
   clear hq
   refine wl_end rfl ?_
   obtain ⟨z65, hz, hm⟩ := bindE hm
   refine w_cut (fun a' w' => ∃ (g102 : Gh), Fr 75 [(8, [], .pointer (some ⟨b48, 0, none⟩))] a' ∧ SH M X w [Ent.bld 58 5 b48 z65 g102, Ent.im tS elems g_elems] w') ?_ ?_
   ·replace hm := hz
    refine w_seq ?_
    refine wl_start ?_
    refine wl_batch 0 1 [] [1, 8, 62] [(1, [], .string ⟨⟨sep⟩⟩), (8, [], .pointer (some ⟨b48, 0, none⟩)), (62, [], .slice g_elems.a elems.length g_elems.c)] [] H63 (by decide) (by kernel_rfl) trivial fun _ wd66 H67 hb => ?_
    clear H63
    replace hS := hS.below hb
    clear hb
    obtain ⟨ho68, hm⟩ := chkE hm
    obtain ⟨q69, hq69, hm⟩ := letE hm
    have hd := hS.hand [1] [0, 1] rfl rfl
    refine m_stp [63, 1, 8] [(1, [], .string ⟨⟨sep⟩⟩), (8, [], .pointer (some ⟨b48, 0, none⟩))] H67 rfl rfl rfl rfl (o_sub (T := tS) (E := 9) (g := g_elems) (q := elems) (1 : Int) (ln elems) (.some (.int .i64 1)) .none H67 hd (hd.im 0 rfl) rfl rfl rfl rfl rfl rfl (.inr ⟨_, rfl⟩) (.inl ⟨rfl, rfl⟩) (by kernel_rfl) (by kernel_rfl) ho68) (fun _ => rfl) fun _ wd70 v H71 hq => ?_
    clear H67 hd
    obtain ⟨g72, rfl, hq⟩ := hq
    rw [← hq69] at hq
    rw [← hq69] at H71
    replace hS : SH M X w [Ent.im tS q69 g72, Ent.im tS elems g_elems, Ent.bld 58 5 b48 q61 g64, Ent.im tS elems g_elems] _ := hS.join [1] [0, 1] rfl rfl hq
    clear hq
    refine wl_batch 2 4 [] [1, 8, 63, 64, 65] [(1, [], .string ⟨⟨sep⟩⟩), (8, [], .pointer (some ⟨b48, 0, none⟩)), (63, [], .slice g72.a q69.length g72.c), (64, [], .int .i64 (ln q69)), (65, [], .int .i64 0)] [] H71 (by decide) (by kernel_rfl) trivial fun _ wd74 H75 hb => ?_
    clear H71
    replace hS := hS.below hb
    clear hb
    refine wl_end rfl ?_
    replace hS : SH M X w [Ent.im tS q69 g72, Ent.im tS elems g_elems, Ent.bld 58 5 b48 q61 g64] _ := hS.sel [0, 1, 2] rfl
    refine w_block ?_
    refine w_loop (fun kk a' w' => ∃ (v76 : Int) (v77 : Str) (g78 : Gh), strings_Join_L2 m sep q69 kk v76 v77 = some _ ∧ Fr 75 [(1, [], .string ⟨⟨sep⟩⟩), (8, [], .pointer (some ⟨b48, 0, none⟩)), (63, [], .slice g72.a q69.length g72.c), (64, [], .int .i64 (ln q69)), (65, [], .int .i64 v76)] a' ∧ SH M X w [Ent.im tS q69 g72, Ent.im tS elems g_elems, Ent.bld 58 5 b48 v77 g78] w') ⟨_, 0, q61, g64, hm, FrG.keep (ks := [1, 8, 63, 64, 65]) H75 (by kernel_rfl), hS⟩ ?_
    clear hm H75 hS
    rintro kk _ wd101 ⟨v76, v77, g78, hm, H, hS⟩
    cases kk with
    | zero => exact noneE hm
    | succ kk =>
     rw [strings_Join_L2] at hm
     refine s_reg [] [1, 8, 63, 64, 65, 66] [(1, [], .string ⟨⟨sep⟩⟩), (8, [], .pointer (some ⟨b48, 0, none⟩)), (63, [], .slice g72.a q69.length g72.c), (64, [], .int .i64 (ln q69)), (65, [], .int .i64 v76), (66, [], .bool (decide (v76 < (ln q69))))] [] H (by kernel_rfl) trivial fun _ wd79 H80 hb => ?_
     clear H
     replace hS := hS.below hb
     clear hb
     refine w_seq ?_
     refine w_if H80 rfl (fun hc => ?_) (fun hc => ?c100)
     case c100 =>
      replace hm := bF hc hm
      refine w_exit rfl ?_
      obtain rfl := someE hm
      replace hS : SH M X w [Ent.bld 58 5 b48 v77 g78, Ent.im tS elems g_elems] _ := hS.sel [2, 1] rfl
      exact ⟨g78, FrG.keep (ks := [8]) H80 (by kernel_rfl), hS⟩
     replace hm := bT hc hm
     refine w_skip ?_
     refine w_seq ?_
     refine w_block ?_
     obtain ⟨ho81, hm⟩ := chkE hm
     refine s_reg [(.string ⟨⟨(gi q69 v76)⟩⟩)] [1, 8, 10, 63, 64, 65] [(1, [], .string ⟨⟨sep⟩⟩), (8, [], .pointer (some ⟨b48, 0, none⟩)), (10, [], .string ⟨⟨(gi q69 v76)⟩⟩), (63, [], .slice g72.a q69.length g72.c), (64, [], .int .i64 (ln q69)), (65, [], .int .i64 v76)] [fun _ => oka g72.a ∧ 0 ≤ v76 ∧ v76 < ln q69, fun wz => V.at1 ⟨ab g72.a, ao g72.a + (v76).toNat * 1, none⟩ (.string ⟨⟨(gi q69 v76)⟩⟩) wz] H80 (by kernel_rfl) ⟨((hS.im 0 rfl).oki ho81), ((hS.im 0 rfl).at1 ho81 0 rfl), trivial⟩ fun _ wd82 H83 hb => ?_
     clear H80
     replace hS := hS.below hb
     clear hb
     refine w_seq ?_
     refine wl_start ?_
     refine wl_batch 0 1 [] [1, 8, 10, 63, 64, 65, 69] [(1, [], .string ⟨⟨sep⟩⟩), (8, [], .pointer (some ⟨b48, 0, none⟩)), (10, [], .string ⟨⟨(gi q69 v76)⟩⟩), (63, [], .slice g72.a q69.length g72.c), (64, [], .int .i64 (ln q69)), (65, [], .int .i64 v76), (69, [], .string ⟨⟨sep⟩⟩)] [] H83 (by decide) (by kernel_rfl) trivial fun _ wd84 H85 hb => ?_
     clear H83
     replace hS := hS.below hb
     clear hb
     obtain ⟨ho86, hm⟩ := chkE hm
     obtain ⟨q87, hq87, hm⟩ := letE hm
     have hd := hS.hand [2] [0, 1] rfl rfl
     refine m_stp [70, 1, 8, 10, 63, 64, 65] [(1, [], .string ⟨⟨sep⟩⟩), (8, [], .pointer (some ⟨b48, 0, none⟩)), (10, [], .string ⟨⟨(gi q69 v76)⟩⟩), (63, [], .slice g72.a q69.length g72.c), (64, [], .int .i64 (ln q69)), (65, [], .int .i64 v76)] H85 rfl rfl rfl rfl (o_callx H85 rfl rfl (bld_WS sep ho86 hd)) (fun _ => rfl) fun _ wd88 v H89 hq => ?_
     clear H85 hd
     obtain ⟨g90, rfl, hq⟩ := hq
     rw [← hq87] at hq
     replace hS : SH M X w [Ent.bld 58 5 b48 q87 g90, Ent.im tS q69 g72, Ent.im tS elems g_elems] _ := hS.join [2] [0, 1] rfl rfl hq
     clear hq
     refine wl_end rfl ?_
     refine wl_start ?_
     refine wl_batch 0 1 [] [1, 8, 63, 64, 65, 71] [(1, [], .string ⟨⟨sep⟩⟩), (8, [], .pointer (some ⟨b48, 0, none⟩)), (63, [], .slice g72.a q69.length g72.c), (64, [], .int .i64 (ln q69)), (65, [], .int .i64 v76), (71, [], .string ⟨⟨(gi q69 v76)⟩⟩)] [] H89 (by decide) (by kernel_rfl) trivial fun _ wd91 H92 hb => ?_
     clear H89
     replace hS := hS.below hb
     clear hb
     obtain ⟨ho93, hm⟩ := chkE hm
     obtain ⟨q94, hq94, hm⟩ := letE hm
     have hd := hS.hand [0] [1, 2] rfl rfl
     refine m_stp [72, 1, 8, 63, 64, 65] [(1, [], .string ⟨⟨sep⟩⟩), (8, [], .pointer (some ⟨b48, 0, none⟩)), (63, [], .slice g72.a q69.length g72.c), (64, [], .int .i64 (ln q69)), (65, [], .int .i64 v76)] H92 rfl rfl rfl rfl (o_callx H92 rfl rfl (bld_WS (gi q69 v76) ho93 hd)) (fun _ => rfl) fun _ wd95 v H96 hq => ?_
     clear H92 hd
     obtain ⟨g97, rfl, hq⟩ := hq
     rw [← hq94] at hq
     replace hS : SH M X w [Ent.bld 58 5 b48 q94 g97, Ent.im tS q69 g72, Ent.im tS elems g_elems] _ := hS.join [0] [1, 2] rfl rfl hq
     clear hq
     refine wl_end rfl ?_
     refine w_reg [] [1, 8, 63, 64, 65] [(1, [], .string ⟨⟨sep⟩⟩), (8, [], .pointer (some ⟨b48, 0, none⟩)), (63, [], .slice g72.a q69.length g72.c), (64, [], .int .i64 (ln q69)), (65, [], .int .i64 (w64 (v76 + 1)))] [] H96 (by kernel_rfl) trivial fun _ wd98 H99 hb => ?_
     clear H96
     replace hS := hS.below hb
     clear hb
     replace hS : SH M X w [Ent.im tS q69 g72, Ent.im tS elems g_elems, Ent.bld 58 5 b48 q94 g97] _ := hS.sel [1, 2, 0] rfl
     exact ⟨_, Nat.lt_succ_self _, w64 (v76 + 1), q94, g97, hm, FrG.keep (ks := [1, 8, 63, 64, 65]) H99 (by kernel_rfl), hS⟩
   ·rintro _ wd107 ⟨g102, H, hS⟩
    replace hS : SH M X w [Ent.bld 58 5 b48 z65 g102] _ := hS.sel [0] rfl
    refine w_seq ?_
    refine wl_start ?_
    have hd := hS.hand [0] [] rfl rfl
    refine m_stp [74] [] H rfl rfl rfl rfl (o_callx H rfl rfl (bld_St hd)) (fun _ => rfl) fun _ wd103 v H104 hq => ?_
    clear H hd
    obtain ⟨rfl, hq⟩ := hq
    replace hS : SH M X w [] _ := hS.join [0] [] rfl rfl hq
    clear hq
    refine wl_batch 1 2 [] [4] [(4, [], .string ⟨⟨z65⟩⟩)] [] H104 (by decide) (by kernel_rfl) trivial fun _ wd105 H106 hb => ?_
    clear H104
    replace hS := hS.below hb
    clear hb
    refine wl_end rfl ?_
    refine w_ret ?_
    obtain rfl := someE hm
    exact retR1 H106 rfl rfl ⟨_, rfl, rfl, (hS.sel [] rfl)⟩
theorem strings_Join_ok {g_elems : Gh} (m : Nat) (elems : List Str) (sep : Str) (r : Str) (hm : strings_Join m elems sep = some r) (w : World) (hL : S0 F0 [Ent.im tS elems g_elems] w ∧ fpl [Ent.im tS elems g_elems] = []) : RetB Tryd.prog 20 ⟨[.slice g_elems.a elems.length g_elems.c, .string ⟨⟨sep⟩⟩]⟩ (.string ⟨⟨r⟩⟩) w := retB_of hL (Tryd.call20 _) (fun w' h => strings_Join_w F0 m   elems sep r hm w' h)

theorem strconv_small_w  (M : Av) (i : Int) (r : Str) (hm : strconv_small i = some r) (w : World) (hS : S0 M [] w) : Calls Tryd.prog 37 ⟨[.int .i64 i]⟩ w (fun e w' => ∃ v, e = .returned v ∧ v = .string ⟨⟨r⟩⟩ ∧ SH M (fpl []) w [] w') := by
 rw [strconv_small] at hm
 have hS0 : SH M (fpl []) w [] w := hS
 generalize hX : fpl [] = X at hS0 ⊢
 clear hS hX
 have hS := hS0
 clear hS0
 refine calls_entryP Tryd.func37 rfl Tryd.ntmps37 rfl fun _ H => ?_
 refine s_reg [] [0] [(0, [], .int .i64 i)] [] H (by kernel_rfl) trivial fun _ wd1 H2 hb => ?_
 clear H
 replace hS := hS.below hb
 clear hb
 refine w_seq ?_
 refine s_reg [] [0, 4] [(0, [], .int .i64 i), (4, [], .bool (decide (i < 10)))] [] H2 (by kernel_rfl) trivial fun _ wd3 H4 hb => ?_
 clear H2
 replace hS := hS.below hb
 clear hb
 refine w_if H4 rfl (fun hc => ?c13) (fun hc => ?_)
 case c13 =>
  replace hm := bT hc hm
  obtain ⟨ho5, hm⟩ := chkE hm
  obtain ⟨x6, hx6, hm⟩ := letE hm
  refine s_reg [] [2] [(2, [], .string ⟨⟨x6⟩⟩)] [fun _ => 0 ≤ i ∧ i ≤ (w64 (i + 1)) ∧ (w64 (i + 1)) ≤ ln [48, 49, 50, 51, 52, 53, 54, 55, 56, 57, 97, 98, 99, 100, 101, 102, 103, 104, 105, 106, 107, 108, 109, 110, 111, 112, 113, 114, 115, 116, 117, 118, 119, 120, 121, 122]] H4 (by subst hx6; kernel_rfl) ⟨ho5, trivial⟩ fun _ wd7 H8 hb => ?_
  clear H4
  replace hS := hS.below hb
  clear hb
  refine w_ret ?_
  obtain rfl := someE hm
  exact retR1 H8 rfl rfl ⟨_, rfl, rfl, (hS.sel [] rfl)⟩
 replace hm := bF hc hm
 refine w_skip ?_
 obtain ⟨ho9, hm⟩ := chkE hm
 obtain ⟨x10, hx10, hm⟩ := letE hm
 refine s_reg [] [2] [(2, [], .string ⟨⟨x10⟩⟩)] [fun _ => 0 ≤ (w64 (i * 2)) ∧ (w64 (i * 2)) ≤ (w64 ((w64 (i * 2)) + 2)) ∧ (w64 ((w64 (i * 2)) + 2)) ≤ ln [48, 48, 48, 49, 48, 50, 48, 51, 48, 52, 48, 53, 48, 54, 48, 55, 48, 56, 48, 57, 49, 48, 49, 49, 49, 50, 49, 51, 49, 52, 49, 53, 49, 54, 49, 55, 49, 56, 49, 57, 50, 48, 50, 49, 50, 50, 50, 51, 50, 52, 50, 53, 50, 54, 50, 55, 50, 56, 50, 57, 51, 48, 51, 49, 51, 50, 51, 51, 51, 52, 51, 53, 51, 54, 51, 55, 51, 56, 51, 57, 52, 48, 52, 49, 52, 50, 52, 51, 52, 52, 52, 53, 52, 54, 52, 55, 52, 56, 52, 57, 53, 48, 53, 49, 53, 50, 53, 51, 53, 52, 53, 53, 53, 54, 53, 55, 53, 56, 53, 57, 54, 48, 54, 49, 54, 50, 54, 51, 54, 52, 54, 53, 54, 54, 54, 55, 54, 56, 54, 57, 55, 48, 55, 49, 55, 50, 55, 51, 55, 52, 55, 53, 55, 54, 55, 55, 55, 56, 55, 57, 56, 48, 56, 49, 56, 50, 56, 51, 56, 52, 56, 53, 56, 54, 56, 55, 56, 56, 56, 57, 57, 48, 57, 49, 57, 50, 57, 51, 57, 52, 57, 53, 57, 54, 57, 55, 57, 56, 57, 57]] H4 (by subst hx10; kernel_rfl) ⟨ho9, trivial⟩ fun _ wd11 H12 hb => ?_
 clear H4
 replace hS := hS.below hb
 clear hb
 refine w_ret ?_
 obtain rfl := someE hm
 exact retR1 H12 rfl rfl ⟨_, rfl, rfl, (hS.sel [] rfl)⟩
theorem strconv_small_ok  (i : Int) (r : Str) (hm : strconv_small i = some r) : Ret Tryd.prog 37 ⟨[.int .i64 i]⟩ (.string ⟨⟨r⟩⟩) := retP_of (Tryd.call37 _) (fun w h => strconv_small_w F0   i r hm w h)

theorem math_bits_Len64_w  (M : Av) (x_ : Int) (r : Int) (hm : math_bits_Len64 x_ = some r) (w : World) (hS : S0 M [] w) : Calls Tryd.prog 47 ⟨[.int .u64 x_]⟩ w (fun e w' => ∃ v, e = .returned v ∧ v = .int .i64 r ∧ SH M (fpl []) w [] w') := by
 rw [math_bits_Len64] at hm
 have hS0 : SH M (fpl []) w [] w := hS
 generalize hX : fpl [] = X at hS0 ⊢
 clear hS hX
 have hS := hS0
 clear hS0
 refine calls_entryP Tryd.func47 rfl Tryd.ntmps47 rfl fun _ H => ?_
 refine s_reg [] [0, 2] [(0, [], .int .u64 x_), (2, [], .int .i64 0)] [] H (by kernel_rfl) trivial fun _ wd1 H2 hb => ?_
 clear H
 replace hS := hS.below hb
 clear hb
 obtain ⟨z3, hz, hm⟩ := bindE hm
 refine w_cut (fun a' w' => Fr 25 [(0, [], .int .u64 z3.1), (2, [], .int .i64 z3.2)] a' ∧ SH M X w [] w') ?_ ?_
 ·replace hm := hz
  refine s_reg [] [0, 2, 4] [(0, [], .int .u64 x_), (2, [], .int .i64 0), (4, [], .bool (decide (4294967296 ≤ x_)))] [] H2 (by kernel_rfl) trivial fun _ wd4 H5 hb => ?_
  clear H2
  replace hS := hS.below hb
  clear hb
  refine w_if H5 rfl (fun hc => ?_) (fun hc => ?c10)
  case c10 =>
   replace hm := bF hc hm
   refine w_skip ?_
   obtain rfl := someE hm
   exact ⟨FrG.keep (ks := [0, 2]) H5 (by kernel_rfl), hS⟩
  replace hm := bT hc hm
  refine s_reg [] [0] [(0, [], .int .u64 (Int.fdiv x_ (2 ^ 32)))] [fun _ => (0 : Int) ≤ 32] H5 (by kernel_rfl) ⟨(by show (0 : Int) ≤ 32; decide), trivial⟩ fun _ wd6 H7 hb => ?_
  clear H5
  replace hS := hS.below hb
  clear hb
  refine w_reg [] [0, 2] [(0, [], .int .u64 (Int.fdiv x_ (2 ^ 32))), (2, [], .int .i64 32)] [] H7 (by kernel_rfl) trivial fun _ wd8 H9 hb => ?_
  clear H7
  replace hS := hS.below hb
  clear hb
  obtain rfl := someE hm
  exact ⟨FrG.keep (ks := [0, 2]) H9 (by kernel_rfl), hS⟩
 ·rintro _ wd33 ⟨H, hS⟩
  obtain ⟨z11, hz, hm⟩ := bindE hm
  refine w_cut (fun a' w' => Fr 25 [(0, [], .int .u64 z11.1), (2, [], .int .i64 z11.2)] a' ∧ SH M X w [] w') ?_ ?_
  ·replace hm := hz
   refine s_reg [] [0, 2, 8] [(0, [], .int .u64 z3.1), (2, [], .int .i64 z3.2), (8, [], .bool (decide (65536 ≤ z3.1)))] [] H (by kernel_rfl) trivial fun _ wd12 H13 hb => ?_
   clear H
   replace hS := hS.below hb
   clear hb
   refine w_if H13 rfl (fun hc => ?_) (fun hc => ?c18)
   case c18 =>
    replace hm := bF hc hm
    refine w_skip ?_
    obtain rfl := someE hm
    exact ⟨FrG.keep (ks := [0, 2]) H13 (by kernel_rfl), hS⟩
   replace hm := bT hc hm
   refine s_reg [] [0, 2] [(0, [], .int .u64 (Int.fdiv z3.1 (2 ^ 16))), (2, [], .int .i64 z3.2)] [fun _ => (0 : Int) ≤ 16] H13 (by kernel_rfl) ⟨(by show (0 : Int) ≤ 16; decide), trivial⟩ fun _ wd14 H15 hb => ?_
   clear H13
   replace hS := hS.below hb
   clear hb
   refine w_reg [] [0, 2] [(0, [], .int .u64 (Int.fdiv z3.1 (2 ^ 16))), (2, [], .int .i64 (w64 (z3.2 + 16)))] [] H15 (by kernel_rfl) trivial fun _ wd16 H17 hb => ?_
   clear H15
   replace hS := hS.below hb
   clear hb
   obtain rfl := someE hm
   exact ⟨FrG.keep (ks := [0, 2]) H17 (by kernel_rfl), hS⟩
  ·rintro _ wd32 ⟨H, hS⟩
   obtain ⟨z19, hz, hm⟩ := bindE hm
   refine w_cut (fun a' w' => Fr 25 [(0, [], .int .u64 z19.1), (2, [], .int .i64 z19.2)] a' ∧ SH M X w [] w') ?_ ?_
   ·replace hm := hz
    refine s_reg [] [0, 2, 14] [(0, [], .int .u64 z11.1), (2, [], .int .i64 z11.2), (14, [], .bool (decide (256 ≤ z11.1)))] [] H (by kernel_rfl) trivial fun _ wd20 H21 hb => ?_
    clear H
    replace hS := hS.below hb
    clear hb
    refine w_if H21 rfl (fun hc => ?_) (fun hc => ?c26)
    case c26 =>
     replace hm := bF hc hm
     refine w_skip ?_
     obtain rfl := someE hm
     exact ⟨FrG.keep (ks := [0, 2]) H21 (by kernel_rfl), hS⟩
    replace hm := bT hc hm
    refine s_reg [] [0, 2] [(0, [], .int .u64 (Int.fdiv z11.1 (2 ^ 8))), (2, [], .int .i64 z11.2)] [fun _ => (0 : Int) ≤ 8] H21 (by kernel_rfl) ⟨(by show (0 : Int) ≤ 8; decide), trivial⟩ fun _ wd22 H23 hb => ?_
    clear H21
    replace hS := hS.below hb
    clear hb
    refine w_reg [] [0, 2] [(0, [], .int .u64 (Int.fdiv z11.1 (2 ^ 8))), (2, [], .int .i64 (w64 (z11.2 + 8)))] [] H23 (by kernel_rfl) trivial fun _ wd24 H25 hb => ?_
    clear H23
    replace hS := hS.below hb
    clear hb
    obtain rfl := someE hm
    exact ⟨FrG.keep (ks := [0, 2]) H25 (by kernel_rfl), hS⟩
   ·rintro _ wd31 ⟨H, hS⟩
    obtain ⟨ho27, hm⟩ := chkE hm
    obtain ⟨x28, hx28, hm⟩ := letE hm
    refine s_reg [] [2] [(2, [], .int .i64 (w64 (z19.2 + (w64 x28))))] [fun _ => 0 ≤ (wu8 z19.1) ∧ (wu8 z19.1) < ln [0, 1, 2, 2, 3, 3, 3, 3, 4, 4, 4, 4, 4, 4, 4, 4, 5, 5, 5, 5, 5, 5, 5, 5, 5, 5, 5, 5, 5, 5, 5, 5, 6, 6, 6, 6, 6, 6, 6, 6, 6, 6, 6, 6, 6, 6, 6, 6, 6, 6, 6, 6, 6, 6, 6, 6, 6, 6, 6, 6, 6, 6, 6, 6, 7, 7, 7, 7, 7, 7, 7, 7, 7, 7, 7, 7, 7, 7, 7, 7, 7, 7, 7, 7, 7, 7, 7, 7, 7, 7, 7, 7, 7, 7, 7, 7, 7, 7, 7, 7, 7, 7, 7, 7, 7, 7, 7, 7, 7, 7, 7, 7, 7, 7, 7, 7, 7, 7, 7, 7, 7, 7, 7, 7, 7, 7, 7, 7, 8, 8, 8, 8, 8, 8, 8, 8, 8, 8, 8, 8, 8, 8, 8, 8, 8, 8, 8, 8, 8, 8, 8, 8, 8, 8, 8, 8, 8, 8, 8, 8, 8, 8, 8, 8, 8, 8, 8, 8, 8, 8, 8, 8, 8, 8, 8, 8, 8, 8, 8, 8, 8, 8, 8, 8, 8, 8, 8, 8, 8, 8, 8, 8, 8, 8, 8, 8, 8, 8, 8, 8, 8, 8, 8, 8, 8, 8, 8, 8, 8, 8, 8, 8, 8, 8, 8, 8, 8, 8, 8, 8, 8, 8, 8, 8, 8, 8, 8, 8, 8, 8, 8, 8, 8, 8, 8, 8, 8, 8, 8, 8, 8, 8, 8, 8, 8, 8, 8, 8, 8, 8, 8, 8, 8, 8, 8, 8]] H (by subst hx28; kernel_rfl) ⟨ho27, trivial⟩ fun _ wd29 H30 hb => ?_
    clear H
    replace hS := hS.below hb
    clear hb
    refine w_ret ?_
    obtain rfl := someE hm
    exact retR1 H30 rfl rfl ⟨_, rfl, rfl, (hS.sel [] rfl)⟩
theorem math_bits_Len64_ok  (x_ : Int) (r : Int) (hm : math_bits_Len64 x_ = some r) : Ret Tryd.prog 47 ⟨[.int .u64 x_]⟩ (.int .i64 r) := retP_of (Tryd.call47 _) (fun w h => math_bits_Len64_w F0   x_ r hm w h)

theorem strconv_log10Pow2_w  (M : Av) (x_ : Int) (r : Int) (hm : strconv_log10Pow2 x_ = r) (w : World) (hS : S0 M [] w) : Calls Tryd.prog 46 ⟨[.int .i64 x_]⟩ w (fun e w' => ∃ v, e = .returned v ∧ v = .int .i64 r ∧ SH M (fpl []) w [] w') := by
 rw [strconv_log10Pow2] at hm
 have hS0 : SH M (fpl []) w [] w := hS
 generalize hX : fpl [] = X at hS0 ⊢
 clear hS hX
 have hS := hS0
 clear hS0
 refine calls_entryP Tryd.func46 rfl Tryd.ntmps46 rfl fun _ H => ?_
 refine s_reg [] [0] [(0, [], .int .i64 x_)] [] H (by kernel_rfl) trivial fun _ wd1 H2 hb => ?_
 clear H
 replace hS := hS.below hb
 clear hb
 refine s_reg [] [2] [(2, [], .int .i64 (Int.fdiv (w64 (x_ * 78913)) (2 ^ 18)))] [fun _ => (0 : Int) ≤ 18] H2 (by kernel_rfl) ⟨(by show (0 : Int) ≤ 18; decide), trivial⟩ fun _ wd3 H4 hb => ?_
 clear H2
 replace hS := hS.below hb
 clear hb
 refine w_ret ?_
 subst hm
 exact retR1 H4 rfl rfl ⟨_, rfl, rfl, (hS.sel [] rfl)⟩
theorem strconv_log10Pow2_ok  (x_ : Int) : Ret Tryd.prog 46 ⟨[.int .i64 x_]⟩ (.int .i64 (strconv_log10Pow2 x_)) := retP_of (Tryd.call46 _) (fun w h => strconv_log10Pow2_w F0   x_ _ rfl w h)

theorem strconv_isPowerOfTwo_w  (M : Av) (x_ : Int) (r : Bool) (hm : strconv_isPowerOfTwo x_ = r) (w : World) (hS : S0 M [] w) : Calls Tryd.prog 49 ⟨[.int .i64 x_]⟩ w (fun e w' => ∃ v, e = .returned v ∧ v = .bool r ∧ SH M (fpl []) w [] w') := by
 rw [strconv_isPowerOfTwo] at hm
 have hS0 : SH M (fpl []) w [] w := hS
 generalize hX : fpl [] = X at hS0 ⊢
 clear hS hX
 have hS := hS0
 clear hS0
 refine calls_entryP Tryd.func49 rfl Tryd.ntmps49 rfl fun _ H => ?_
 refine s_reg [] [0] [(0, [], .int .i64 x_)] [] H (by kernel_rfl) trivial fun _ wd1 H2 hb => ?_
 clear H
 replace hS := hS.below hb
 clear hb
 refine s_reg [] [2] [(2, [], .bool ((ibit .and .i64 x_ (w64 (x_ - 1))) == 0))] [] H2 (by kernel_rfl) trivial fun _ wd3 H4 hb => ?_
 clear H2
 replace hS := hS.below hb
 clear hb
 refine w_ret ?_
 subst hm
 exact retR1 H4 rfl rfl ⟨_, rfl, rfl, (hS.sel [] rfl)⟩
theorem strconv_isPowerOfTwo_ok  (x_ : Int) : Ret Tryd.prog 49 ⟨[.int .i64 x_]⟩ (.bool (strconv_isPowerOfTwo x_)) := retP_of (Tryd.call49 _) (fun w h => strconv_isPowerOfTwo_w F0   x_ _ rfl w h)

abbrev gE3 : Ent := Ent.im (tI .u8) gl_math_bits_deBruijn64tab (Gh.mk (some ⟨3, 0, none⟩) 64 fun _ _ => .nil)
theorem math_bits_TrailingZeros64_w  (M : Av) (x_ : Int) (r : Int) (hm : math_bits_TrailingZeros64 x_ = some r) (w : World) (hS : S0 M [gE3] w) : Calls Tryd.prog 55 ⟨[.int .u64 x_]⟩ w (fun e w' => ∃ v, e = .returned v ∧ v = .int .i64 r ∧ SH M (fpl [gE3]) w [] w') := by
 rw [math_bits_TrailingZeros64] at hm
 have hS0 : SH M (fpl [gE3]) w [gE3] w := hS
 generalize hX : fpl [gE3] = X at hS0 ⊢
 clear hS hX
 have hS := hS0
 clear hS0
 refine calls_entryP Tryd.func55 rfl Tryd.ntmps55 rfl fun _ H => ?_
 refine s_reg [] [0] [(0, [], .int .u64 x_)] [] H (by kernel_rfl) trivial fun _ wd1 H2 hb => ?_
 clear H
 replace hS := hS.below hb
 clear hb
 refine w_seq ?_
 refine s_reg [] [0, 4] [(0, [], .int .u64 x_), (4, [], .bool (x_ == 0))] [] H2 (by kernel_rfl) trivial fun _ wd3 H4 hb => ?_
 clear H2
 replace hS := hS.below hb
 clear hb
 refine w_if H4 rfl (fun hc => ?c12) (fun hc => ?_)
 case c12 =>
  replace hm := bT hc hm
  refine s_reg [] [2] [(2, [], .int .i64 64)] [] H4 (by kernel_rfl) trivial fun _ wd5 H6 hb => ?_
  clear H4
  replace hS := hS.below hb
  clear hb
  refine w_ret ?_
  obtain rfl := someE hm
  exact retR1 H6 rfl rfl ⟨_, rfl, rfl, (hS.sel [] rfl)⟩
 replace hm := bF hc hm
 refine w_skip ?_
 obtain ⟨x7, hx7, hm⟩ := letE hm
 obtain ⟨ho8, hm⟩ := chkE hm
 obtain ⟨x9, hx9, hm⟩ := letE hm
 refine s_reg [(.int .u8 (gi gl_math_bits_deBruijn64tab (Int.fdiv x7 (2 ^ 58))))] [2] [(2, [], .int .i64 (w64 x9))] [fun _ => (0 : Int) ≤ 58, fun _ => 0 ≤ (Int.fdiv x7 (2 ^ 58)) ∧ (Int.fdiv x7 (2 ^ 58)) < (64 : Int), fun wz => V.at1 ⟨3, 0 + ((Int.fdiv x7 (2 ^ 58))).toNat * 1, none⟩ (.int .u8 (gi gl_math_bits_deBruijn64tab (Int.fdiv x7 (2 ^ 58)))) wz] H4 (by subst hx7 hx9; kernel_rfl) ⟨(by show (0 : Int) ≤ 58; decide), ho8, ((hS.im 0 rfl).at1 ho8 0 rfl), trivial⟩ fun _ wd10 H11 hb => ?_
 clear H4
 replace hS := hS.below hb
 clear hb
 refine w_ret ?_
 obtain rfl := someE hm
 exact retR1 H11 rfl rfl ⟨_, rfl, rfl, (hS.sel [] rfl)⟩
theorem math_bits_TrailingZeros64_ok  (x_ : Int) (r : Int) (hm : math_bits_TrailingZeros64 x_ = some r) (w : World) (hL : S0 F0 [gE3] w ∧ fpl [gE3] = []) : RetB Tryd.prog 55 ⟨[.int .u64 x_]⟩ (.int .i64 r) w := retB_of hL (Tryd.call55 _) (fun w' h => math_bits_TrailingZeros64_w F0   x_ r hm w' h)

theorem math_bits_TrailingZeros_w  (M : Av) (x_ : Int) (r : Int) (hm : math_bits_TrailingZeros x_ = some r) (w : World) (hS : S0 M [gE3] w) : Calls Tryd.prog 50 ⟨[.int .u64 x_]⟩ w (fun e w' => ∃ v, e = .returned v ∧ v = .int .i64 r ∧ SH M (fpl [gE3]) w [] w') := by
 rw [math_bits_TrailingZeros] at hm
 have hS0 : SH M (fpl [gE3]) w [gE3] w := hS
 generalize hX : fpl [gE3] = X at hS0 ⊢
 clear hS hX
 have hS := hS0
 clear hS0
 refine calls_entryP Tryd.func50 rfl Tryd.ntmps50 rfl fun _ H => ?_
 refine s_reg [] [0] [(0, [], .int .u64 x_)] [] H (by kernel_rfl) trivial fun _ wd1 H2 hb => ?_
 clear H
 replace hS := hS.below hb
 clear hb
 refine w_seq ?_
 refine w_if H2 rfl (fun hc => by cases hc) (fun _ => ?_)
 refine w_skip ?_
 obtain ⟨y3, hy3, hm⟩ := bindE hm
 refine s_reg [(.int .i64 y3)] [2] [(2, [], .int .i64 y3)] [fun wz => RetB Tryd.prog 55 ⟨[.int .u64 x_]⟩ (.int .i64 y3) wz] H2 (by kernel_rfl) ⟨(math_bits_TrailingZeros64_ok _ _ hy3 _ (s0im s0nil (hS.im 0 rfl))), trivial⟩ fun _ wd4 H5 hb => ?_
 clear H2
 replace hS := hS.below hb
 clear hb
 refine w_ret ?_
 obtain rfl := someE hm
 exact retR1 H5 rfl rfl ⟨_, rfl, rfl, (hS.sel [] rfl)⟩
theorem math_bits_TrailingZeros_ok  (x_ : Int) (r : Int) (hm : math_bits_TrailingZeros x_ = some r) (w : World) (hL : S0 F0 [gE3] w ∧ fpl [gE3] = []) : RetB Tryd.prog 50 ⟨[.int .u64 x_]⟩ (.int .i64 r) w := retB_of hL (Tryd.call50 _) (fun w' h => math_bits_TrailingZeros_w F0   x_ r hm w' h)

theorem strconv_formatBits_w {g_dst : Gh} (M : Av) (m : Nat) (dst : List Int) (u_ : Int) (base : Int) (neg : Bool) (append_ : Bool) (r : (List Int) × Str) (hm : strconv_formatBits m dst u_ base neg append_ = some r) (w : World) (hS : S0 M [Ent.im (tI .u8) dst g_dst, gE3] w) : Calls Tryd.prog 40 ⟨[.slice g_dst.a dst.length g_dst.c, .int .u64 u_, .int .i64 base, .bool neg, .bool append_]⟩ w (fun e w' => ∃ v, e = .returned v ∧ ∃ (g901 : Gh), v = .tuple ⟨[.slice g901.a r.1.length g901.c, .string ⟨⟨r.2⟩⟩]⟩ ∧ SH M (fpl [Ent.im (tI .u8) dst g_dst, gE3]) w [Ent.own 5 (tI .u8) r.1 g901] w') := by
 rw [strconv_formatBits] at hm
 have hS0 : SH M (fpl [Ent.im (tI .u8) dst g_dst, gE3]) w [Ent.im (tI .u8) dst g_dst, gE3] w := hS
 generalize hX : fpl [Ent.im (tI .u8) dst g_dst, gE3] = X at hS0 ⊢
 clear hS hX
 have hS := hS0
 clear hS0
 refine calls_entryP Tryd.func40 rfl Tryd.ntmps40 rfl fun _ H => ?_
 refine s_reg [] [0, 1, 2, 3, 4, 10, 11] [(0, [], .slice g_dst.a dst.length g_dst.c), (1, [], .int .u64 u_), (2, [], .int .i64 base), (3, [], .bool neg), (4, [], .bool append_), (10, [], .slice none 0 0), (11, [], .string ⟨⟨[]⟩⟩)] [] H (by kernel_rfl) trivial fun _ wd1 H2 hb => ?_
 clear H
 replace hS := hS.below hb
 clear hb
 refine w_seq ?_
 obtain ⟨x3, hx3, hm⟩ := letE hm
 refine s_reg [] [0, 1, 2, 3, 4, 10, 11, 28] [(0, [], .slice g_dst.a dst.length g_dst.c), (1, [], .int .u64 u_), (2, [], .int .i64 base), (3, [], .bool neg), (4, [], .bool append_), (10, [], .slice none 0 0), (11, [], .string ⟨⟨[]⟩⟩), (28, [], .bool (cond x3 true (decide (36 < base))))] [] H2 (by subst hx3; kernel_rfl) trivial fun _ wd4 H5 hb => ?_
 clear H2
 replace hS := hS.below hb
 clear hb
 refine w_if H5 rfl (fun hc => ?c124) (fun hc => ?_)
 case c124 =>
  replace hm := bT hc hm
  exact noneE hm
 replace hm := bF hc hm
 refine w_skip ?_
 refine w_seq ?_
 refine wl_start ?_
 have hd := hS.hand [] [0, 1] rfl rfl
 refine m_stp [12, 0, 1, 2, 3, 4, 10, 11] [(0, [], .slice g_dst.a dst.length g_dst.c), (1, [], .int .u64 u_), (2, [], .int .i64 base), (3, [], .bool neg), (4, [], .bool append_), (10, [], .slice none 0 0), (11, [], .string ⟨⟨[]⟩⟩)] H5 rfl rfl rfl rfl (o_allocR .u8 (List.replicate 65 (0 : Int)) (z := .agg ⟨(List.replicate 65 (0 : Int)).map (Value.int .u8)⟩) hd (by kernel_rfl) rfl) (fun _ => rfl) fun _ wd7 v H8 hq => ?_
 clear H5 hd
 obtain ⟨b6, rfl, hq⟩ := hq
 replace hq : SH _ _ _ [Ent.row .u8 b6 (List.replicate 65 (0 : Int)) (65 : Int)] _ := hq
 replace hS : SH M X w [Ent.row .u8 b6 (List.replicate 65 (0 : Int)) (65 : Int), Ent.im (tI .u8) dst g_dst, gE3] _ := hS.join [] [0, 1] rfl rfl hq
 clear hq
 refine wl_end rfl ?_
 refine s_reg [] [0, 1, 2, 3, 4, 10, 11, 12, 13] [(0, [], .slice g_dst.a dst.length g_dst.c), (1, [], .int .u64 u_), (2, [], .int .i64 base), (3, [], .bool neg), (4, [], .bool append_), (10, [], .slice none 0 0), (11, [], .string ⟨⟨[]⟩⟩), (12, [], .pointer (some ⟨b6, 0, none⟩)), (13, [], .int .i64 65)] [] H8 (by kernel_rfl) trivial fun _ wd9 H10 hb => ?_
 clear H8
 replace hS := hS.below hb
 clear hb
 obtain ⟨z11, hz, hm⟩ := bindE hm
 refine w_cut (fun a' w' => Fr 102 [(0, [], .slice g_dst.a dst.length g_dst.c), (2, [], .int .i64 base), (3, [], .bool neg), (4, [], .bool append_), (10, [], .slice none 0 0), (11, [], .string ⟨⟨[]⟩⟩), (12, [], .pointer (some ⟨b6, 0, none⟩)), (13, [], .int .i64 65), (1, [], .int .u64 z11)] a' ∧ SH M X w [Ent.row .u8 b6 (List.replicate 65 (0 : Int)) (65 : Int), Ent.im (tI .u8) dst g_dst, gE3] w') ?_ ?_
 ·replace hm := hz
  refine s_reg [] [0, 1, 2, 3, 4, 10, 11, 12, 13, 30] [(0, [], .slice g_dst.a dst.length g_dst.c), (1, [], .int .u64 u_), (2, [], .int .i64 base), (3, [], .bool neg), (4, [], .bool append_), (10, [], .slice none 0 0), (11, [], .string ⟨⟨[]⟩⟩), (12, [], .pointer (some ⟨b6, 0, none⟩)), (13, [], .int .i64 65), (30, [], .bool neg)] [] H10 (by kernel_rfl) trivial fun _ wd12 H13 hb => ?_
  clear H10
  replace hS := hS.below hb
  clear hb
  refine w_if H13 rfl (fun hc => ?_) (fun hc => ?c16)
  case c16 =>
   replace hm := bF hc hm
   refine w_skip ?_
   obtain rfl := someE hm
   exact ⟨FrG.keep (ks := [0, 2, 3, 4, 10, 11, 12, 13, 1]) H13 (by kernel_rfl), hS⟩
  replace hm := bT hc hm
  refine w_reg [] [0, 1, 2, 3, 4, 10, 11, 12, 13] [(0, [], .slice g_dst.a dst.length g_dst.c), (1, [], .int .u64 (wu64 (0 - u_))), (2, [], .int .i64 base), (3, [], .bool neg), (4, [], .bool append_), (10, [], .slice none 0 0), (11, [], .string ⟨⟨[]⟩⟩), (12, [], .pointer (some ⟨b6, 0, none⟩)), (13, [], .int .i64 65)] [] H13 (by kernel_rfl) trivial fun _ wd14 H15 hb => ?_
  clear H13
  replace hS := hS.below hb
  clear hb
  obtain rfl := someE hm
  exact ⟨FrG.keep (ks := [0, 2, 3, 4, 10, 11, 12, 13, 1]) H15 (by kernel_rfl), hS⟩
 ·rintro _ wd123 ⟨H, hS⟩
  obtain ⟨z17, hz, hm⟩ := bindE hm
  refine w_cut (fun a' w' => Fr 102 [(0, [], .slice g_dst.a dst.length g_dst.c), (3, [], .bool neg), (4, [], .bool append_), (10, [], .slice none 0 0), (11, [], .string ⟨⟨[]⟩⟩), (12, [], .pointer (some ⟨b6, 0, none⟩)), (13, [], .int .i64 z17.1)] a' ∧ SH M X w [Ent.row .u8 b6 z17.2 (65 : Int), Ent.im (tI .u8) dst g_dst, gE3] w') ?_ ?_
  ·replace hm := hz
   refine s_reg [(.bool (strconv_isPowerOfTwo base))] [0, 1, 2, 3, 4, 10, 11, 12, 13, 34] [(0, [], .slice g_dst.a dst.length g_dst.c), (1, [], .int .u64 z11), (2, [], .int .i64 base), (3, [], .bool neg), (4, [], .bool append_), (10, [], .slice none 0 0), (11, [], .string ⟨⟨[]⟩⟩), (12, [], .pointer (some ⟨b6, 0, none⟩)), (13, [], .int .i64 65), (34, [], .bool (strconv_isPowerOfTwo base))] [fun wz => RetB Tryd.prog 49 ⟨[.int .i64 base]⟩ (.bool (strconv_isPowerOfTwo base)) wz] H (by kernel_rfl) ⟨((strconv_isPowerOfTwo_ok _).b), trivial⟩ fun _ wd18 H19 hb => ?_
   clear H
   replace hS := hS.below hb
   clear hb
   refine w_if H19 rfl (fun hc => ?_) (fun hc => ?c98)
   case c98 =>
    replace hm := bF hc hm
    refine s_reg [] [0, 1, 3, 4, 10, 11, 12, 13, 17] [(0, [], .slice g_dst.a dst.length g_dst.c), (1, [], .int .u64 z11), (3, [], .bool neg), (4, [], .bool append_), (10, [], .slice none 0 0), (11, [], .string ⟨⟨[]⟩⟩), (12, [], .pointer (some ⟨b6, 0, none⟩)), (13, [], .int .i64 65), (17, [], .int .u64 (wu64 base))] [] H19 (by kernel_rfl) trivial fun _ wd61 H62 hb => ?_
    clear H19
    replace hS := hS.below hb
    clear hb
    obtain ⟨z63, hz, hm⟩ := bindE hm
    refine w_cut (fun a' w' => Fr 102 [(0, [], .slice g_dst.a dst.length g_dst.c), (3, [], .bool neg), (4, [], .bool append_), (10, [], .slice none 0 0), (11, [], .string ⟨⟨[]⟩⟩), (12, [], .pointer (some ⟨b6, 0, none⟩)), (1, [], .int .u64 z63.1), (13, [], .int .i64 z63.2.1)] a' ∧ SH M X w [Ent.row .u8 b6 z63.2.2 (65 : Int), Ent.im (tI .u8) dst g_dst, gE3] w') ?_ ?_
    ·replace hm := hz
     refine w_block ?_
     refine w_loop (fun kk a' w' => ∃ (v64 : Int) (v65 : Int) (v66 : List Int), strconv_formatBits_L2 m base kk v64 v65 v66 = some _ ∧ Fr 102 [(0, [], .slice g_dst.a dst.length g_dst.c), (3, [], .bool neg), (4, [], .bool append_), (10, [], .slice none 0 0), (11, [], .string ⟨⟨[]⟩⟩), (12, [], .pointer (some ⟨b6, 0, none⟩)), (17, [], .int .u64 (wu64 base)), (1, [], .int .u64 v64), (13, [], .int .i64 v65)] a' ∧ SH M X w [Ent.row .u8 b6 v66 (65 : Int), Ent.im (tI .u8) dst g_dst, gE3] w') ⟨_, z11, 65, List.replicate 65 (0 : Int), hm, FrG.keep (ks := [0, 3, 4, 10, 11, 12, 17, 1, 13]) H62 (by kernel_rfl), hS⟩ ?_
     clear hm H62 hS
     rintro kk _ wd86 ⟨v64, v65, v66, hm, H, hS⟩
     cases kk with
     | zero => exact noneE hm
     | succ kk =>
      rw [strconv_formatBits_L2] at hm
      refine w_seq ?_
      refine s_reg [] [0, 1, 3, 4, 10, 11, 12, 13, 17, 68] [(0, [], .slice g_dst.a dst.length g_dst.c), (1, [], .int .u64 v64), (3, [], .bool neg), (4, [], .bool append_), (10, [], .slice none 0 0), (11, [], .string ⟨⟨[]⟩⟩), (12, [], .pointer (some ⟨b6, 0, none⟩)), (13, [], .int .i64 v65), (17, [], .int .u64 (wu64 base)), (68, [], .bool (decide ((wu64 base) ≤ v64)))] [] H (by kernel_rfl) trivial fun _ wd67 H68 hb => ?_
      clear H
      replace hS := hS.below hb
      clear hb
      refine w_if H68 rfl (fun hc => ?_) (fun hc => ?c85)
      case c85 =>
       replace hm := bF hc hm
       refine w_exit rfl ?_
       obtain rfl := someE hm
       exact ⟨FrG.keep (ks := [0, 3, 4, 10, 11, 12, 1, 13]) H68 (by kernel_rfl), hS⟩
      replace hm := bT hc hm
      refine w_skip ?_
      refine w_block ?_
      refine s_reg [] [0, 1, 3, 4, 10, 11, 12, 13, 17] [(0, [], .slice g_dst.a dst.length g_dst.c), (1, [], .int .u64 v64), (3, [], .bool neg), (4, [], .bool append_), (10, [], .slice none 0 0), (11, [], .string ⟨⟨[]⟩⟩), (12, [], .pointer (some ⟨b6, 0, none⟩)), (13, [], .int .i64 (w64 (v65 - 1))), (17, [], .int .u64 (wu64 base))] [] H68 (by kernel_rfl) trivial fun _ wd69 H70 hb => ?_
      clear H68
      replace hS := hS.below hb
      clear hb
      obtain ⟨ho71, hm⟩ := chkE hm
      refine s_reg [] [0, 1, 3, 4, 10, 11, 12, 13, 17, 18] [(0, [], .slice g_dst.a dst.length g_dst.c), (1, [], .int .u64 v64), (3, [], .bool neg), (4, [], .bool append_), (10, [], .slice none 0 0), (11, [], .string ⟨⟨[]⟩⟩), (12, [], .pointer (some ⟨b6, 0, none⟩)), (13, [], .int .i64 (w64 (v65 - 1))), (17, [], .int .u64 (wu64 base)), (18, [], .int .u64 (wu64 (Int.tdiv v64 (wu64 base))))] [fun _ => (wu64 base) ≠ 0] H70 (by kernel_rfl) ⟨ho71, trivial⟩ fun _ wd72 H73 hb => ?_
      clear H70
      replace hS := hS.below hb
      clear hb
      refine w_seq ?_
      refine wl_start ?_
      obtain ⟨x74, hx74, hm⟩ := letE hm
      obtain ⟨ho75, hm⟩ := chkE hm
      obtain ⟨x76, hx76, hm⟩ := letE hm
      obtain ⟨ho77, hm⟩ := chkE hm
      refine wl_batch 0 8 [] [0, 3, 4, 10, 11, 12, 13, 17, 18, 80, 81] [(0, [], .slice g_dst.a dst.length g_dst.c), (3, [], .bool neg), (4, [], .bool append_), (10, [], .slice none 0 0), (11, [], .string ⟨⟨[]⟩⟩), (12, [], .pointer (some ⟨b6, 0, none⟩)), (13, [], .int .i64 (w64 (v65 - 1))), (17, [], .int .u64 (wu64 base)), (18, [], .int .u64 (wu64 (Int.tdiv v64 (wu64 base)))), (80, [], .int .u8 x76), (81, [], .pointer (some ⟨b6, 0 + ((w64 (v65 - 1))).toNat * 1, none⟩))] [fun _ => 0 ≤ (wu64 (v64 - x74)) ∧ (wu64 (v64 - x74)) < ln [48, 49, 50, 51, 52, 53, 54, 55, 56, 57, 97, 98, 99, 100, 101, 102, 103, 104, 105, 106, 107, 108, 109, 110, 111, 112, 113, 114, 115, 116, 117, 118, 119, 120, 121, 122], fun _ => 0 ≤ (w64 (v65 - 1)) ∧ (w64 (v65 - 1)) < (65 : Int)] H73 (by decide) (by subst hx74 hx76; kernel_rfl) ⟨ho75, ho77, trivial⟩ fun _ wd78 H79 hb => ?_
      clear H73
      replace hS := hS.below hb
      clear hb
      have hd := hS.hand [0] [1, 2] rfl rfl
      refine m_stp0 [0, 3, 4, 10, 11, 12, 13, 17, 18] [(0, [], .slice g_dst.a dst.length g_dst.c), (3, [], .bool neg), (4, [], .bool append_), (10, [], .slice none 0 0), (11, [], .string ⟨⟨[]⟩⟩), (12, [], .pointer (some ⟨b6, 0, none⟩)), (13, [], .int .i64 (w64 (v65 - 1))), (17, [], .int .u64 (wu64 base)), (18, [], .int .u64 (wu64 (Int.tdiv v64 (wu64 base))))] H79 rfl rfl rfl (o_rstore H79 hd rfl rfl (by kernel_rfl) ho77) rfl fun _ wd80 H81 hq => ?_
      clear H79 hd
      obtain ⟨_, hq⟩ := hq
      obtain ⟨q82, hq82, hm⟩ := letE hm
      rw [← hq82] at hq
      replace hS : SH M X w [Ent.row .u8 b6 q82 (65 : Int), Ent.im (tI .u8) dst g_dst, gE3] _ := hS.join [0] [1, 2] rfl rfl hq
      clear hq
      refine wl_end rfl ?_
      refine w_reg [] [0, 1, 3, 4, 10, 11, 12, 13, 17] [(0, [], .slice g_dst.a dst.length g_dst.c), (1, [], .int .u64 (wu64 (Int.tdiv v64 (wu64 base)))), (3, [], .bool neg), (4, [], .bool append_), (10, [], .slice none 0 0), (11, [], .string ⟨⟨[]⟩⟩), (12, [], .pointer (some ⟨b6, 0, none⟩)), (13, [], .int .i64 (w64 (v65 - 1))), (17, [], .int .u64 (wu64 base))] [] H81 (by kernel_rfl) trivial fun _ wd83 H84 hb => ?_
      clear H81
      replace hS := hS.below hb
      clear hb
      exact ⟨_, Nat.lt_succ_self _, wu64 (Int.tdiv v64 (wu64 base)), w64 (v65 - 1), q82, hm, FrG.keep (ks := [0, 3, 4, 10, 11, 12, 17, 1, 13]) H84 (by kernel_rfl), hS⟩
    ·rintro _ wd97 ⟨H, hS⟩
     refine s_reg [] [0, 1, 3, 4, 10, 11, 12, 13] [(0, [], .slice g_dst.a dst.length g_dst.c), (1, [], .int .u64 z63.1), (3, [], .bool neg), (4, [], .bool append_), (10, [], .slice none 0 0), (11, [], .string ⟨⟨[]⟩⟩), (12, [], .pointer (some ⟨b6, 0, none⟩)), (13, [], .int .i64 (w64 (z63.2.1 - 1)))] [] H (by kernel_rfl) trivial fun _ wd87 H88 hb => ?_
     clear H
     replace hS := hS.below hb
     clear hb
     refine wl_start ?_
     obtain ⟨ho89, hm⟩ := chkE hm
     obtain ⟨x90, hx90, hm⟩ := letE hm
     obtain ⟨ho91, hm⟩ := chkE hm
     refine wl_batch 0 4 [] [0, 3, 4, 10, 11, 12, 13, 87, 88] [(0, [], .slice g_dst.a dst.length g_dst.c), (3, [], .bool neg), (4, [], .bool append_), (10, [], .slice none 0 0), (11, [], .string ⟨⟨[]⟩⟩), (12, [], .pointer (some ⟨b6, 0, none⟩)), (13, [], .int .i64 (w64 (z63.2.1 - 1))), (87, [], .int .u8 x90), (88, [], .pointer (some ⟨b6, 0 + ((w64 (z63.2.1 - 1))).toNat * 1, none⟩))] [fun _ => 0 ≤ z63.1 ∧ z63.1 < ln [48, 49, 50, 51, 52, 53, 54, 55, 56, 57, 97, 98, 99, 100, 101, 102, 103, 104, 105, 106, 107, 108, 109, 110, 111, 112, 113, 114, 115, 116, 117, 118, 119, 120, 121, 122], fun _ => 0 ≤ (w64 (z63.2.1 - 1)) ∧ (w64 (z63.2.1 - 1)) < (65 : Int)] H88 (by decide) (by subst hx90; kernel_rfl) ⟨ho89, ho91, trivial⟩ fun _ wd92 H93 hb => ?_
     clear H88
     replace hS := hS.below hb
     clear hb
     have hd := hS.hand [0] [1, 2] rfl rfl
     refine m_stp0 [0, 3, 4, 10, 11, 12, 13] [(0, [], .slice g_dst.a dst.length g_dst.c), (3, [], .bool neg), (4, [], .bool append_), (10, [], .slice none 0 0), (11, [], .string ⟨⟨[]⟩⟩), (12, [], .pointer (some ⟨b6, 0, none⟩)), (13, [], .int .i64 (w64 (z63.2.1 - 1)))] H93 rfl rfl rfl (o_rstore H93 hd rfl rfl (by kernel_rfl) ho91) rfl fun _ wd94 H95 hq => ?_
     clear H93 hd
     obtain ⟨_, hq⟩ := hq
     obtain ⟨q96, hq96, hm⟩ := letE hm
     rw [← hq96] at hq
     replace hS : SH M X w [Ent.row .u8 b6 q96 (65 : Int), Ent.im (tI .u8) dst g_dst, gE3] _ := hS.join [0] [1, 2] rfl rfl hq
     clear hq
     refine wl_end rfl ?_
     obtain rfl := someE hm
     exact ⟨FrG.keep (ks := [0, 3, 4, 10, 11, 12, 13]) H95 (by kernel_rfl), hS⟩
   replace hm := bT hc hm
   obtain ⟨y20, hy20, hm⟩ := bindE hm
   refine s_reg [(.int .i64 y20)] [0, 1, 2, 3, 4, 10, 11, 12, 13, 14] [(0, [], .slice g_dst.a dst.length g_dst.c), (1, [], .int .u64 z11), (2, [], .int .i64 base), (3, [], .bool neg), (4, [], .bool append_), (10, [], .slice none 0 0), (11, [], .string ⟨⟨[]⟩⟩), (12, [], .pointer (some ⟨b6, 0, none⟩)), (13, [], .int .i64 65), (14, [], .int .u64 (wu64 y20))] [fun wz => RetB Tryd.prog 50 ⟨[.int .u64 (wu64 base)]⟩ (.int .i64 y20) wz] H19 (by kernel_rfl) ⟨(math_bits_TrailingZeros_ok _ _ hy20 _ (s0im s0nil (hS.im 2 rfl))), trivial⟩ fun _ wd21 H22 hb => ?_
   clear H19
   replace hS := hS.below hb
   clear hb
   refine s_reg [] [0, 1, 2, 3, 4, 10, 11, 12, 13, 14, 15] [(0, [], .slice g_dst.a dst.length g_dst.c), (1, [], .int .u64 z11), (2, [], .int .i64 base), (3, [], .bool neg), (4, [], .bool append_), (10, [], .slice none 0 0), (11, [], .string ⟨⟨[]⟩⟩), (12, [], .pointer (some ⟨b6, 0, none⟩)), (13, [], .int .i64 65), (14, [], .int .u64 (wu64 y20)), (15, [], .int .u64 (wu64 base))] [] H22 (by kernel_rfl) trivial fun _ wd23 H24 hb => ?_
   clear H22
   replace hS := hS.below hb
   clear hb
   refine s_reg [] [0, 1, 3, 4, 10, 11, 12, 13, 14, 15, 16] [(0, [], .slice g_dst.a dst.length g_dst.c), (1, [], .int .u64 z11), (3, [], .bool neg), (4, [], .bool append_), (10, [], .slice none 0 0), (11, [], .string ⟨⟨[]⟩⟩), (12, [], .pointer (some ⟨b6, 0, none⟩)), (13, [], .int .i64 65), (14, [], .int .u64 (wu64 y20)), (15, [], .int .u64 (wu64 base)), (16, [], .int .u64 (wu64 ((wu64 base) - 1)))] [] H24 (by kernel_rfl) trivial fun _ wd25 H26 hb => ?_
   clear H24
   replace hS := hS.below hb
   clear hb
   obtain ⟨z27, hz, hm⟩ := bindE hm
   refine w_cut (fun a' w' => Fr 102 [(0, [], .slice g_dst.a dst.length g_dst.c), (3, [], .bool neg), (4, [], .bool append_), (10, [], .slice none 0 0), (11, [], .string ⟨⟨[]⟩⟩), (12, [], .pointer (some ⟨b6, 0, none⟩)), (1, [], .int .u64 z27.1), (13, [], .int .i64 z27.2.1)] a' ∧ SH M X w [Ent.row .u8 b6 z27.2.2 (65 : Int), Ent.im (tI .u8) dst g_dst, gE3] w') ?_ ?_
   ·replace hm := hz
    refine w_block ?_
    refine w_loop (fun kk a' w' => ∃ (v28 : Int) (v29 : Int) (v30 : List Int), strconv_formatBits_L1 m base y20 kk v28 v29 v30 = some _ ∧ Fr 102 [(0, [], .slice g_dst.a dst.length g_dst.c), (3, [], .bool neg), (4, [], .bool append_), (10, [], .slice none 0 0), (11, [], .string ⟨⟨[]⟩⟩), (12, [], .pointer (some ⟨b6, 0, none⟩)), (14, [], .int .u64 (wu64 y20)), (15, [], .int .u64 (wu64 base)), (16, [], .int .u64 (wu64 ((wu64 base) - 1))), (1, [], .int .u64 v28), (13, [], .int .i64 v29)] a' ∧ SH M X w [Ent.row .u8 b6 v30 (65 : Int), Ent.im (tI .u8) dst g_dst, gE3] w') ⟨_, z11, 65, List.replicate 65 (0 : Int), hm, FrG.keep (ks := [0, 3, 4, 10, 11, 12, 14, 15, 16, 1, 13]) H26 (by kernel_rfl), hS⟩ ?_
    clear hm H26 hS
    rintro kk _ wd49 ⟨v28, v29, v30, hm, H, hS⟩
    cases kk with
    | zero => exact noneE hm
    | succ kk =>
     rw [strconv_formatBits_L1] at hm
     refine w_seq ?_
     refine s_reg [] [0, 1, 3, 4, 10, 11, 12, 13, 14, 15, 16, 46] [(0, [], .slice g_dst.a dst.length g_dst.c), (1, [], .int .u64 v28), (3, [], .bool neg), (4, [], .bool append_), (10, [], .slice none 0 0), (11, [], .string ⟨⟨[]⟩⟩), (12, [], .pointer (some ⟨b6, 0, none⟩)), (13, [], .int .i64 v29), (14, [], .int .u64 (wu64 y20)), (15, [], .int .u64 (wu64 base)), (16, [], .int .u64 (wu64 ((wu64 base) - 1))), (46, [], .bool (decide ((wu64 base) ≤ v28)))] [] H (by kernel_rfl) trivial fun _ wd31 H32 hb => ?_
     clear H
     replace hS := hS.below hb
     clear hb
     refine w_if H32 rfl (fun hc => ?_) (fun hc => ?c48)
     case c48 =>
      replace hm := bF hc hm
      refine w_exit rfl ?_
      obtain rfl := someE hm
      exact ⟨FrG.keep (ks := [0, 3, 4, 10, 11, 12, 1, 13]) H32 (by kernel_rfl), hS⟩
     replace hm := bT hc hm
     refine w_skip ?_
     refine w_block ?_
     refine s_reg [] [0, 1, 3, 4, 10, 11, 12, 13, 14, 15, 16] [(0, [], .slice g_dst.a dst.length g_dst.c), (1, [], .int .u64 v28), (3, [], .bool neg), (4, [], .bool append_), (10, [], .slice none 0 0), (11, [], .string ⟨⟨[]⟩⟩), (12, [], .pointer (some ⟨b6, 0, none⟩)), (13, [], .int .i64 (w64 (v29 - 1))), (14, [], .int .u64 (wu64 y20)), (15, [], .int .u64 (wu64 base)), (16, [], .int .u64 (wu64 ((wu64 base) - 1)))] [] H32 (by kernel_rfl) trivial fun _ wd33 H34 hb => ?_
     clear H32
     replace hS := hS.below hb
     clear hb
     refine w_seq ?_
     refine wl_start ?_
     obtain ⟨x35, hx35, hm⟩ := letE hm
     obtain ⟨ho36, hm⟩ := chkE hm
     obtain ⟨x37, hx37, hm⟩ := letE hm
     obtain ⟨ho38, hm⟩ := chkE hm
     refine wl_batch 0 6 [] [0, 1, 3, 4, 10, 11, 12, 13, 14, 15, 16, 53, 54] [(0, [], .slice g_dst.a dst.length g_dst.c), (1, [], .int .u64 v28), (3, [], .bool neg), (4, [], .bool append_), (10, [], .slice none 0 0), (11, [], .string ⟨⟨[]⟩⟩), (12, [], .pointer (some ⟨b6, 0, none⟩)), (13, [], .int .i64 (w64 (v29 - 1))), (14, [], .int .u64 (wu64 y20)), (15, [], .int .u64 (wu64 base)), (16, [], .int .u64 (wu64 ((wu64 base) - 1))), (53, [], .int .u8 x37), (54, [], .pointer (some ⟨b6, 0 + ((w64 (v29 - 1))).toNat * 1, none⟩))] [fun _ => 0 ≤ x35 ∧ x35 < ln [48, 49, 50, 51, 52, 53, 54, 55, 56, 57, 97, 98, 99, 100, 101, 102, 103, 104, 105, 106, 107, 108, 109, 110, 111, 112, 113, 114, 115, 116, 117, 118, 119, 120, 121, 122], fun _ => 0 ≤ (w64 (v29 - 1)) ∧ (w64 (v29 - 1)) < (65 : Int)] H34 (by decide) (by subst hx35 hx37; kernel_rfl) ⟨ho36, ho38, trivial⟩ fun _ wd39 H40 hb => ?_
     clear H34
     replace hS := hS.below hb
     clear hb
     have hd := hS.hand [0] [1, 2] rfl rfl
     refine m_stp0 [0, 1, 3, 4, 10, 11, 12, 13, 14, 15, 16] [(0, [], .slice g_dst.a dst.length g_dst.c), (1, [], .int .u64 v28), (3, [], .bool neg), (4, [], .bool append_), (10, [], .slice none 0 0), (11, [], .string ⟨⟨[]⟩⟩), (12, [], .pointer (some ⟨b6, 0, none⟩)), (13, [], .int .i64 (w64 (v29 - 1))), (14, [], .int .u64 (wu64 y20)), (15, [], .int .u64 (wu64 base)), (16, [], .int .u64 (wu64 ((wu64 base) - 1)))] H40 rfl rfl rfl (o_rstore H40 hd rfl rfl (by kernel_rfl) ho38) rfl fun _ wd41 H42 hq => ?_
     clear H40 hd
     obtain ⟨_, hq⟩ := hq
     obtain ⟨q43, hq43, hm⟩ := letE hm
     rw [← hq43] at hq
     replace hS : SH M X w [Ent.row .u8 b6 q43 (65 : Int), Ent.im (tI .u8) dst g_dst, gE3] _ := hS.join [0] [1, 2] rfl rfl hq
     clear hq
     refine wl_end rfl ?_
     obtain ⟨ho44, hm⟩ := chkE hm
     obtain ⟨x45, hx45, hm⟩ := letE hm
     refine w_reg [] [0, 1, 3, 4, 10, 11, 12, 13, 14, 15, 16] [(0, [], .slice g_dst.a dst.length g_dst.c), (1, [], .int .u64 x45), (3, [], .bool neg), (4, [], .bool append_), (10, [], .slice none 0 0), (11, [], .string ⟨⟨[]⟩⟩), (12, [], .pointer (some ⟨b6, 0, none⟩)), (13, [], .int .i64 (w64 (v29 - 1))), (14, [], .int .u64 (wu64 y20)), (15, [], .int .u64 (wu64 base)), (16, [], .int .u64 (wu64 ((wu64 base) - 1)))] [fun _ => 0 ≤ (wu64 y20)] H42 (by subst hx45; kernel_rfl) ⟨ho44, trivial⟩ fun _ wd46 H47 hb => ?_
     clear H42
     replace hS := hS.below hb
     clear hb
     exact ⟨_, Nat.lt_succ_self _, x45, w64 (v29 - 1), q43, hm, FrG.keep (ks := [0, 3, 4, 10, 11, 12, 14, 15, 16, 1, 13]) H47 (by kernel_rfl), hS⟩
   ·rintro _ wd60 ⟨H, hS⟩
    refine s_reg [] [0, 1, 3, 4, 10, 11, 12, 13] [(0, [], .slice g_dst.a dst.length g_dst.c), (1, [], .int .u64 z27.1), (3, [], .bool neg), (4, [], .bool append_), (10, [], .slice none 0 0), (11, [], .string ⟨⟨[]⟩⟩), (12, [], .pointer (some ⟨b6, 0, none⟩)), (13, [], .int .i64 (w64 (z27.2.1 - 1)))] [] H (by kernel_rfl) trivial fun _ wd50 H51 hb => ?_
    clear H
    replace hS := hS.below hb
    clear hb
    refine wl_start ?_
    obtain ⟨ho52, hm⟩ := chkE hm
    obtain ⟨x53, hx53, hm⟩ := letE hm
    obtain ⟨ho54, hm⟩ := chkE hm
    refine wl_batch 0 4 [] [0, 3, 4, 10, 11, 12, 13, 62, 63] [(0, [], .slice g_dst.a dst.length g_dst.c), (3, [], .bool neg), (4, [], .bool append_), (10, [], .slice none 0 0), (11, [], .string ⟨⟨[]⟩⟩), (12, [], .pointer (some ⟨b6, 0, none⟩)), (13, [], .int .i64 (w64 (z27.2.1 - 1))), (62, [], .int .u8 x53), (63, [], .pointer (some ⟨b6, 0 + ((w64 (z27.2.1 - 1))).toNat * 1, none⟩))] [fun _ => 0 ≤ z27.1 ∧ z27.1 < ln [48, 49, 50, 51, 52, 53, 54, 55, 56, 57, 97, 98, 99, 100, 101, 102, 103, 104, 105, 106, 107, 108, 109, 110, 111, 112, 113, 114, 115, 116, 117, 118, 119, 120, 121, 122], fun _ => 0 ≤ (w64 (z27.2.1 - 1)) ∧ (w64 (z27.2.1 - 1)) < (65 : Int)] H51 (by decide) (by subst hx53; kernel_rfl) ⟨ho52, ho54, trivial⟩ fun _ wd55 H56 hb => ?_
    clear H51
    replace hS := hS.below hb
    clear hb
    have hd := hS.hand [0] [1, 2] rfl rfl
    refine m_stp0 [0, 3, 4, 10, 11, 12, 13] [(0, [], .slice g_dst.a dst.length g_dst.c), (3, [], .bool neg), (4, [], .bool append_), (10, [], .slice none 0 0), (11, [], .string ⟨⟨[]⟩⟩), (12, [], .pointer (some ⟨b6, 0, none⟩)), (13, [], .int .i64 (w64 (z27.2.1 - 1)))] H56 rfl rfl rfl (o_rstore H56 hd rfl rfl (by kernel_rfl) ho54) rfl fun _ wd57 H58 hq => ?_
    clear H56 hd
    obtain ⟨_, hq⟩ := hq
    obtain ⟨q59, hq59, hm⟩ := letE hm
    rw [← hq59] at hq
    replace hS : SH M X w [Ent.row .u8 b6 q59 (65 : Int), Ent.im (tI .u8) dst g_dst, gE3] _ := hS.join [0] [1, 2] rfl rfl hq
    clear hq
    refine wl_end rfl ?_
    obtain rfl := someE hm
    exact ⟨FrG.keep (ks := [0, 3, 4, 10, 11, 12, 13]) H58 (by kernel_rfl), hS⟩
  ·rintro _ wd122 ⟨H, hS⟩
   obtain ⟨z99, hz, hm⟩ := bindE hm
   refine w_cut (fun a' w' => Fr 102 [(0, [], .slice g_dst.a dst.length g_dst.c), (4, [], .bool append_), (10, [], .slice none 0 0), (11, [], .string ⟨⟨[]⟩⟩), (12, [], .pointer (some ⟨b6, 0, none⟩)), (13, [], .int .i64 z99.1)] a' ∧ SH M X w [Ent.row .u8 b6 z99.2 (65 : Int), Ent.im (tI .u8) dst g_dst, gE3] w') ?_ ?_
   ·replace hm := hz
    refine s_reg [] [0, 4, 10, 11, 12, 13, 89] [(0, [], .slice g_dst.a dst.length g_dst.c), (4, [], .bool append_), (10, [], .slice none 0 0), (11, [], .string ⟨⟨[]⟩⟩), (12, [], .pointer (some ⟨b6, 0, none⟩)), (13, [], .int .i64 z17.1), (89, [], .bool neg)] [] H (by kernel_rfl) trivial fun _ wd100 H101 hb => ?_
    clear H
    replace hS := hS.below hb
    clear hb
    refine w_if H101 rfl (fun hc => ?_) (fun hc => ?c110)
    case c110 =>
     replace hm := bF hc hm
     refine w_skip ?_
     obtain rfl := someE hm
     exact ⟨FrG.keep (ks := [0, 4, 10, 11, 12, 13]) H101 (by kernel_rfl), hS⟩
    replace hm := bT hc hm
    refine s_reg [] [0, 4, 10, 11, 12, 13] [(0, [], .slice g_dst.a dst.length g_dst.c), (4, [], .bool append_), (10, [], .slice none 0 0), (11, [], .string ⟨⟨[]⟩⟩), (12, [], .pointer (some ⟨b6, 0, none⟩)), (13, [], .int .i64 (w64 (z17.1 - 1)))] [] H101 (by kernel_rfl) trivial fun _ wd102 H103 hb => ?_
    clear H101
    replace hS := hS.below hb
    clear hb
    refine wl_start ?_
    obtain ⟨ho104, hm⟩ := chkE hm
    refine wl_batch 0 2 [] [0, 4, 10, 11, 12, 13, 93] [(0, [], .slice g_dst.a dst.length g_dst.c), (4, [], .bool append_), (10, [], .slice none 0 0), (11, [], .string ⟨⟨[]⟩⟩), (12, [], .pointer (some ⟨b6, 0, none⟩)), (13, [], .int .i64 (w64 (z17.1 - 1))), (93, [], .pointer (some ⟨b6, 0 + ((w64 (z17.1 - 1))).toNat * 1, none⟩))] [fun _ => 0 ≤ (w64 (z17.1 - 1)) ∧ (w64 (z17.1 - 1)) < (65 : Int)] H103 (by decide) (by kernel_rfl) ⟨ho104, trivial⟩ fun _ wd105 H106 hb => ?_
    clear H103
    replace hS := hS.below hb
    clear hb
    have hd := hS.hand [0] [1, 2] rfl rfl
    refine m_stp0 [0, 4, 10, 11, 12, 13] [(0, [], .slice g_dst.a dst.length g_dst.c), (4, [], .bool append_), (10, [], .slice none 0 0), (11, [], .string ⟨⟨[]⟩⟩), (12, [], .pointer (some ⟨b6, 0, none⟩)), (13, [], .int .i64 (w64 (z17.1 - 1)))] H106 rfl rfl rfl (o_rstore H106 hd rfl rfl (by kernel_rfl) ho104) rfl fun _ wd107 H108 hq => ?_
    clear H106 hd
    obtain ⟨_, hq⟩ := hq
    obtain ⟨q109, hq109, hm⟩ := letE hm
    rw [← hq109] at hq
    replace hS : SH M X w [Ent.row .u8 b6 q109 (65 : Int), Ent.im (tI .u8) dst g_dst, gE3] _ := hS.join [0] [1, 2] rfl rfl hq
    clear hq
    refine wl_end rfl ?_
    obtain rfl := someE hm
    exact ⟨FrG.keep (ks := [0, 4, 10, 11, 12, 13]) H108 (by kernel_rfl), hS⟩
   ·rintro _ wd121 ⟨H, hS⟩
    refine w_seq ?_
    refine s_reg [] [0, 10, 11, 12, 13, 94] [(0, [], .slice g_dst.a dst.length g_dst.c), (10, [], .slice none 0 0), (11, [], .string ⟨⟨[]⟩⟩), (12, [], .pointer (some ⟨b6, 0, none⟩)), (13, [], .int .i64 z99.1), (94, [], .bool append_)] [] H (by kernel_rfl) trivial fun _ wd111 H112 hb => ?_
    clear H
    replace hS := hS.below hb
    clear hb
    refine w_if H112 rfl (fun hc => ?c120) (fun hc => ?_)
    case c120 =>
     replace hm := bT hc hm
     exact noneE hm
    replace hm := bF hc hm
    refine w_skip ?_
    obtain ⟨ho116, hm⟩ := chkE hm
    refine s_reg [(.string ⟨⟨toB (z99.2.drop (z99.1).toNat)⟩⟩)] [10, 11] [(10, [], .slice none 0 0), (11, [], .string ⟨⟨toB (z99.2.drop (z99.1).toNat)⟩⟩)] [fun _ => 0 ≤ z99.1 ∧ z99.1 < (65 : Int), fun wz => ∀ w', Below wz.heap.size wz w' → (convert 50 9 (.slice (some ⟨b6, 0 + (z99.1).toNat * 1, none⟩) (65 - (z99.1).toNat) (65 - (z99.1).toNat))).run Tryd.prog w' = .ok (.string ⟨⟨toB (z99.2.drop (z99.1).toNat)⟩⟩) w'] H112 (by kernel_rfl) ⟨ho116, (conv_rowd (E := 5) (by kernel_rfl) (by kernel_rfl) (by kernel_rfl) (hS.rw 0 rfl).1 (hS.rw 0 rfl).2), trivial⟩ fun _ wd117 H118 hb => ?_
    clear H112
    replace hS := hS.below hb
    clear hb
    replace hS : SH M X w [gE3] _ := hS.sel [2] rfl
    refine w_ret ?_
    obtain rfl := someE hm
    replace hS : SH M X w [Ent.own 5 (tI .u8) ([] : List Int) (.nil), gE3] _ := hS.addNil 5 (tI .u8)
    exact retR2 H118 rfl rfl rfl ⟨_, rfl, Gh.nil, rfl, (hS.sel [0] rfl)⟩
theorem strconv_formatBits_ok {g_dst : Gh} (m : Nat) (dst : List Int) (u_ : Int) (base : Int) (neg : Bool) (append_ : Bool) (r : (List Int) × Str) (hm : strconv_formatBits m dst u_ base neg append_ = some r) (M : Av) (w : World) (hS : S0 M [Ent.im (tI .u8) dst g_dst, gE3] w) : DoesX Tryd.prog 40 ⟨[.slice g_dst.a dst.length g_dst.c, .int .u64 u_, .int .i64 base, .bool neg, .bool append_]⟩ w (fun v w' => ∃ (g901 : Gh), v = .tuple ⟨[.slice g901.a r.1.length g901.c, .string ⟨⟨r.2⟩⟩]⟩ ∧ SH M (fpl [Ent.im (tI .u8) dst g_dst, gE3]) w [Ent.own 5 (tI .u8) r.1 g901] w') := ⟨Tryd.call40 _, strconv_formatBits_w M m   dst u_ base neg append_ r hm w hS⟩

theorem strconv_FormatInt_2_w  (M : Av) (m : Nat) (i : Int) (base : Int) (r : Str) (hm : strconv_FormatInt_2 m i base = some r) (w : World) (hS : S0 M [gE3] w) : Calls Tryd.prog 30 ⟨[.int .i64 i, .int .i64 base]⟩ w (fun e w' => ∃ v, e = .returned v ∧ v = .string ⟨⟨r⟩⟩ ∧ SH M (fpl [gE3]) w [] w') := by
 rw [strconv_FormatInt_2] at hm
 have hS0 : SH M (fpl [gE3]) w [gE3] w := hS
 generalize hX : fpl [gE3] = X at hS0 ⊢
 clear hS hX
 have hS := hS0
 clear hS0
 refine calls_entryP Tryd.func30 rfl Tryd.ntmps30 rfl fun _ H => ?_
 refine s_reg [] [0, 1] [(0, [], .int .i64 i), (1, [], .int .i64 base)] [] H (by kernel_rfl) trivial fun _ wd1 H2 hb => ?_
 clear H
 replace hS := hS.below hb
 clear hb
 refine w_seq ?_
 refine s_reg [] [0, 1, 11] [(0, [], .int .i64 i), (1, [], .int .i64 base), (11, [], .bool (base == 10))] [] H2 (by kernel_rfl) trivial fun _ wd3 H4 hb => ?_
 clear H2
 replace hS := hS.below hb
 clear hb
 refine w_if H4 rfl (fun hc => ?_) (fun hc => ?c36)
 case c36 =>
  replace hm := bF hc hm
  refine w_skip ?_
  refine w_seq ?_
  refine wl_start ?_
  refine wl_batch 0 5 [] [46, 47, 49] [(46, [], .int .u64 (wu64 i)), (47, [], .int .i64 base), (49, [], .bool (decide (i < 0)))] [] H4 (by decide) (by kernel_rfl) trivial fun _ wd24 H25 hb => ?_
  clear H4
  replace hS := hS.below hb
  clear hb
  replace hS : SH M X w [Ent.own 5 (tI .u8) ([] : List Int) (.nil), gE3] _ := hS.addNil 5 (tI .u8)
  replace hS : SH M X w [Ent.im (tI .u8) ([] : List Int) (.nil), gE3] _ := SH.frz1 (hS.sel [0, 1] rfl)
  obtain ⟨y27, hy27, hm⟩ := bindE hm
  have hd := hS.hand [0, 1] [0, 1] rfl rfl
  refine m_stp [50] [] H25 rfl rfl rfl rfl (o_callx H25 rfl rfl (strconv_formatBits_ok (g_dst := Gh.nil) m _ _ _ _ _ _ hy27 _ _ hd)) (fun _ => rfl) fun _ wd30 v H31 hq => ?_
  clear H25 hd
  obtain ⟨g28, rfl, hq⟩ := hq
  replace hS : SH M X w [Ent.own 5 (tI .u8) y27.1 g28, Ent.im (tI .u8) ([] : List Int) (.nil), gE3] _ := hS.join [0, 1] [0, 1] rfl rfl hq
  clear hq
  refine wl_batch 6 11 [] [9] [(9, [], .string ⟨⟨y27.2⟩⟩)] [] H31 (by decide) (by kernel_rfl) trivial fun _ wd32 H33 hb => ?_
  clear H31
  replace hS := hS.below hb
  clear hb
  refine wl_end rfl ?_
  replace hS : SH M X w [gE3] _ := hS.sel [2] rfl
  refine s_reg [] [4] [(4, [], .string ⟨⟨y27.2⟩⟩)] [] H33 (by kernel_rfl) trivial fun _ wd34 H35 hb => ?_
  clear H33
  replace hS := hS.below hb
  clear hb
  refine w_ret ?_
  obtain rfl := someE hm
  exact retR1 H35 rfl rfl ⟨_, rfl, rfl, (hS.sel [] rfl)⟩
 replace hm := bT hc hm
 refine w_seq ?_
 obtain ⟨x5, hx5, hm⟩ := letE hm
 refine s_reg [] [0, 17] [(0, [], .int .i64 i), (17, [], .bool x5)] [] H4 (by subst hx5; kernel_rfl) trivial fun _ wd6 H7 hb => ?_
 clear H4
 replace hS := hS.below hb
 clear hb
 refine w_if H7 rfl (fun hc => ?c23) (fun hc => ?_)
 case c23 =>
  replace hm := bT hc hm
  obtain ⟨y8, hy8, hm⟩ := bindE hm
  refine s_reg [(.string ⟨⟨y8⟩⟩)] [4] [(4, [], .string ⟨⟨y8⟩⟩)] [fun wz => RetB Tryd.prog 37 ⟨[.int .i64 i]⟩ (.string ⟨⟨y8⟩⟩) wz] H7 (by kernel_rfl) ⟨((strconv_small_ok _ _ hy8).b), trivial⟩ fun _ wd9 H10 hb => ?_
  clear H7
  replace hS := hS.below hb
  clear hb
  refine w_ret ?_
  obtain rfl := someE hm
  exact retR1 H10 rfl rfl ⟨_, rfl, rfl, (hS.sel [] rfl)⟩
 replace hm := bF hc hm
 refine w_skip ?_
 refine w_seq ?_
 refine wl_start ?_
 have hd := hS.hand [] [0] rfl rfl
 refine m_stp [5, 0] [(0, [], .int .i64 i)] H7 rfl rfl rfl rfl (o_allocR .u8 [0, 0, 0, 0, 0, 0, 0, 0, 0, 0, 0, 0, 0, 0, 0, 0, 0, 0, 0, 0, 0, 0, 0, 0] (z := .agg ⟨[.int .u8 0, .int .u8 0, .int .u8 0, .int .u8 0, .int .u8 0, .int .u8 0, .int .u8 0, .int .u8 0, .int .u8 0, .int .u8 0, .int .u8 0, .int .u8 0, .int .u8 0, .int .u8 0, .int .u8 0, .int .u8 0, .int .u8 0, .int .u8 0, .int .u8 0, .int .u8 0, .int .u8 0, .int .u8 0, .int .u8 0, .int .u8 0]⟩) hd (by kernel_rfl) rfl) (fun _ => rfl) fun _ wd12 v H13 hq => ?_
 clear H7 hd
 obtain ⟨b11, rfl, hq⟩ := hq
 replace hS : SH M X w [Ent.row .u8 b11 [0, 0, 0, 0, 0, 0, 0, 0, 0, 0, 0, 0, 0, 0, 0, 0, 0, 0, 0, 0, 0, 0, 0, 0] (24 : Int), gE3] _ := hS.join [] [0] rfl rfl hq
 clear hq
 refine wl_end rfl ?_
 refine s_reg [] [0, 5, 6] [(0, [], .int .i64 i), (5, [], .pointer (some ⟨b11, 0, none⟩)), (6, [], .int .u64 (wu64 i))] [] H13 (by kernel_rfl) trivial fun _ wd14 H15 hb => ?_
 clear H13
 replace hS := hS.below hb
 clear hb
 obtain ⟨z16, hz, hm⟩ := bindE hm
 refine w_cut (fun a' w' => Fr 54 [(0, [], .int .i64 i), (5, [], .pointer (some ⟨b11, 0, none⟩)), (6, [], .int .u64 z16)] a' ∧ SH M X w [Ent.row .u8 b11 [0, 0, 0, 0, 0, 0, 0, 0, 0, 0, 0, 0, 0, 0, 0, 0, 0, 0, 0, 0, 0, 0, 0, 0] (24 : Int), gE3] w') ?_ ?_
 ·replace hm := hz
  refine s_reg [] [0, 5, 6, 23] [(0, [], .int .i64 i), (5, [], .pointer (some ⟨b11, 0, none⟩)), (6, [], .int .u64 (wu64 i)), (23, [], .bool (decide (i < 0)))] [] H15 (by kernel_rfl) trivial fun _ wd17 H18 hb => ?_
  clear H15
  replace hS := hS.below hb
  clear hb
  refine w_if H18 rfl (fun hc => ?_) (fun hc => ?c21)
  case c21 =>
   replace hm := bF hc hm
   refine w_skip ?_
   obtain rfl := someE hm
   exact ⟨FrG.keep (ks := [0, 5, 6]) H18 (by kernel_rfl), hS⟩
  replace hm := bT hc hm
  refine w_reg [] [0, 5, 6] [(0, [], .int .i64 i), (5, [], .pointer (some ⟨b11, 0, none⟩)), (6, [], .int .u64 (wu64 (0 - (wu64 i))))] [] H18 (by kernel_rfl) trivial fun _ wd19 H20 hb => ?_
  clear H18
  replace hS := hS.below hb
  clear hb
  obtain rfl := someE hm
  exact ⟨FrG.keep (ks := [0, 5, 6]) H20 (by kernel_rfl), hS⟩
 ·rintro _ wd22 ⟨H, hS⟩
  exact noneE hm
theorem strconv_FormatInt_2_ok  (m : Nat) (i : Int) (base : Int) (r : Str) (hm : strconv_FormatInt_2 m i base = some r) (w : World) (hL : S0 F0 [gE3] w ∧ fpl [gE3] = []) : RetB Tryd.prog 30 ⟨[.int .i64 i, .int .i64 base]⟩ (.string ⟨⟨r⟩⟩) w := retB_of hL (Tryd.call30 _) (fun w' h => strconv_FormatInt_2_w F0 m   i base r hm w' h)

theorem strconv_FormatInt_w  (M : Av) (m : Nat) (i : Int) (r : Str) (hm : strconv_FormatInt m i = some r) (w : World) (hS : S0 M [gE3] w) : Calls Tryd.prog 21 ⟨[.int .i64 i, .int .i64 16]⟩ w (fun e w' => ∃ v, e = .returned v ∧ v = .string ⟨⟨r⟩⟩ ∧ SH M (fpl [gE3]) w [] w') := by
 rw [strconv_FormatInt] at hm
 have hS0 : SH M (fpl [gE3]) w [gE3] w := hS
 generalize hX : fpl [gE3] = X at hS0 ⊢
 clear hS hX
 have hS := hS0
 clear hS0
 refine calls_entryP Tryd.func21 rfl Tryd.ntmps21 rfl fun _ H => ?_
 refine s_reg [] [0, 1] [(0, [], .int .i64 i), (1, [], .int .i64 16)] [] H (by kernel_rfl) trivial fun _ wd1 H2 hb => ?_
 clear H
 replace hS := hS.below hb
 clear hb
 obtain ⟨y3, hy3, hm⟩ := bindE hm
 refine s_reg [(.string ⟨⟨y3⟩⟩)] [4] [(4, [], .string ⟨⟨y3⟩⟩)] [fun wz => RetB Tryd.prog 30 ⟨[.int .i64 i, .int .i64 16]⟩ (.string ⟨⟨y3⟩⟩) wz] H2 (by kernel_rfl) ⟨(strconv_FormatInt_2_ok m _ _ _ hy3 _ (s0im s0nil (hS.im 0 rfl))), trivial⟩ fun _ wd4 H5 hb => ?_
 clear H2
 replace hS := hS.below hb
 clear hb
 refine w_ret ?_
 obtain rfl := someE hm
 exact retR1 H5 rfl rfl ⟨_, rfl, rfl, (hS.sel [] rfl)⟩
theorem strconv_FormatInt_ok  (m : Nat) (i : Int) (r : Str) (hm : strconv_FormatInt m i = some r) (w : World) (hL : S0 F0 [gE3] w ∧ fpl [gE3] = []) : RetB Tryd.prog 21 ⟨[.int .i64 i, .int .i64 16]⟩ (.string ⟨⟨r⟩⟩) w := retB_of hL (Tryd.call21 _) (fun w' h => strconv_FormatInt_w F0 m   i r hm w' h)

theorem parseval_Shown_w  (M : Av) (m : Nat) (c_ : TColor) (r : Str) (hm : parseval_Shown m c_ = some r) (w : World) (hS : S0 M [Ent.tab 0 (Lib.pow10Tab.map fun z => Value.int .u64 z), gE3] w) : Calls Tryd.prog 8 ⟨[.agg ⟨[.int .u8 c_.Red, .int .u8 c_.Green, .int .u8 c_.Blue, .int .u8 c_.Alpha]⟩]⟩ w (fun e w' => ∃ v, e = .returned v ∧ v = .string ⟨⟨r⟩⟩ ∧ SH M (fpl [Ent.tab 0 (Lib.pow10Tab.map fun z => Value.int .u64 z), gE3]) w [] w') := by
 rw [parseval_Shown] at hm
 have hS0 : SH M (fpl [Ent.tab 0 (Lib.pow10Tab.map fun z => Value.int .u64 z), gE3]) w [Ent.tab 0 (Lib.pow10Tab.map fun z => Value.int .u64 z), gE3] w := hS
 generalize hX : fpl [Ent.tab 0 (Lib.pow10Tab.map fun z => Value.int .u64 z), gE3] = X at hS0 ⊢
 clear hS hX
 have hS := hS0
 clear hS0
 refine calls_entryP Tryd.func8 rfl Tryd.ntmps8 rfl fun _ H => ?_
 refine w_seq ?_
 refine wl_start ?_
 have hd := hS.hand [] [0, 1] rfl rfl
 refine m_stp [1] [] H rfl rfl rfl rfl (o_box [.int .u8 c_.Red, .int .u8 c_.Green, .int .u8 c_.Blue, .int .u8 c_.Alpha] H hd rfl rfl) (fun _ => rfl) fun _ wd2 v H3 hq => ?_
 clear H hd
 obtain ⟨b1, rfl, hq⟩ := hq
 replace hS : SH M X w [Ent.blk b1 [.int .u8 c_.Red, .int .u8 c_.Green, .int .u8 c_.Blue, .int .u8 c_.Alpha], Ent.tab 0 (Lib.pow10Tab.map fun z => Value.int .u64 z), gE3] _ := hS.join [] [0, 1] rfl rfl hq
 clear hq
 refine wl_batch 1 2 [] [1] [(1, [], .pointer (some ⟨b1, 0, none⟩))] [] H3 (by decide) (by kernel_rfl) trivial fun _ wd4 H5 hb => ?_
 clear H3
 replace hS := hS.below hb
 clear hb
 refine wl_end rfl ?_
 refine w_seq ?_
 refine wl_start ?_
 refine wl_batch 0 9 [(.int .u8 c_.Red), (.int .u8 c_.Green), (.int .u8 c_.Blue), (.int .u8 c_.Alpha)] [1, 18] [(1, [], .pointer (some ⟨b1, 0, none⟩)), (18, [], .agg ⟨[.int .u8 c_.Red, .int .u8 c_.Green, .int .u8 c_.Blue, .int .u8 c_.Alpha]⟩)] [fun wz => V.at1 ⟨b1, 0, none⟩ (.int .u8 c_.Red) wz, fun wz => V.at1 ⟨b1, 1, none⟩ (.int .u8 c_.Green) wz, fun wz => V.at1 ⟨b1, 2, none⟩ (.int .u8 c_.Blue) wz, fun wz => V.at1 ⟨b1, 3, none⟩ (.int .u8 c_.Alpha) wz] H5 (by decide) (by kernel_rfl) ⟨((hS.bk 0 rfl).at1 rfl), ((hS.bk 0 rfl).at1 rfl), ((hS.bk 0 rfl).at1 rfl), ((hS.bk 0 rfl).at1 rfl), trivial⟩ fun _ wd6 H7 hb => ?_
 clear H5
 replace hS := hS.below hb
 clear hb
 have hd := hS.hand [] [0, 1, 2] rfl rfl
 refine m_stp [3, 1, 18] [(1, [], .pointer (some ⟨b1, 0, none⟩)), (18, [], .agg ⟨[.int .u8 c_.Red, .int .u8 c_.Green, .int .u8 c_.Blue, .int .u8 c_.Alpha]⟩)] H7 rfl rfl rfl rfl (o_alloc [.int .u8 0, .int .u8 0, .int .u8 0, .int .u8 0] (z := .agg ⟨[.int .u8 0, .int .u8 0, .int .u8 0, .int .u8 0]⟩) hd (by kernel_rfl) rfl) (fun _ => rfl) fun _ wd9 v H10 hq => ?_
 clear H7 hd
 obtain ⟨b8, rfl, hq⟩ := hq
 replace hS : SH M X w [Ent.blk b8 [.int .u8 0, .int .u8 0, .int .u8 0, .int .u8 0], Ent.blk b1 [.int .u8 c_.Red, .int .u8 c_.Green, .int .u8 c_.Blue, .int .u8 c_.Alpha], Ent.tab 0 (Lib.pow10Tab.map fun z => Value.int .u64 z), gE3] _ := hS.join [] [0, 1, 2] rfl rfl hq
 clear hq
 have hd := hS.hand [0] [1, 2, 3] rfl rfl
 refine m_stp0 [1, 3] [(1, [], .pointer (some ⟨b1, 0, none⟩)), (3, [], .pointer (some ⟨b8, 0, none⟩))] H10 rfl rfl rfl (o_store [.int .u8 c_.Red, .int .u8 c_.Green, .int .u8 c_.Blue, .int .u8 c_.Alpha] H10 hd rfl rfl (by kernel_rfl) rfl rfl rfl) rfl fun _ wd11 H12 hq => ?_
 clear H10 hd
 obtain ⟨_, hq⟩ := hq
 replace hS : SH M X w [Ent.blk b8 [.int .u8 c_.Red, .int .u8 c_.Green, .int .u8 c_.Blue, .int .u8 c_.Alpha], Ent.blk b1 [.int .u8 c_.Red, .int .u8 c_.Green, .int .u8 c_.Blue, .int .u8 c_.Alpha], Ent.tab 0 (Lib.pow10Tab.map fun z => Value.int .u64 z), gE3] _ := hS.join [0] [1, 2, 3] rfl rfl hq
 clear hq
 refine wl_end rfl ?_
 obtain ⟨z13, hz, hm_z13⟩ := bindE hm
 refine w_cut (fun a' w' => ∃ s_z13 : Unit, z13 = Sum.inr s_z13 ∧ Fr 52 [(3, [], .pointer (some ⟨b8, 0, none⟩))] a' ∧ SH M X w [Ent.blk b8 [.int .u8 c_.Red, .int .u8 c_.Green, .int .u8 c_.Blue, .int .u8 c_.Alpha], Ent.blk b1 [.int .u8 c_.Red, .int .u8 c_.Green, .int .u8 c_.Blue, .int .u8 c_.Alpha], Ent.tab 0 (Lib.pow10Tab.map fun z => Value.int .u64 z), gE3] w') ?_ ?_
 ·replace hm := hz
  refine s_reg [(.int .u8 c_.Alpha)] [3, 21] [(3, [], .pointer (some ⟨b8, 0, none⟩)), (21, [], .bool (c_.Alpha == 255))] [fun wz => V.at1 ⟨b1, 3, none⟩ (.int .u8 c_.Alpha) wz] H12 (by kernel_rfl) ⟨((hS.bk 1 rfl).at1 rfl), trivial⟩ fun _ wd14 H15 hb => ?_
  clear H12
  replace hS := hS.below hb
  clear hb
  refine w_if H15 rfl (fun hc => ?_) (fun hc => ?c58)
  case c58 =>
   replace hm := bF hc hm
   refine w_skip ?_
   obtain rfl := someE hm
   exact ⟨_, rfl, FrG.keep (ks := [3]) H15 (by kernel_rfl), hS⟩
  replace hm := bT hc hm
  refine s_reg [] [3, 4] [(3, [], .pointer (some ⟨b8, 0, none⟩)), (4, [], .slice none 0 0)] [] H15 (by kernel_rfl) trivial fun _ wd16 H17 hb => ?_
  clear H15
  replace hS := hS.below hb
  clear hb
  replace hS : SH M X w [Ent.row .u8 b8 [c_.Red, c_.Green, c_.Blue, c_.Alpha] (4 : Int), Ent.blk b1 [.int .u8 c_.Red, .int .u8 c_.Green, .int .u8 c_.Blue, .int .u8 c_.Alpha], Ent.tab 0 (Lib.pow10Tab.map fun z => Value.int .u64 z), gE3] _ := SH.toRow (q := [c_.Red, c_.Green, c_.Blue, c_.Alpha]) rfl (hS.sel [0, 1, 2, 3] rfl)
  obtain ⟨z18, hz, hm⟩ := bindE hm
  refine w_cut (fun a' w' => ∃ (g50 : Gh), Fr 52 [(4, [], .slice g50.a z18.length g50.c)] a' ∧ SH M X w [Ent.own 9 tS z18 g50, Ent.row .u8 b8 [c_.Red, c_.Green, c_.Blue, c_.Alpha] (4 : Int), Ent.blk b1 [.int .u8 c_.Red, .int .u8 c_.Green, .int .u8 c_.Blue, .int .u8 c_.Alpha], Ent.tab 0 (Lib.pow10Tab.map fun z => Value.int .u64 z), gE3] w') ?_ ?_
  ·replace hm := hz
   refine s_reg [] [4, 22, 23, 24] [(4, [], .slice none 0 0), (22, [], .slice (some ⟨b8, 0, none⟩) 3 4), (23, [], .int .i64 (3 : Int)), (24, [], .int .i64 0)] [fun _ => 0 ≤ (3 : Int) ∧ (3 : Int) ≤ (4 : Int)] H17 (by kernel_rfl) ⟨(⟨by decide, by decide⟩), trivial⟩ fun _ wd19 H20 hb => ?_
   clear H17
   replace hS := hS.below hb
   clear hb
   refine w_block ?_
   replace hS : SH M X w [Ent.own 9 tS ([] : List Str) (.nil), Ent.row .u8 b8 [c_.Red, c_.Green, c_.Blue, c_.Alpha] (4 : Int), Ent.blk b1 [.int .u8 c_.Red, .int .u8 c_.Green, .int .u8 c_.Blue, .int .u8 c_.Alpha], Ent.tab 0 (Lib.pow10Tab.map fun z => Value.int .u64 z), gE3] _ := hS.addNil 9 tS
   refine w_loop (fun kk a' w' => ∃ (v22 : List Str) (v24 : Int) (g23 : Gh), parseval_Shown_L1 m c_ kk v22 v24 = some _ ∧ Fr 52 [(22, [], .slice (some ⟨b8, 0, none⟩) 3 4), (23, [], .int .i64 (3 : Int)), (4, [], .slice g23.a v22.length g23.c), (24, [], .int .i64 v24)] a' ∧ SH M X w [Ent.own 9 tS v22 g23, Ent.row .u8 b8 [c_.Red, c_.Green, c_.Blue, c_.Alpha] (4 : Int), Ent.blk b1 [.int .u8 c_.Red, .int .u8 c_.Green, .int .u8 c_.Blue, .int .u8 c_.Alpha], Ent.tab 0 (Lib.pow10Tab.map fun z => Value.int .u64 z), gE3] w') ⟨_, ([] : List Str), 0, Gh.nil, hm, FrG.keep (ks := [22, 23, 4, 24]) H20 (by kernel_rfl), hS⟩ ?_
   clear hm H20 hS
   rintro kk _ wd49 ⟨v22, v24, g23, hm, H, hS⟩
   cases kk with
   | zero => exact noneE hm
   | succ kk =>
    rw [parseval_Shown_L1] at hm
    refine s_reg [] [4, 22, 23, 24, 25] [(4, [], .slice g23.a v22.length g23.c), (22, [], .slice (some ⟨b8, 0, none⟩) 3 4), (23, [], .int .i64 (3 : Int)), (24, [], .int .i64 v24), (25, [], .bool (decide (v24 < (3 : Int))))] [] H (by kernel_rfl) trivial fun _ wd25 H26 hb => ?_
    clear H
    replace hS := hS.below hb
    clear hb
    refine w_seq ?_
    refine w_if H26 rfl (fun hc => ?_) (fun hc => ?c48)
    case c48 =>
     replace hm := bF hc hm
     refine w_exit rfl ?_
     obtain rfl := someE hm
     exact ⟨g23, FrG.keep (ks := [4]) H26 (by kernel_rfl), hS⟩
    replace hm := bT hc hm
    refine w_skip ?_
    refine w_seq ?_
    refine w_block ?_
    obtain ⟨ho27, hm⟩ := chkE hm
    obtain ⟨ho28, hm⟩ := chkE hm
    obtain ⟨x29, hx29, hm⟩ := letE hm
    refine s_reg [(.int .u8 (gi [c_.Red, c_.Green, c_.Blue, c_.Alpha] v24))] [4, 6, 22, 23, 24] [(4, [], .slice g23.a v22.length g23.c), (6, [], .int .u8 x29), (22, [], .slice (some ⟨b8, 0, none⟩) 3 4), (23, [], .int .i64 (3 : Int)), (24, [], .int .i64 v24)] [fun _ => oka (some ⟨b8, 0, none⟩) ∧ 0 ≤ v24 ∧ v24 < (3 : Int), fun wz => V.at1 ⟨b8, 0 + (v24).toNat * 1, none⟩ (.int .u8 (gi [c_.Red, c_.Green, c_.Blue, c_.Alpha] v24)) wz] H26 (by subst hx29; kernel_rfl) ⟨(⟨rfl, ho27⟩), (Rw.ixn (hS.rw 1 rfl) ho28), trivial⟩ fun _ wd30 H31 hb => ?_
    clear H26
    replace hS := hS.below hb
    clear hb
    refine wl_start ?_
    obtain ⟨y32, hy32, hm⟩ := bindE hm
    refine wl_batch 0 4 [(.string ⟨⟨y32⟩⟩)] [22, 23, 24, 28, 31] [(22, [], .slice (some ⟨b8, 0, none⟩) 3 4), (23, [], .int .i64 (3 : Int)), (24, [], .int .i64 v24), (28, [], .slice g23.a v22.length g23.c), (31, [], .string ⟨⟨y32⟩⟩)] [fun wz => RetB Tryd.prog 19 ⟨[.int .i64 (w64 x29)]⟩ (.string ⟨⟨y32⟩⟩) wz] H31 (by decide) (by kernel_rfl) ⟨(x_Itoa_ok _ _ hy32 _ (s0tab s0nil (hS.at 3 rfl))), trivial⟩ fun _ wd33 H34 hb => ?_
    clear H31
    replace hS := hS.below hb
    clear hb
    have hd := hS.hand [] [0, 1, 2, 3, 4] rfl rfl
    refine m_stp [32, 22, 23, 24, 28] [(22, [], .slice (some ⟨b8, 0, none⟩) 3 4), (23, [], .int .i64 (3 : Int)), (24, [], .int .i64 v24), (28, [], .slice g23.a v22.length g23.c)] H34 rfl rfl rfl rfl (o_lit (T := tS) (E := 9) (zv := .string ⟨⟨[]⟩⟩) [.string ⟨⟨y32⟩⟩] ([y32] : List Str) [gL []] _ H34 hd rfl (by kernel_rfl) (by kernel_rfl) (by kernel_rfl) (by kernel_rfl) (by kernel_rfl) (by kernel_rfl) (by kernel_rfl) rfl (InnL.cons trivial InnL.nil)) (fun _ => rfl) fun _ wd37 v H38 hq => ?_
    clear H34 hd
    obtain ⟨g35, rfl, hq⟩ := hq
    replace hS : SH M X w [Ent.own 9 tS ([y32] : List Str) g35, Ent.own 9 tS v22 g23, Ent.row .u8 b8 [c_.Red, c_.Green, c_.Blue, c_.Alpha] (4 : Int), Ent.blk b1 [.int .u8 c_.Red, .int .u8 c_.Green, .int .u8 c_.Blue, .int .u8 c_.Alpha], Ent.tab 0 (Lib.pow10Tab.map fun z => Value.int .u64 z), gE3] _ := hS.join [] [0, 1, 2, 3, 4] rfl rfl hq
    clear hq
    obtain ⟨ho39, hm⟩ := chkE hm
    obtain ⟨q40, hq40, hm⟩ := letE hm
    have hd := hS.hand [1, 0] [2, 3, 4, 5] rfl rfl
    refine m_stp [33, 22, 23, 24] [(22, [], .slice (some ⟨b8, 0, none⟩) 3 4), (23, [], .int .i64 (3 : Int)), (24, [], .int .i64 v24)] H38 rfl rfl rfl rfl (o_app2 (T := tS) (zv := .string ⟨⟨[]⟩⟩) (g1 := g23) (g2 := g35) (l1 := v22) (l2 := ([y32] : List Str)) q40 hq40.symm H38 hd rfl rfl rfl rfl rfl rfl rfl (by kernel_rfl) (by kernel_rfl) rfl rfl ho39) (fun _ => rfl) fun _ wd41 v H42 hq => ?_
    clear H38 hd
    obtain ⟨g43, rfl, hq⟩ := hq
    replace hS : SH M X w [Ent.own 9 tS q40 g43, Ent.own 9 tS ([y32] : List Str) g35, Ent.row .u8 b8 [c_.Red, c_.Green, c_.Blue, c_.Alpha] (4 : Int), Ent.blk b1 [.int .u8 c_.Red, .int .u8 c_.Green, .int .u8 c_.Blue, .int .u8 c_.Alpha], Ent.tab 0 (Lib.pow10Tab.map fun z => Value.int .u64 z), gE3] _ := hS.join [1, 0] [2, 3, 4, 5] rfl rfl hq
    clear hq
    refine wl_batch 6 7 [] [4, 22, 23, 24] [(4, [], .slice g43.a q40.length g43.c), (22, [], .slice (some ⟨b8, 0, none⟩) 3 4), (23, [], .int .i64 (3 : Int)), (24, [], .int .i64 v24)] [] H42 (by decide) (by kernel_rfl) trivial fun _ wd44 H45 hb => ?_
    clear H42
    replace hS := hS.below hb
    clear hb
    refine wl_end rfl ?_
    replace hS : SH M X w [Ent.own 9 tS q40 g43, Ent.row .u8 b8 [c_.Red, c_.Green, c_.Blue, c_.Alpha] (4 : Int), Ent.blk b1 [.int .u8 c_.Red, .int .u8 c_.Green, .int .u8 c_.Blue, .int .u8 c_.Alpha], Ent.tab 0 (Lib.pow10Tab.map fun z => Value.int .u64 z), gE3] _ := hS.sel [0, 2, 3, 4, 5] rfl
    refine w_reg [] [4, 22, 23, 24] [(4, [], .slice g43.a q40.length g43.c), (22, [], .slice (some ⟨b8, 0, none⟩) 3 4), (23, [], .int .i64 (3 : Int)), (24, [], .int .i64 (w64 (v24 + 1)))] [] H45 (by kernel_rfl) trivial fun _ wd46 H47 hb => ?_
    clear H45
    replace hS := hS.below hb
    clear hb
    exact ⟨_, Nat.lt_succ_self _, q40, w64 (v24 + 1), g43, hm, FrG.keep (ks := [22, 23, 4, 24]) H47 (by kernel_rfl), hS⟩
  ·rintro _ wd57 ⟨g50, H, hS⟩
   obtain ⟨y52, hy52, hm⟩ := bindE hm
   obtain ⟨ho53, hm⟩ := chkE hm
   obtain ⟨ho54, hm⟩ := chkE hm
   refine s_reg [(.string ⟨⟨y52⟩⟩)] [2] [(2, [], .string ⟨⟨([114, 103, 98, 40] ++ y52) ++ [41]⟩⟩)] [fun wz => RetB Tryd.prog 20 ⟨[.slice g50.a z18.length g50.c, .string ⟨⟨[44, 32]⟩⟩]⟩ (.string ⟨⟨y52⟩⟩) wz, fun _ => ln [114, 103, 98, 40] + ln y52 ≤ 9223372036854775807, fun _ => ln ([114, 103, 98, 40] ++ y52) + ln [41] ≤ 9223372036854775807] H (by kernel_rfl) ⟨(strings_Join_ok (g_elems := g50) m _ _ _ hy52 _ (s0im s0nil (hS.osl 0 rfl))), ho53, ho54, trivial⟩ fun _ wd55 H56 hb => ?_
   clear H
   replace hS := hS.below hb
   clear hb
   replace hS : SH M X w [Ent.row .u8 b8 [c_.Red, c_.Green, c_.Blue, c_.Alpha] (4 : Int), Ent.blk b1 [.int .u8 c_.Red, .int .u8 c_.Green, .int .u8 c_.Blue, .int .u8 c_.Alpha], Ent.tab 0 (Lib.pow10Tab.map fun z => Value.int .u64 z), gE3] _ := hS.sel [1, 2, 3, 4] rfl
   refine w_ret ?_
   obtain rfl := someE hm
   have hm := hm_z13
   obtain rfl := someE hm
   exact retR1 H56 rfl rfl ⟨_, rfl, rfl, (hS.sel [] rfl)⟩
 ·rintro _ wd84 ⟨s_z13, hz, H, hS⟩
  subst hz
  replace hm := sumR hm_z13
  replace hS : SH M X w [Ent.blk b8 [.int .u8 c_.Red, .int .u8 c_.Green, .int .u8 c_.Blue, .int .u8 c_.Alpha], Ent.tab 0 (Lib.pow10Tab.map fun z => Value.int .u64 z), gE3] _ := hS.sel [0, 2, 3] rfl
  refine s_reg [] [3, 7] [(3, [], .pointer (some ⟨b8, 0, none⟩)), (7, [], .string ⟨⟨[35]⟩⟩)] [] H (by kernel_rfl) trivial fun _ wd59 H60 hb => ?_
  clear H
  replace hS := hS.below hb
  clear hb
  obtain ⟨z61, hz, hm⟩ := bindE hm
  refine w_cut (fun a' w' => Fr 52 [(7, [], .string ⟨⟨z61⟩⟩)] a' ∧ SH M X w [Ent.blk b8 [.int .u8 c_.Red, .int .u8 c_.Green, .int .u8 c_.Blue, .int .u8 c_.Alpha], Ent.tab 0 (Lib.pow10Tab.map fun z => Value.int .u64 z), gE3] w') ?_ ?_
  ·replace hm := hz
   refine s_reg [(.agg ⟨[.int .u8 c_.Red, .int .u8 c_.Green, .int .u8 c_.Blue, .int .u8 c_.Alpha]⟩)] [7, 39, 40] [(7, [], .string ⟨⟨[35]⟩⟩), (39, [], .agg ⟨[.int .u8 c_.Red, .int .u8 c_.Green, .int .u8 c_.Blue, .int .u8 c_.Alpha]⟩), (40, [], .int .i64 0)] [fun wz => V.atN b8 0 [.int .u8 c_.Red, .int .u8 c_.Green, .int .u8 c_.Blue, .int .u8 c_.Alpha] 0 wz] H60 (by kernel_rfl) ⟨((hS.bk 0 rfl).atD rfl), trivial⟩ fun _ wd62 H63 hb => ?_
   clear H60
   replace hS := hS.below hb
   clear hb
   refine w_block ?_
   refine w_loop (fun kk a' w' => ∃ (v64 : Str) (v65 : Int), parseval_Shown_L2 m c_ kk v64 v65 = some _ ∧ Fr 52 [(39, [], .agg ⟨[.int .u8 c_.Red, .int .u8 c_.Green, .int .u8 c_.Blue, .int .u8 c_.Alpha]⟩), (7, [], .string ⟨⟨v64⟩⟩), (40, [], .int .i64 v65)] a' ∧ SH M X w [Ent.blk b8 [.int .u8 c_.Red, .int .u8 c_.Green, .int .u8 c_.Blue, .int .u8 c_.Alpha], Ent.tab 0 (Lib.pow10Tab.map fun z => Value.int .u64 z), gE3] w') ⟨_, [35], 0, hm, FrG.keep (ks := [39, 7, 40]) H63 (by kernel_rfl), hS⟩ ?_
   clear hm H63 hS
   rintro kk _ wd80 ⟨v64, v65, hm, H, hS⟩
   cases kk with
   | zero => exact noneE hm
   | succ kk =>
    rw [parseval_Shown_L2] at hm
    refine s_reg [] [7, 39, 40, 41] [(7, [], .string ⟨⟨v64⟩⟩), (39, [], .agg ⟨[.int .u8 c_.Red, .int .u8 c_.Green, .int .u8 c_.Blue, .int .u8 c_.Alpha]⟩), (40, [], .int .i64 v65), (41, [], .bool (decide (v65 < 4)))] [] H (by kernel_rfl) trivial fun _ wd66 H67 hb => ?_
    clear H
    replace hS := hS.below hb
    clear hb
    refine w_seq ?_
    refine w_if H67 rfl (fun hc => ?_) (fun hc => ?c79)
    case c79 =>
     replace hm := bF hc hm
     refine w_exit rfl ?_
     obtain rfl := someE hm
     exact ⟨FrG.keep (ks := [7]) H67 (by kernel_rfl), hS⟩
    replace hm := bT hc hm
    refine w_skip ?_
    refine w_seq ?_
    refine w_block ?_
    obtain ⟨ho68, hm⟩ := chkE hm
    obtain ⟨x69, hx69, hm⟩ := letE hm
    refine s_reg [] [7, 9, 39, 40] [(7, [], .string ⟨⟨v64⟩⟩), (9, [], .int .u8 x69), (39, [], .agg ⟨[.int .u8 c_.Red, .int .u8 c_.Green, .int .u8 c_.Blue, .int .u8 c_.Alpha]⟩), (40, [], .int .i64 v65)] [fun _ => 0 ≤ v65 ∧ v65 < (4 : Int)] H67 (by subst hx69; kernel_rfl) ⟨ho68, trivial⟩ fun _ wd70 H71 hb => ?_
    clear H67
    replace hS := hS.below hb
    clear hb
    obtain ⟨y72, hy72, hm⟩ := bindE hm
    obtain ⟨ho73, hm⟩ := chkE hm
    obtain ⟨ho74, hm⟩ := chkE hm
    refine w_reg [(.string ⟨⟨y72⟩⟩)] [7, 39, 40] [(7, [], .string ⟨⟨v64 ++ (sub y72 1 (ln y72))⟩⟩), (39, [], .agg ⟨[.int .u8 c_.Red, .int .u8 c_.Green, .int .u8 c_.Blue, .int .u8 c_.Alpha]⟩), (40, [], .int .i64 v65)] [fun wz => RetB Tryd.prog 21 ⟨[.int .i64 (w64 (256 + (w64 x69))), .int .i64 16]⟩ (.string ⟨⟨y72⟩⟩) wz, fun _ => 0 ≤ (1 : Int) ∧ (1 : Int) ≤ ln y72, fun _ => ln v64 + ln (sub y72 1 (ln y72)) ≤ 9223372036854775807] H71 (by kernel_rfl) ⟨(strconv_FormatInt_ok m _ _ hy72 _ (s0im s0nil (hS.im 2 rfl))), ho73, ho74, trivial⟩ fun _ wd75 H76 hb => ?_
    clear H71
    replace hS := hS.below hb
    clear hb
    refine w_reg [] [7, 39, 40] [(7, [], .string ⟨⟨v64 ++ (sub y72 1 (ln y72))⟩⟩), (39, [], .agg ⟨[.int .u8 c_.Red, .int .u8 c_.Green, .int .u8 c_.Blue, .int .u8 c_.Alpha]⟩), (40, [], .int .i64 (w64 (v65 + 1)))] [] H76 (by kernel_rfl) trivial fun _ wd77 H78 hb => ?_
    clear H76
    replace hS := hS.below hb
    clear hb
    exact ⟨_, Nat.lt_succ_self _, v64 ++ (sub y72 1 (ln y72)), w64 (v65 + 1), hm, FrG.keep (ks := [39, 7, 40]) H78 (by kernel_rfl), hS⟩
  ·rintro _ wd83 ⟨H, hS⟩
   replace hS : SH M X w [Ent.tab 0 (Lib.pow10Tab.map fun z => Value.int .u64 z), gE3] _ := hS.sel [1, 2] rfl
   refine s_reg [] [2] [(2, [], .string ⟨⟨z61⟩⟩)] [] H (by kernel_rfl) trivial fun _ wd81 H82 hb => ?_
   clear H
   replace hS := hS.below hb
   clear hb
   refine w_ret ?_
   obtain rfl := someE hm
   exact retR1 H82 rfl rfl ⟨_, rfl, rfl, (hS.sel [] rfl)⟩
theorem parseval_Shown_ok  (m : Nat) (c_ : TColor) (r : Str) (hm : parseval_Shown m c_ = some r) (w : World) (hL : S0 F0 [Ent.tab 0 (Lib.pow10Tab.map fun z => Value.int .u64 z), gE3] w ∧ fpl [Ent.tab 0 (Lib.pow10Tab.map fun z => Value.int .u64 z), gE3] = []) : RetB Tryd.prog 8 ⟨[.agg ⟨[.int .u8 c_.Red, .int .u8 c_.Green, .int .u8 c_.Blue, .int .u8 c_.Alpha]⟩]⟩ (.string ⟨⟨r⟩⟩) w := retB_of hL (Tryd.call8 _) (fun w' h => parseval_Shown_w F0 m   c_ r hm w' h)

theorem x_strings_TrimRight_ok (x0 : Str) (x1 : Str) (r : Str) (hm : x_strings_TrimRight x0 x1 = some r) (w : World) : RetB Tryd.prog 24 ⟨[.string ⟨⟨x0⟩⟩, .string ⟨⟨x1⟩⟩]⟩ (.string ⟨⟨r⟩⟩) w := by
  obtain ⟨h, hm⟩ := chkE hm
  obtain rfl := someE hm
  exact .inl ⟨Tryd.call24 _, fun w' _ => (Any.strings_TrimRight_laid Tryd.lays162 (by kernel_rfl) ⟨⟨x0⟩⟩ ⟨⟨x1⟩⟩ w' h.2.2 h.2.1 (ascB_get h.1)).mono fun e w'' he => ⟨he.1, he.2⟩⟩

theorem parseval_number_w  (M : Av) (n_ : Int) (r : Str) (hm : parseval_number n_ = some r) (w : World) (hS : S0 M [Ent.tab 0 (Lib.pow10Tab.map fun z => Value.int .u64 z)] w) : Calls Tryd.prog 11 ⟨[.int .i64 n_]⟩ w (fun e w' => ∃ v, e = .returned v ∧ v = .string ⟨⟨r⟩⟩ ∧ SH M (fpl [Ent.tab 0 (Lib.pow10Tab.map fun z => Value.int .u64 z)]) w [] w') := by
 rw [parseval_number] at hm
 have hS0 : SH M (fpl [Ent.tab 0 (Lib.pow10Tab.map fun z => Value.int .u64 z)]) w [Ent.tab 0 (Lib.pow10Tab.map fun z => Value.int .u64 z)] w := hS
 generalize hX : fpl [Ent.tab 0 (Lib.pow10Tab.map fun z => Value.int .u64 z)] = X at hS0 ⊢
 clear hS hX
 have hS := hS0
 clear hS0
 refine calls_entryP Tryd.func11 rfl Tryd.ntmps11 rfl fun _ H => ?_
 refine s_reg [] [0] [(0, [], .int .i64 n_)] [] H (by kernel_rfl) trivial fun _ wd1 H2 hb => ?_
 clear H
 replace hS := hS.below hb
 clear hb
 refine s_reg [] [0, 3] [(0, [], .int .i64 n_), (3, [], .string ⟨⟨[]⟩⟩)] [] H2 (by kernel_rfl) trivial fun _ wd3 H4 hb => ?_
 clear H2
 replace hS := hS.below hb
 clear hb
 obtain ⟨z5, hz, hm⟩ := bindE hm
 refine w_cut (fun a' w' => Fr 28 [(0, [], .int .i64 z5.1), (3, [], .string ⟨⟨z5.2⟩⟩)] a' ∧ SH M X w [Ent.tab 0 (Lib.pow10Tab.map fun z => Value.int .u64 z)] w') ?_ ?_
 ·replace hm := hz
  refine s_reg [] [0, 3, 7] [(0, [], .int .i64 n_), (3, [], .string ⟨⟨[]⟩⟩), (7, [], .bool (decide (n_ < 0)))] [] H4 (by kernel_rfl) trivial fun _ wd6 H7 hb => ?_
  clear H4
  replace hS := hS.below hb
  clear hb
  refine w_if H7 rfl (fun hc => ?_) (fun hc => ?c10)
  case c10 =>
   replace hm := bF hc hm
   refine w_skip ?_
   obtain rfl := someE hm
   exact ⟨FrG.keep (ks := [0, 3]) H7 (by kernel_rfl), hS⟩
  replace hm := bT hc hm
  refine w_reg [] [0, 3] [(0, [], .int .i64 (w64 (0 - n_))), (3, [], .string ⟨⟨[45]⟩⟩)] [] H7 (by kernel_rfl) trivial fun _ wd8 H9 hb => ?_
  clear H7
  replace hS := hS.below hb
  clear hb
  obtain rfl := someE hm
  exact ⟨FrG.keep (ks := [0, 3]) H9 (by kernel_rfl), hS⟩
 ·rintro _ wd31 ⟨H, hS⟩
  obtain ⟨y11, hy11, hm⟩ := bindE hm
  refine s_reg [(.string ⟨⟨y11⟩⟩)] [0, 3, 4] [(0, [], .int .i64 z5.1), (3, [], .string ⟨⟨z5.2⟩⟩), (4, [], .string ⟨⟨y11⟩⟩)] [fun _ => (1000 : Int) ≠ 0, fun wz => RetB Tryd.prog 21 ⟨[.int .i64 (w64 (Int.tdiv z5.1 1000)), .int .i64 10]⟩ (.string ⟨⟨y11⟩⟩) wz] H (by kernel_rfl) ⟨(by show (1000 : Int) ≠ 0; decide), (x_FormatInt10_ok _ _ hy11 _ (s0tab s0nil (hS.at 0 rfl))), trivial⟩ fun _ wd12 H13 hb => ?_
  clear H
  replace hS := hS.below hb
  clear hb
  obtain ⟨z14, hz, hm⟩ := bindE hm
  refine w_cut (fun a' w' => Fr 28 [(3, [], .string ⟨⟨z5.2⟩⟩), (4, [], .string ⟨⟨z14⟩⟩)] a' ∧ SH M X w [Ent.tab 0 (Lib.pow10Tab.map fun z => Value.int .u64 z)] w') ?_ ?_
  ·replace hm := hz
   refine s_reg [] [3, 4, 5] [(3, [], .string ⟨⟨z5.2⟩⟩), (4, [], .string ⟨⟨y11⟩⟩), (5, [], .int .i64 (Int.tmod z5.1 1000))] [fun _ => (1000 : Int) ≠ 0] H13 (by kernel_rfl) ⟨(by show (1000 : Int) ≠ 0; decide), trivial⟩ fun _ wd15 H16 hb => ?_
   clear H13
   replace hS := hS.below hb
   clear hb
   refine s_reg [] [3, 4, 5, 16] [(3, [], .string ⟨⟨z5.2⟩⟩), (4, [], .string ⟨⟨y11⟩⟩), (5, [], .int .i64 (Int.tmod z5.1 1000)), (16, [], .bool (decide (0 < (Int.tmod z5.1 1000))))] [] H16 (by kernel_rfl) trivial fun _ wd17 H18 hb => ?_
   clear H16
   replace hS := hS.below hb
   clear hb
   refine w_if H18 rfl (fun hc => ?_) (fun hc => ?c26)
   case c26 =>
    replace hm := bF hc hm
    refine w_skip ?_
    obtain rfl := someE hm
    exact ⟨FrG.keep (ks := [3, 4]) H18 (by kernel_rfl), hS⟩
   replace hm := bT hc hm
   obtain ⟨y19, hy19, hm⟩ := bindE hm
   obtain ⟨ho20, hm⟩ := chkE hm
   obtain ⟨y21, hy21, hm⟩ := bindE hm
   obtain ⟨ho22, hm⟩ := chkE hm
   obtain ⟨ho23, hm⟩ := chkE hm
   refine w_reg [(.string ⟨⟨y19⟩⟩), (.string ⟨⟨y21⟩⟩)] [3, 4] [(3, [], .string ⟨⟨z5.2⟩⟩), (4, [], .string ⟨⟨y11 ++ ([46] ++ y21)⟩⟩)] [fun wz => RetB Tryd.prog 21 ⟨[.int .i64 (w64 (1000 + (Int.tmod z5.1 1000))), .int .i64 10]⟩ (.string ⟨⟨y19⟩⟩) wz, fun _ => 0 ≤ (1 : Int) ∧ (1 : Int) ≤ ln y19, fun wz => RetB Tryd.prog 24 ⟨[.string ⟨⟨sub y19 1 (ln y19)⟩⟩, .string ⟨⟨[48]⟩⟩]⟩ (.string ⟨⟨y21⟩⟩) wz, fun _ => ln [46] + ln y21 ≤ 9223372036854775807, fun _ => ln y11 + ln ([46] ++ y21) ≤ 9223372036854775807] H18 (by kernel_rfl) ⟨(x_FormatInt10_ok _ _ hy19 _ (s0tab s0nil (hS.at 0 rfl))), ho20, (x_strings_TrimRight_ok _ _ _ hy21 _), ho22, ho23, trivial⟩ fun _ wd24 H25 hb => ?_
   clear H18
   replace hS := hS.below hb
   clear hb
   obtain rfl := someE hm
   exact ⟨FrG.keep (ks := [3, 4]) H25 (by kernel_rfl), hS⟩
  ·rintro _ wd30 ⟨H, hS⟩
   obtain ⟨ho27, hm⟩ := chkE hm
   refine s_reg [] [2] [(2, [], .string ⟨⟨z5.2 ++ z14⟩⟩)] [fun _ => ln z5.2 + ln z14 ≤ 9223372036854775807] H (by kernel_rfl) ⟨ho27, trivial⟩ fun _ wd28 H29 hb => ?_
   clear H
   replace hS := hS.below hb
   clear hb
   refine w_ret ?_
   obtain rfl := someE hm
   exact retR1 H29 rfl rfl ⟨_, rfl, rfl, (hS.sel [] rfl)⟩
theorem parseval_number_ok  (n_ : Int) (r : Str) (hm : parseval_number n_ = some r) (w : World) (hL : S0 F0 [Ent.tab 0 (Lib.pow10Tab.map fun z => Value.int .u64 z)] w ∧ fpl [Ent.tab 0 (Lib.pow10Tab.map fun z => Value.int .u64 z)] = []) : RetB Tryd.prog 11 ⟨[.int .i64 n_]⟩ (.string ⟨⟨r⟩⟩) w := retB_of hL (Tryd.call11 _) (fun w' h => parseval_number_w F0   n_ r hm w' h)

theorem parseval_Write_w  (M : Av) (m : Nat) (v_ : TVal) (r : Str × Int) (hm : parseval_Write m v_ = some r) (w : World) (hS : S0 M [Ent.tab 0 (Lib.pow10Tab.map fun z => Value.int .u64 z), gE3] w) : Calls Tryd.prog 4 ⟨[.agg ⟨[.int .u8 v_.Kind, .string ⟨⟨v_.Word⟩⟩, .int .i64 v_.Num, .int .u8 v_.Color.Red, .int .u8 v_.Color.Green, .int .u8 v_.Color.Blue, .int .u8 v_.Color.Alpha]⟩]⟩ w (fun e w' => ∃ v, e = .returned v ∧ v = .tuple ⟨[.string ⟨⟨r.1⟩⟩, .int .i64 r.2]⟩ ∧ SH M (fpl [Ent.tab 0 (Lib.pow10Tab.map fun z => Value.int .u64 z), gE3]) w [] w') := by
 rw [parseval_Write] at hm
 have hS0 : SH M (fpl [Ent.tab 0 (Lib.pow10Tab.map fun z => Value.int .u64 z), gE3]) w [Ent.tab 0 (Lib.pow10Tab.map fun z => Value.int .u64 z), gE3] w := hS
 generalize hX : fpl [Ent.tab 0 (Lib.pow10Tab.map fun z => Value.int .u64 z), gE3] = X at hS0 ⊢
 clear hS hX
 have hS := hS0
 clear hS0
 refine calls_entryP Tryd.func4 rfl Tryd.ntmps4 rfl fun _ H => ?_
 refine w_seq ?_
 refine wl_start ?_
 have hd := hS.hand [] [0, 1] rfl rfl
 refine m_stp [1] [] H rfl rfl rfl rfl (o_box [.int .u8 v_.Kind, .string ⟨⟨v_.Word⟩⟩, .int .i64 v_.Num, .int .u8 v_.Color.Red, .int .u8 v_.Color.Green, .int .u8 v_.Color.Blue, .int .u8 v_.Color.Alpha] H hd rfl rfl) (fun _ => rfl) fun _ wd2 v H3 hq => ?_
 clear H hd
 obtain ⟨b1, rfl, hq⟩ := hq
 replace hS : SH M X w [Ent.blk b1 [.int .u8 v_.Kind, .string ⟨⟨v_.Word⟩⟩, .int .i64 v_.Num, .int .u8 v_.Color.Red, .int .u8 v_.Color.Green, .int .u8 v_.Color.Blue, .int .u8 v_.Color.Alpha], Ent.tab 0 (Lib.pow10Tab.map fun z => Value.int .u64 z), gE3] _ := hS.join [] [0, 1] rfl rfl hq
 clear hq
 refine wl_batch 1 3 [] [1] [(1, [], .pointer (some ⟨b1, 0, none⟩))] [] H3 (by decide) (by kernel_rfl) trivial fun _ wd4 H5 hb => ?_
 clear H3
 replace hS := hS.below hb
 clear hb
 refine wl_end rfl ?_
 refine w_seq ?_
 obtain ⟨y6, hy6, hm⟩ := bindE hm
 refine s_reg [(.agg ⟨[.int .u8 v_.Kind, .string ⟨⟨v_.Word⟩⟩, .int .i64 v_.Num, .int .u8 v_.Color.Red, .int .u8 v_.Color.Green, .int .u8 v_.Color.Blue, .int .u8 v_.Color.Alpha]⟩), (.int .i64 y6)] [1, 4] [(1, [], .pointer (some ⟨b1, 0, none⟩)), (4, [], .int .i64 y6)] [fun wz => V.atN b1 0 [.int .u8 v_.Kind, .string ⟨⟨v_.Word⟩⟩, .int .i64 v_.Num, .int .u8 v_.Color.Red, .int .u8 v_.Color.Green, .int .u8 v_.Color.Blue, .int .u8 v_.Color.Alpha] 0 wz, fun wz => RetB Tryd.prog 10 ⟨[.agg ⟨[.int .u8 v_.Kind, .string ⟨⟨v_.Word⟩⟩, .int .i64 v_.Num, .int .u8 v_.Color.Red, .int .u8 v_.Color.Green, .int .u8 v_.Color.Blue, .int .u8 v_.Color.Alpha]⟩]⟩ (.int .i64 y6) wz] H5 (by kernel_rfl) ⟨((hS.bk 0 rfl).atD rfl), ((props_Check_ok _ _ hy6).b), trivial⟩ fun _ wd7 H8 hb => ?_
 clear H5
 replace hS := hS.below hb
 clear hb
 refine s_reg [] [1, 4, 9] [(1, [], .pointer (some ⟨b1, 0, none⟩)), (4, [], .int .i64 y6), (9, [], .bool (y6 != 0))] [] H8 (by kernel_rfl) trivial fun _ wd9 H10 hb => ?_
 clear H8
 replace hS := hS.below hb
 clear hb
 refine w_if H10 rfl (fun hc => ?c67) (fun hc => ?_)
 case c67 =>
  replace hm := bT hc hm
  refine s_reg [] [2, 3] [(2, [], .string ⟨⟨[]⟩⟩), (3, [], .int .i64 y6)] [] H10 (by kernel_rfl) trivial fun _ wd11 H12 hb => ?_
  clear H10
  replace hS := hS.below hb
  clear hb
  replace hS : SH M X w [Ent.tab 0 (Lib.pow10Tab.map fun z => Value.int .u64 z), gE3] _ := hS.sel [1, 2] rfl
  refine w_ret ?_
  obtain rfl := someE hm
  exact retR2 H12 rfl rfl rfl ⟨_, rfl, rfl, (hS.sel [] rfl)⟩
 replace hm := bF hc hm
 refine w_skip ?_
 refine s_reg [] [1, 5] [(1, [], .pointer (some ⟨b1, 0, none⟩)), (5, [], .string ⟨⟨[]⟩⟩)] [] H10 (by kernel_rfl) trivial fun _ wd13 H14 hb => ?_
 clear H10
 replace hS := hS.below hb
 clear hb
 obtain ⟨z15, hz, hm_z15⟩ := bindE hm
 refine w_cut (fun a' w' => ∃ s_z15 : Str × Int, z15 = Sum.inr s_z15 ∧ Fr 43 [(1, [], .pointer (some ⟨b1, 0, none⟩)), (5, [], .string ⟨⟨s_z15.1⟩⟩)] a' ∧ SH M X w [Ent.blk b1 [.int .u8 v_.Kind, .string ⟨⟨v_.Word⟩⟩, .int .i64 s_z15.2, .int .u8 v_.Color.Red, .int .u8 v_.Color.Green, .int .u8 v_.Color.Blue, .int .u8 v_.Color.Alpha], Ent.tab 0 (Lib.pow10Tab.map fun z => Value.int .u64 z), gE3] w') ?_ ?_
 ·replace hm := hz
  refine s_reg [(.int .u8 v_.Kind)] [1, 5, 12] [(1, [], .pointer (some ⟨b1, 0, none⟩)), (5, [], .string ⟨⟨[]⟩⟩), (12, [], .int .u8 v_.Kind)] [fun wz => V.at1 ⟨b1, 0, none⟩ (.int .u8 v_.Kind) wz] H14 (by kernel_rfl) ⟨((hS.bk 0 rfl).at1 rfl), trivial⟩ fun _ wd16 H17 hb => ?_
  clear H14
  replace hS := hS.below hb
  clear hb
  refine w_block ?_
  refine w_seq ?_
  refine w_block ?_
  refine w_seq ?_
  refine w_block ?_
  obtain ⟨z18, hz, hm_z18⟩ := bindE hm
  refine w_cut (fun a' w' => ∃ s_z18 : Str, z18 = Sum.inr s_z18 ∧ Fr 43 [(1, [], .pointer (some ⟨b1, 0, none⟩)), (5, [], .string ⟨⟨s_z18⟩⟩)] a' ∧ SH M X w [Ent.blk b1 [.int .u8 v_.Kind, .string ⟨⟨v_.Word⟩⟩, .int .i64 v_.Num, .int .u8 v_.Color.Red, .int .u8 v_.Color.Green, .int .u8 v_.Color.Blue, .int .u8 v_.Color.Alpha], Ent.tab 0 (Lib.pow10Tab.map fun z => Value.int .u64 z), gE3] w') ?_ ?_
  ·replace hm := hz
   refine w_block ?_
   refine w_seq ?_
   refine w_block ?_
   refine w_seq ?_
   refine w_block ?_
   refine w_seq ?_
   refine w_block ?_
   refine w_seq ?_
   refine w_block ?_
   refine w_seq ?_
   refine w_seq ?_
   refine s_reg [] [1, 5, 12, 13] [(1, [], .pointer (some ⟨b1, 0, none⟩)), (5, [], .string ⟨⟨[]⟩⟩), (12, [], .int .u8 v_.Kind), (13, [], .bool (v_.Kind == 1))] [] H17 (by kernel_rfl) trivial fun _ wd19 H20 hb => ?_
   clear H17
   replace hS := hS.below hb
   clear hb
   refine w_if H20 rfl (fun hc => ?c57) (fun hc => ?_)
   case c57 =>
    replace hm := bT hc hm
    refine w_exit rfl ?_
    refine w_seq ?_
    refine s_reg [(.string ⟨⟨v_.Word⟩⟩)] [2, 3] [(2, [], .string ⟨⟨v_.Word⟩⟩), (3, [], .int .i64 0)] [fun wz => V.at1 ⟨b1, 1, none⟩ (.string ⟨⟨v_.Word⟩⟩) wz] H20 (by kernel_rfl) ⟨((hS.bk 0 rfl).at1 rfl), trivial⟩ fun _ wd21 H22 hb => ?_
    clear H20
    replace hS := hS.below hb
    clear hb
    refine w_ret ?_
    obtain rfl := someE hm
    have hm := hm_z18
    obtain rfl := someE hm
    have hm := hm_z15
    obtain rfl := someE hm
    exact retR2 H22 rfl rfl rfl ⟨_, rfl, rfl, (hS.sel [] rfl)⟩
   replace hm := bF hc hm
   refine w_skip ?_
   refine w_seq ?_
   refine s_reg [] [1, 5, 12, 15] [(1, [], .pointer (some ⟨b1, 0, none⟩)), (5, [], .string ⟨⟨[]⟩⟩), (12, [], .int .u8 v_.Kind), (15, [], .bool (v_.Kind == 7))] [] H20 (by kernel_rfl) trivial fun _ wd23 H24 hb => ?_
   clear H20
   replace hS := hS.below hb
   clear hb
   refine w_if H24 rfl (fun hc => ?c56) (fun hc => ?_)
   case c56 =>
    replace hm := bT hc hm
    refine w_exit rfl ?_
    refine w_seq ?_
    obtain ⟨y25, hy25, hm⟩ := bindE hm
    refine s_reg [(.agg ⟨[.int .u8 v_.Color.Red, .int .u8 v_.Color.Green, .int .u8 v_.Color.Blue, .int .u8 v_.Color.Alpha]⟩), (.string ⟨⟨y25⟩⟩)] [2, 3] [(2, [], .string ⟨⟨y25⟩⟩), (3, [], .int .i64 0)] [fun wz => V.atN b1 3 [.int .u8 v_.Color.Red, .int .u8 v_.Color.Green, .int .u8 v_.Color.Blue, .int .u8 v_.Color.Alpha] 0 wz, fun wz => RetB Tryd.prog 8 ⟨[.agg ⟨[.int .u8 v_.Color.Red, .int .u8 v_.Color.Green, .int .u8 v_.Color.Blue, .int .u8 v_.Color.Alpha]⟩]⟩ (.string ⟨⟨y25⟩⟩) wz] H24 (by kernel_rfl) ⟨((hS.bk 0 rfl).atD rfl), (parseval_Shown_ok m _ _ hy25 _ (s0tab (s0im s0nil (hS.im 2 rfl)) (hS.at 1 rfl))), trivial⟩ fun _ wd26 H27 hb => ?_
    clear H24
    replace hS := hS.below hb
    clear hb
    refine w_ret ?_
    obtain rfl := someE hm
    have hm := hm_z18
    obtain rfl := someE hm
    have hm := hm_z15
    obtain rfl := someE hm
    exact retR2 H27 rfl rfl rfl ⟨_, rfl, rfl, (hS.sel [] rfl)⟩
   replace hm := bF hc hm
   refine w_skip ?_
   refine w_seq ?_
   refine s_reg [] [1, 5, 12, 17] [(1, [], .pointer (some ⟨b1, 0, none⟩)), (5, [], .string ⟨⟨[]⟩⟩), (12, [], .int .u8 v_.Kind), (17, [], .bool (v_.Kind == 8))] [] H24 (by kernel_rfl) trivial fun _ wd28 H29 hb => ?_
   clear H24
   replace hS := hS.below hb
   clear hb
   refine w_if H29 rfl (fun hc => ?c55) (fun hc => ?_)
   case c55 =>
    replace hm := bT hc hm
    refine w_exit rfl ?_
    refine w_seq ?_
    refine s_reg [] [2, 3] [(2, [], .string ⟨⟨[99, 117, 114, 114, 101, 110, 116, 99, 111, 108, 111, 114]⟩⟩), (3, [], .int .i64 0)] [] H29 (by kernel_rfl) trivial fun _ wd30 H31 hb => ?_
    clear H29
    replace hS := hS.below hb
    clear hb
    refine w_ret ?_
    obtain rfl := someE hm
    have hm := hm_z18
    obtain rfl := someE hm
    have hm := hm_z15
    obtain rfl := someE hm
    exact retR2 H31 rfl rfl rfl ⟨_, rfl, rfl, (hS.sel [] rfl)⟩
   replace hm := bF hc hm
   refine w_skip ?_
   refine w_seq ?_
   refine s_reg [] [1, 5, 12, 19] [(1, [], .pointer (some ⟨b1, 0, none⟩)), (5, [], .string ⟨⟨[]⟩⟩), (12, [], .int .u8 v_.Kind), (19, [], .bool (v_.Kind == 4))] [] H29 (by kernel_rfl) trivial fun _ wd32 H33 hb => ?_
   clear H29
   replace hS := hS.below hb
   clear hb
   refine w_if H33 rfl (fun hc => ?c54) (fun hc => ?_)
   case c54 =>
    replace hm := bT hc hm
    refine w_exit rfl ?_
    refine w_reg [] [1, 5] [(1, [], .pointer (some ⟨b1, 0, none⟩)), (5, [], .string ⟨⟨[114]⟩⟩)] [] H33 (by kernel_rfl) trivial fun _ wd34 H35 hb => ?_
    clear H33
    replace hS := hS.below hb
    clear hb
    obtain rfl := someE hm
    exact ⟨_, rfl, FrG.keep (ks := [1, 5]) H35 (by kernel_rfl), hS⟩
   replace hm := bF hc hm
   refine w_skip ?_
   refine w_seq ?_
   refine s_reg [] [1, 5, 12, 21] [(1, [], .pointer (some ⟨b1, 0, none⟩)), (5, [], .string ⟨⟨[]⟩⟩), (12, [], .int .u8 v_.Kind), (21, [], .bool (v_.Kind == 3))] [] H33 (by kernel_rfl) trivial fun _ wd36 H37 hb => ?_
   clear H33
   replace hS := hS.below hb
   clear hb
   refine w_if H37 rfl (fun hc => ?c53) (fun hc => ?_)
   case c53 =>
    replace hm := bT hc hm
    refine w_exit rfl ?_
    obtain rfl := someE hm
    exact ⟨_, rfl, FrG.keep (ks := [1, 5]) H37 (by kernel_rfl), hS⟩
   replace hm := bF hc hm
   refine w_skip ?_
   refine w_seq ?_
   refine s_reg [] [1, 5, 12, 23] [(1, [], .pointer (some ⟨b1, 0, none⟩)), (5, [], .string ⟨⟨[]⟩⟩), (12, [], .int .u8 v_.Kind), (23, [], .bool (v_.Kind == 2))] [] H37 (by kernel_rfl) trivial fun _ wd38 H39 hb => ?_
   clear H37
   replace hS := hS.below hb
   clear hb
   refine w_if H39 rfl (fun hc => ?c52) (fun hc => ?_)
   case c52 =>
    replace hm := bT hc hm
    refine w_exit rfl ?_
    obtain ⟨r42, hr_r42, hm⟩ := bindE hm
    obtain rfl := someE hm
    have hm := hm_z18
    obtain rfl := someE hm
    have hm := hr_r42
    clear hr_r42
    refine s_reg [] [1, 5] [(1, [], .pointer (some ⟨b1, 0, none⟩)), (5, [], .string ⟨⟨[112, 120]⟩⟩)] [] H39 (by kernel_rfl) trivial fun _ wd40 H41 hb => ?_
    clear H39
    replace hS := hS.below hb
    clear hb
    refine w_exit rfl ?_
    obtain rfl := someE hm
    exact ⟨_, rfl, FrG.keep (ks := [1, 5]) H41 (by kernel_rfl), hS⟩
   replace hm := bF hc hm
   refine w_skip ?_
   refine s_reg [] [1, 5, 25] [(1, [], .pointer (some ⟨b1, 0, none⟩)), (5, [], .string ⟨⟨[]⟩⟩), (25, [], .bool (v_.Kind == 6))] [] H39 (by kernel_rfl) trivial fun _ wd43 H44 hb => ?_
   clear H39
   replace hS := hS.below hb
   clear hb
   refine w_if H44 rfl (fun hc => ?_) (fun hc => ?c51)
   case c51 =>
    replace hm := bF hc hm
    refine w_skip ?_
    refine w_exit rfl ?_
    obtain ⟨r50, hr_r50, hm⟩ := bindE hm
    obtain rfl := someE hm
    have hm := hm_z18
    obtain rfl := someE hm
    have hm := hr_r50
    clear hr_r50
    obtain rfl := someE hm
    exact ⟨_, rfl, FrG.keep (ks := [1, 5]) H44 (by kernel_rfl), hS⟩
   replace hm := bT hc hm
   refine w_exit rfl ?_
   obtain ⟨r49, hr_r49, hm⟩ := bindE hm
   obtain rfl := someE hm
   have hm := hm_z18
   obtain rfl := someE hm
   have hm := hr_r49
   clear hr_r49
   refine w_seq ?_
   refine wl_start ?_
   refine wl_batch 0 4 [(.int .i64 v_.Num)] [1, 5, 36, 37] [(1, [], .pointer (some ⟨b1, 0, none⟩)), (5, [], .string ⟨⟨[]⟩⟩), (36, [], .int .i64 (w64 (v_.Num * 1000))), (37, [], .pointer (some ⟨b1, 2, none⟩))] [fun wz => V.at1 ⟨b1, 2, none⟩ (.int .i64 v_.Num) wz] H44 (by decide) (by kernel_rfl) ⟨((hS.bk 0 rfl).at1 rfl), trivial⟩ fun _ wd45 H46 hb => ?_
   clear H44
   replace hS := hS.below hb
   clear hb
   have hd := hS.hand [0] [1, 2] rfl rfl
   refine m_stp0 [1, 5] [(1, [], .pointer (some ⟨b1, 0, none⟩)), (5, [], .string ⟨⟨[]⟩⟩)] H46 rfl rfl rfl (o_store [.int .u8 v_.Kind, .string ⟨⟨v_.Word⟩⟩, .int .i64 (w64 (v_.Num * 1000)), .int .u8 v_.Color.Red, .int .u8 v_.Color.Green, .int .u8 v_.Color.Blue, .int .u8 v_.Color.Alpha] H46 hd rfl rfl (by kernel_rfl) rfl rfl rfl) rfl fun _ wd47 H48 hq => ?_
   clear H46 hd
   obtain ⟨_, hq⟩ := hq
   replace hS : SH M X w [Ent.blk b1 [.int .u8 v_.Kind, .string ⟨⟨v_.Word⟩⟩, .int .i64 (w64 (v_.Num * 1000)), .int .u8 v_.Color.Red, .int .u8 v_.Color.Green, .int .u8 v_.Color.Blue, .int .u8 v_.Color.Alpha], Ent.tab 0 (Lib.pow10Tab.map fun z => Value.int .u64 z), gE3] _ := hS.join [0] [1, 2] rfl rfl hq
   clear hq
   refine wl_end rfl ?_
   refine w_exit rfl ?_
   obtain rfl := someE hm
   exact ⟨_, rfl, FrG.keep (ks := [1, 5]) H48 (by kernel_rfl), hS⟩
  ·rintro _ wd61 ⟨s_z18, hz, H, hS⟩
   subst hz
   replace hm := sumR hm_z18
   obtain ⟨ho58, hm⟩ := chkE hm
   refine s_reg [] [1, 5] [(1, [], .pointer (some ⟨b1, 0, none⟩)), (5, [], .string ⟨⟨s_z18 ++ [101, 109]⟩⟩)] [fun _ => ln s_z18 + ln [101, 109] ≤ 9223372036854775807] H (by kernel_rfl) ⟨ho58, trivial⟩ fun _ wd59 H60 hb => ?_
   clear H
   replace hS := hS.below hb
   clear hb
   refine w_exit rfl ?_
   obtain rfl := someE hm
   exact ⟨_, rfl, FrG.keep (ks := [1, 5]) H60 (by kernel_rfl), hS⟩
 ·rintro _ wd66 ⟨s_z15, hz, H, hS⟩
  subst hz
  replace hm := sumR hm_z15
  obtain ⟨y62, hy62, hm⟩ := bindE hm
  obtain ⟨ho63, hm⟩ := chkE hm
  refine s_reg [(.int .i64 s_z15.2), (.string ⟨⟨y62⟩⟩)] [2, 3] [(2, [], .string ⟨⟨y62 ++ s_z15.1⟩⟩), (3, [], .int .i64 0)] [fun wz => V.at1 ⟨b1, 2, none⟩ (.int .i64 s_z15.2) wz, fun wz => RetB Tryd.prog 11 ⟨[.int .i64 s_z15.2]⟩ (.string ⟨⟨y62⟩⟩) wz, fun _ => ln y62 + ln s_z15.1 ≤ 9223372036854775807] H (by kernel_rfl) ⟨((hS.bk 0 rfl).at1 rfl), (parseval_number_ok _ _ hy62 _ (s0tab s0nil (hS.at 1 rfl))), ho63, trivial⟩ fun _ wd64 H65 hb => ?_
  clear H
  replace hS := hS.below hb
  clear hb
  replace hS : SH M X w [Ent.tab 0 (Lib.pow10Tab.map fun z => Value.int .u64 z), gE3] _ := hS.sel [1, 2] rfl
  refine w_ret ?_
  obtain rfl := someE hm
  exact retR2 H65 rfl rfl rfl ⟨_, rfl, rfl, (hS.sel [] rfl)⟩
theorem parseval_Write_ok  (m : Nat) (v_ : TVal) (r : Str × Int) (hm : parseval_Write m v_ = some r) (w : World) (hL : S0 F0 [Ent.tab 0 (Lib.pow10Tab.map fun z => Value.int .u64 z), gE3] w ∧ fpl [Ent.tab 0 (Lib.pow10Tab.map fun z => Value.int .u64 z), gE3] = []) : RetB Tryd.prog 4 ⟨[.agg ⟨[.int .u8 v_.Kind, .string ⟨⟨v_.Word⟩⟩, .int .i64 v_.Num, .int .u8 v_.Color.Red, .int .u8 v_.Color.Green, .int .u8 v_.Color.Blue, .int .u8 v_.Color.Alpha]⟩]⟩ (.tuple ⟨[.string ⟨⟨r.1⟩⟩, .int .i64 r.2]⟩) w := retB_of hL (Tryd.call4 _) (fun w' h => parseval_Write_w F0 m   v_ r hm w' h)

theorem r25_Check_w  (M : Av) (v_ : TVal) (r : Int) (hm : r25_Check v_ = some r) (w : World) (hS : S0 M [] w) : Calls Tryd.prog 12 ⟨[.agg ⟨[.int .u8 v_.Kind, .string ⟨⟨v_.Word⟩⟩, .int .i64 v_.Num, .int .u8 v_.Color.Red, .int .u8 v_.Color.Green, .int .u8 v_.Color.Blue, .int .u8 v_.Color.Alpha]⟩]⟩ w (fun e w' => ∃ v, e = .returned v ∧ v = .int .i64 r ∧ SH M (fpl []) w [] w') := by
 rw [r25_Check] at hm
 have hS0 : SH M (fpl []) w [] w := hS
 generalize hX : fpl [] = X at hS0 ⊢
 clear hS hX
 have hS := hS0
 clear hS0
 refine calls_entryP Tryd.func12 rfl Tryd.ntmps12 rfl fun _ H => ?_
 refine w_seq ?_
 refine wl_start ?_
 have hd := hS.hand [] [] rfl rfl
 refine m_stp [1] [] H rfl rfl rfl rfl (o_box [.int .u8 v_.Kind, .string ⟨⟨v_.Word⟩⟩, .int .i64 v_.Num, .int .u8 v_.Color.Red, .int .u8 v_.Color.Green, .int .u8 v_.Color.Blue, .int .u8 v_.Color.Alpha] H hd rfl rfl) (fun _ => rfl) fun _ wd2 v H3 hq => ?_
 clear H hd
 obtain ⟨b1, rfl, hq⟩ := hq
 replace hS : SH M X w [Ent.blk b1 [.int .u8 v_.Kind, .string ⟨⟨v_.Word⟩⟩, .int .i64 v_.Num, .int .u8 v_.Color.Red, .int .u8 v_.Color.Green, .int .u8 v_.Color.Blue, .int .u8 v_.Color.Alpha]] _ := hS.join [] [] rfl rfl hq
 clear hq
 refine wl_batch 1 2 [] [1] [(1, [], .pointer (some ⟨b1, 0, none⟩))] [] H3 (by decide) (by kernel_rfl) trivial fun _ wd4 H5 hb => ?_
 clear H3
 replace hS := hS.below hb
 clear hb
 refine wl_end rfl ?_
 refine w_seq ?_
 refine wl_start ?_
 refine wl_batch 0 3 [(.int .u8 v_.Kind)] [1, 7] [(1, [], .pointer (some ⟨b1, 0, none⟩)), (7, [], .agg ⟨[.int .u8 v_.Kind, .string ⟨⟨[]⟩⟩, .int .i64 0, .int .u8 0, .int .u8 0, .int .u8 0, .int .u8 0]⟩)] [fun wz => V.at1 ⟨b1, 0, none⟩ (.int .u8 v_.Kind) wz] H5 (by decide) (by kernel_rfl) ⟨((hS.bk 0 rfl).at1 rfl), trivial⟩ fun _ wd6 H7 hb => ?_
 clear H5
 replace hS := hS.below hb
 clear hb
 have hd := hS.hand [] [0] rfl rfl
 refine m_stp [3, 1, 7] [(1, [], .pointer (some ⟨b1, 0, none⟩)), (7, [], .agg ⟨[.int .u8 v_.Kind, .string ⟨⟨[]⟩⟩, .int .i64 0, .int .u8 0, .int .u8 0, .int .u8 0, .int .u8 0]⟩)] H7 rfl rfl rfl rfl (o_alloc [.int .u8 0, .string ⟨⟨[]⟩⟩, .int .i64 0, .int .u8 0, .int .u8 0, .int .u8 0, .int .u8 0] (z := .agg ⟨[.int .u8 0, .string ⟨⟨[]⟩⟩, .int .i64 0, .int .u8 0, .int .u8 0, .int .u8 0, .int .u8 0]⟩) hd (by kernel_rfl) rfl) (fun _ => rfl) fun _ wd9 v H10 hq => ?_
 clear H7 hd
 obtain ⟨b8, rfl, hq⟩ := hq
 replace hS : SH M X w [Ent.blk b8 [.int .u8 0, .string ⟨⟨[]⟩⟩, .int .i64 0, .int .u8 0, .int .u8 0, .int .u8 0, .int .u8 0], Ent.blk b1 [.int .u8 v_.Kind, .string ⟨⟨v_.Word⟩⟩, .int .i64 v_.Num, .int .u8 v_.Color.Red, .int .u8 v_.Color.Green, .int .u8 v_.Color.Blue, .int .u8 v_.Color.Alpha]] _ := hS.join [] [0] rfl rfl hq
 clear hq
 have hd := hS.hand [0] [1] rfl rfl
 refine m_stp0 [1, 3] [(1, [], .pointer (some ⟨b1, 0, none⟩)), (3, [], .pointer (some ⟨b8, 0, none⟩))] H10 rfl rfl rfl (o_store [.int .u8 v_.Kind, .string ⟨⟨[]⟩⟩, .int .i64 0, .int .u8 0, .int .u8 0, .int .u8 0, .int .u8 0] H10 hd rfl rfl (by kernel_rfl) rfl rfl rfl) rfl fun _ wd11 H12 hq => ?_
 clear H10 hd
 obtain ⟨_, hq⟩ := hq
 replace hS : SH M X w [Ent.blk b8 [.int .u8 v_.Kind, .string ⟨⟨[]⟩⟩, .int .i64 0, .int .u8 0, .int .u8 0, .int .u8 0, .int .u8 0], Ent.blk b1 [.int .u8 v_.Kind, .string ⟨⟨v_.Word⟩⟩, .int .i64 v_.Num, .int .u8 v_.Color.Red, .int .u8 v_.Color.Green, .int .u8 v_.Color.Blue, .int .u8 v_.Color.Alpha]] _ := hS.join [0] [1] rfl rfl hq
 clear hq
 refine wl_end rfl ?_
 refine s_reg [] [1, 3, 4] [(1, [], .pointer (some ⟨b1, 0, none⟩)), (3, [], .pointer (some ⟨b8, 0, none⟩)), (4, [], .int .i64 1000000000000)] [] H12 (by kernel_rfl) trivial fun _ wd13 H14 hb => ?_
 clear H12
 replace hS := hS.below hb
 clear hb
 obtain ⟨z15, hz, hm_z15⟩ := bindE hm
 refine w_cut (fun a' w' => ∃ s_z15 : Int × Str × Int × Int × Int × Int × Int, z15 = Sum.inr s_z15 ∧ Fr 54 [(1, [], .pointer (some ⟨b1, 0, none⟩)), (3, [], .pointer (some ⟨b8, 0, none⟩)), (4, [], .int .i64 s_z15.1)] a' ∧ SH M X w [Ent.blk b8 [.int .u8 v_.Kind, .string ⟨⟨s_z15.2.1⟩⟩, .int .i64 s_z15.2.2.1, .int .u8 s_z15.2.2.2.1, .int .u8 s_z15.2.2.2.2.1, .int .u8 s_z15.2.2.2.2.2.1, .int .u8 s_z15.2.2.2.2.2.2], Ent.blk b1 [.int .u8 v_.Kind, .string ⟨⟨v_.Word⟩⟩, .int .i64 v_.Num, .int .u8 v_.Color.Red, .int .u8 v_.Color.Green, .int .u8 v_.Color.Blue, .int .u8 v_.Color.Alpha]] w') ?_ ?_
 ·replace hm := hz
  refine s_reg [(.int .u8 v_.Kind)] [1, 3, 4, 9] [(1, [], .pointer (some ⟨b1, 0, none⟩)), (3, [], .pointer (some ⟨b8, 0, none⟩)), (4, [], .int .i64 1000000000000), (9, [], .int .u8 v_.Kind)] [fun wz => V.at1 ⟨b1, 0, none⟩ (.int .u8 v_.Kind) wz] H14 (by kernel_rfl) ⟨((hS.bk 1 rfl).at1 rfl), trivial⟩ fun _ wd16 H17 hb => ?_
  clear H14
  replace hS := hS.below hb
  clear hb
  refine w_block ?_
  refine s_reg [] [1, 3, 4, 9, 10] [(1, [], .pointer (some ⟨b1, 0, none⟩)), (3, [], .pointer (some ⟨b8, 0, none⟩)), (4, [], .int .i64 1000000000000), (9, [], .int .u8 v_.Kind), (10, [], .bool (v_.Kind == 1))] [] H17 (by kernel_rfl) trivial fun _ wd18 H19 hb => ?_
  clear H17
  replace hS := hS.below hb
  clear hb
  refine w_if H19 rfl (fun hc => ?c68) (fun hc => ?_)
  case c68 =>
   replace hm := bT hc hm
   refine w_seq ?_
   refine wl_start ?_
   refine wl_batch 0 3 [(.string ⟨⟨v_.Word⟩⟩)] [1, 3, 4, 13, 14] [(1, [], .pointer (some ⟨b1, 0, none⟩)), (3, [], .pointer (some ⟨b8, 0, none⟩)), (4, [], .int .i64 1000000000000), (13, [], .string ⟨⟨v_.Word⟩⟩), (14, [], .pointer (some ⟨b8, 1, none⟩))] [fun wz => V.at1 ⟨b1, 1, none⟩ (.string ⟨⟨v_.Word⟩⟩) wz] H19 (by decide) (by kernel_rfl) ⟨((hS.bk 1 rfl).at1 rfl), trivial⟩ fun _ wd20 H21 hb => ?_
   clear H19
   replace hS := hS.below hb
   clear hb
   have hd := hS.hand [0] [1] rfl rfl
   refine m_stp0 [1, 3, 4] [(1, [], .pointer (some ⟨b1, 0, none⟩)), (3, [], .pointer (some ⟨b8, 0, none⟩)), (4, [], .int .i64 1000000000000)] H21 rfl rfl rfl (o_store [.int .u8 v_.Kind, .string ⟨⟨v_.Word⟩⟩, .int .i64 0, .int .u8 0, .int .u8 0, .int .u8 0, .int .u8 0] H21 hd rfl rfl (by kernel_rfl) rfl rfl rfl) rfl fun _ wd22 H23 hq => ?_
   clear H21 hd
   obtain ⟨_, hq⟩ := hq
   replace hS : SH M X w [Ent.blk b8 [.int .u8 v_.Kind, .string ⟨⟨v_.Word⟩⟩, .int .i64 0, .int .u8 0, .int .u8 0, .int .u8 0, .int .u8 0], Ent.blk b1 [.int .u8 v_.Kind, .string ⟨⟨v_.Word⟩⟩, .int .i64 v_.Num, .int .u8 v_.Color.Red, .int .u8 v_.Color.Green, .int .u8 v_.Color.Blue, .int .u8 v_.Color.Alpha]] _ := hS.join [0] [1] rfl rfl hq
   clear hq
   refine wl_end rfl ?_
   refine s_reg [(.string ⟨⟨v_.Word⟩⟩)] [1, 3, 4, 17] [(1, [], .pointer (some ⟨b1, 0, none⟩)), (3, [], .pointer (some ⟨b8, 0, none⟩)), (4, [], .int .i64 1000000000000), (17, [], .bool (v_.Word == []))] [fun wz => V.at1 ⟨b1, 1, none⟩ (.string ⟨⟨v_.Word⟩⟩) wz] H23 (by kernel_rfl) ⟨((hS.bk 1 rfl).at1 rfl), trivial⟩ fun _ wd24 H25 hb => ?_
   clear H23
   replace hS := hS.below hb
   clear hb
   refine w_if H25 rfl (fun hc => ?_) (fun hc => ?c28)
   case c28 =>
    replace hm := bF hc hm
    refine w_skip ?_
    obtain rfl := someE hm
    exact ⟨_, rfl, FrG.keep (ks := [1, 3, 4]) H25 (by kernel_rfl), hS⟩
   replace hm := bT hc hm
   refine s_reg [] [2] [(2, [], .int .i64 8)] [] H25 (by kernel_rfl) trivial fun _ wd26 H27 hb => ?_
   clear H25
   replace hS := hS.below hb
   clear hb
   refine w_ret ?_
   obtain rfl := someE hm
   have hm := hm_z15
   obtain rfl := someE hm
   exact retR1 H27 rfl rfl ⟨_, rfl, rfl, (hS.sel [] rfl)⟩
  replace hm := bF hc hm
  obtain ⟨z29, hz, hm⟩ := bindE hm
  refine w_cut (fun a' w' => Fr 54 [(1, [], .pointer (some ⟨b1, 0, none⟩)), (3, [], .pointer (some ⟨b8, 0, none⟩)), (4, [], .int .i64 1000000000000), (9, [], .int .u8 v_.Kind), (18, [], .bool z29)] a' ∧ SH M X w [Ent.blk b8 [.int .u8 v_.Kind, .string ⟨⟨[]⟩⟩, .int .i64 0, .int .u8 0, .int .u8 0, .int .u8 0, .int .u8 0], Ent.blk b1 [.int .u8 v_.Kind, .string ⟨⟨v_.Word⟩⟩, .int .i64 v_.Num, .int .u8 v_.Color.Red, .int .u8 v_.Color.Green, .int .u8 v_.Color.Blue, .int .u8 v_.Color.Alpha]] w') ?_ ?_
  ·replace hm := hz
   refine s_reg [] [1, 3, 4, 9, 18] [(1, [], .pointer (some ⟨b1, 0, none⟩)), (3, [], .pointer (some ⟨b8, 0, none⟩)), (4, [], .int .i64 1000000000000), (9, [], .int .u8 v_.Kind), (18, [], .bool (v_.Kind == 2))] [] H19 (by kernel_rfl) trivial fun _ wd30 H31 hb => ?_
   clear H19
   replace hS := hS.below hb
   clear hb
   refine w_if H31 rfl (fun hc => ?c40) (fun hc => ?_)
   case c40 =>
    replace hm := bT hc hm
    refine w_skip ?_
    obtain rfl := someE hm
    exact ⟨FrG.keep (ks := [1, 3, 4, 9, 18]) H31 (by kernel_rfl), hS⟩
   replace hm := bF hc hm
   refine s_reg [] [1, 3, 4, 9, 18] [(1, [], .pointer (some ⟨b1, 0, none⟩)), (3, [], .pointer (some ⟨b8, 0, none⟩)), (4, [], .int .i64 1000000000000), (9, [], .int .u8 v_.Kind), (18, [], .bool (v_.Kind == 3))] [] H31 (by kernel_rfl) trivial fun _ wd32 H33 hb => ?_
   clear H31
   replace hS := hS.below hb
   clear hb
   refine w_if H33 rfl (fun hc => ?c39) (fun hc => ?_)
   case c39 =>
    replace hm := bT hc hm
    refine w_skip ?_
    obtain rfl := someE hm
    exact ⟨FrG.keep (ks := [1, 3, 4, 9, 18]) H33 (by kernel_rfl), hS⟩
   replace hm := bF hc hm
   refine s_reg [] [1, 3, 4, 9, 18] [(1, [], .pointer (some ⟨b1, 0, none⟩)), (3, [], .pointer (some ⟨b8, 0, none⟩)), (4, [], .int .i64 1000000000000), (9, [], .int .u8 v_.Kind), (18, [], .bool (v_.Kind == 4))] [] H33 (by kernel_rfl) trivial fun _ wd34 H35 hb => ?_
   clear H33
   replace hS := hS.below hb
   clear hb
   refine w_if H35 rfl (fun hc => ?c38) (fun hc => ?_)
   case c38 =>
    replace hm := bT hc hm
    refine w_skip ?_
    obtain rfl := someE hm
    exact ⟨FrG.keep (ks := [1, 3, 4, 9, 18]) H35 (by kernel_rfl), hS⟩
   replace hm := bF hc hm
   refine w_reg [] [1, 3, 4, 9, 18] [(1, [], .pointer (some ⟨b1, 0, none⟩)), (3, [], .pointer (some ⟨b8, 0, none⟩)), (4, [], .int .i64 1000000000000), (9, [], .int .u8 v_.Kind), (18, [], .bool (v_.Kind == 5))] [] H35 (by kernel_rfl) trivial fun _ wd36 H37 hb => ?_
   clear H35
   replace hS := hS.below hb
   clear hb
   obtain rfl := someE hm
   exact ⟨FrG.keep (ks := [1, 3, 4, 9, 18]) H37 (by kernel_rfl), hS⟩
  ·rintro _ wd67 ⟨H, hS⟩
   refine w_if H rfl (fun hc => ?c66) (fun hc => ?_)
   case c66 =>
    replace hm := bT hc hm
    refine wl_start ?_
    refine wl_batch 0 3 [(.int .i64 v_.Num)] [1, 3, 4, 24, 25] [(1, [], .pointer (some ⟨b1, 0, none⟩)), (3, [], .pointer (some ⟨b8, 0, none⟩)), (4, [], .int .i64 1000000000000), (24, [], .int .i64 v_.Num), (25, [], .pointer (some ⟨b8, 2, none⟩))] [fun wz => V.at1 ⟨b1, 2, none⟩ (.int .i64 v_.Num) wz] H (by decide) (by kernel_rfl) ⟨((hS.bk 1 rfl).at1 rfl), trivial⟩ fun _ wd41 H42 hb => ?_
    clear H
    replace hS := hS.below hb
    clear hb
    have hd := hS.hand [0] [1] rfl rfl
    refine m_stp0 [1, 3, 4] [(1, [], .pointer (some ⟨b1, 0, none⟩)), (3, [], .pointer (some ⟨b8, 0, none⟩)), (4, [], .int .i64 1000000000000)] H42 rfl rfl rfl (o_store [.int .u8 v_.Kind, .string ⟨⟨[]⟩⟩, .int .i64 v_.Num, .int .u8 0, .int .u8 0, .int .u8 0, .int .u8 0] H42 hd rfl rfl (by kernel_rfl) rfl rfl rfl) rfl fun _ wd43 H44 hq => ?_
    clear H42 hd
    obtain ⟨_, hq⟩ := hq
    replace hS : SH M X w [Ent.blk b8 [.int .u8 v_.Kind, .string ⟨⟨[]⟩⟩, .int .i64 v_.Num, .int .u8 0, .int .u8 0, .int .u8 0, .int .u8 0], Ent.blk b1 [.int .u8 v_.Kind, .string ⟨⟨v_.Word⟩⟩, .int .i64 v_.Num, .int .u8 v_.Color.Red, .int .u8 v_.Color.Green, .int .u8 v_.Color.Blue, .int .u8 v_.Color.Alpha]] _ := hS.join [0] [1] rfl rfl hq
    clear hq
    refine wl_end rfl ?_
    obtain rfl := someE hm
    exact ⟨_, rfl, FrG.keep (ks := [1, 3, 4]) H44 (by kernel_rfl), hS⟩
   replace hm := bF hc hm
   refine s_reg [] [1, 3, 4, 9, 26] [(1, [], .pointer (some ⟨b1, 0, none⟩)), (3, [], .pointer (some ⟨b8, 0, none⟩)), (4, [], .int .i64 1000000000000), (9, [], .int .u8 v_.Kind), (26, [], .bool (v_.Kind == 6))] [] H (by kernel_rfl) trivial fun _ wd45 H46 hb => ?_
   clear H
   replace hS := hS.below hb
   clear hb
   refine w_if H46 rfl (fun hc => ?c65) (fun hc => ?_)
   case c65 =>
    replace hm := bT hc hm
    refine w_seq ?_
    refine wl_start ?_
    refine wl_batch 0 3 [(.int .i64 v_.Num)] [1, 3, 29, 30] [(1, [], .pointer (some ⟨b1, 0, none⟩)), (3, [], .pointer (some ⟨b8, 0, none⟩)), (29, [], .int .i64 v_.Num), (30, [], .pointer (some ⟨b8, 2, none⟩))] [fun wz => V.at1 ⟨b1, 2, none⟩ (.int .i64 v_.Num) wz] H46 (by decide) (by kernel_rfl) ⟨((hS.bk 1 rfl).at1 rfl), trivial⟩ fun _ wd47 H48 hb => ?_
    clear H46
    replace hS := hS.below hb
    clear hb
    have hd := hS.hand [0] [1] rfl rfl
    refine m_stp0 [1, 3] [(1, [], .pointer (some ⟨b1, 0, none⟩)), (3, [], .pointer (some ⟨b8, 0, none⟩))] H48 rfl rfl rfl (o_store [.int .u8 v_.Kind, .string ⟨⟨[]⟩⟩, .int .i64 v_.Num, .int .u8 0, .int .u8 0, .int .u8 0, .int .u8 0] H48 hd rfl rfl (by kernel_rfl) rfl rfl rfl) rfl fun _ wd49 H50 hq => ?_
    clear H48 hd
    obtain ⟨_, hq⟩ := hq
    replace hS : SH M X w [Ent.blk b8 [.int .u8 v_.Kind, .string ⟨⟨[]⟩⟩, .int .i64 v_.Num, .int .u8 0, .int .u8 0, .int .u8 0, .int .u8 0], Ent.blk b1 [.int .u8 v_.Kind, .string ⟨⟨v_.Word⟩⟩, .int .i64 v_.Num, .int .u8 v_.Color.Red, .int .u8 v_.Color.Green, .int .u8 v_.Color.Blue, .int .u8 v_.Color.Alpha]] _ := hS.join [0] [1] rfl rfl hq
    clear hq
    refine wl_end rfl ?_
    refine w_reg [] [1, 3, 4] [(1, [], .pointer (some ⟨b1, 0, none⟩)), (3, [], .pointer (some ⟨b8, 0, none⟩)), (4, [], .int .i64 1000000000)] [] H50 (by kernel_rfl) trivial fun _ wd51 H52 hb => ?_
    clear H50
    replace hS := hS.below hb
    clear hb
    obtain rfl := someE hm
    exact ⟨_, rfl, FrG.keep (ks := [1, 3, 4]) H52 (by kernel_rfl), hS⟩
   replace hm := bF hc hm
   refine s_reg [] [1, 3, 4, 9, 31] [(1, [], .pointer (some ⟨b1, 0, none⟩)), (3, [], .pointer (some ⟨b8, 0, none⟩)), (4, [], .int .i64 1000000000000), (9, [], .int .u8 v_.Kind), (31, [], .bool (v_.Kind == 7))] [] H46 (by kernel_rfl) trivial fun _ wd53 H54 hb => ?_
   clear H46
   replace hS := hS.below hb
   clear hb
   refine w_if H54 rfl (fun hc => ?c64) (fun hc => ?_)
   case c64 =>
    replace hm := bT hc hm
    refine wl_start ?_
    refine wl_batch 0 3 [(.agg ⟨[.int .u8 v_.Color.Red, .int .u8 v_.Color.Green, .int .u8 v_.Color.Blue, .int .u8 v_.Color.Alpha]⟩)] [1, 3, 4, 34, 35] [(1, [], .pointer (some ⟨b1, 0, none⟩)), (3, [], .pointer (some ⟨b8, 0, none⟩)), (4, [], .int .i64 1000000000000), (34, [], .agg ⟨[.int .u8 v_.Color.Red, .int .u8 v_.Color.Green, .int .u8 v_.Color.Blue, .int .u8 v_.Color.Alpha]⟩), (35, [], .pointer (some ⟨b8, 3, none⟩))] [fun wz => V.atN b1 3 [.int .u8 v_.Color.Red, .int .u8 v_.Color.Green, .int .u8 v_.Color.Blue, .int .u8 v_.Color.Alpha] 0 wz] H54 (by decide) (by kernel_rfl) ⟨((hS.bk 1 rfl).atD rfl), trivial⟩ fun _ wd55 H56 hb => ?_
    clear H54
    replace hS := hS.below hb
    clear hb
    have hd := hS.hand [0] [1] rfl rfl
    refine m_stp0 [1, 3, 4] [(1, [], .pointer (some ⟨b1, 0, none⟩)), (3, [], .pointer (some ⟨b8, 0, none⟩)), (4, [], .int .i64 1000000000000)] H56 rfl rfl rfl (o_store [.int .u8 v_.Kind, .string ⟨⟨[]⟩⟩, .int .i64 0, .int .u8 v_.Color.Red, .int .u8 v_.Color.Green, .int .u8 v_.Color.Blue, .int .u8 v_.Color.Alpha] H56 hd rfl rfl (by kernel_rfl) rfl rfl rfl) rfl fun _ wd57 H58 hq => ?_
    clear H56 hd
    obtain ⟨_, hq⟩ := hq
    replace hS : SH M X w [Ent.blk b8 [.int .u8 v_.Kind, .string ⟨⟨[]⟩⟩, .int .i64 0, .int .u8 v_.Color.Red, .int .u8 v_.Color.Green, .int .u8 v_.Color.Blue, .int .u8 v_.Color.Alpha], Ent.blk b1 [.int .u8 v_.Kind, .string ⟨⟨v_.Word⟩⟩, .int .i64 v_.Num, .int .u8 v_.Color.Red, .int .u8 v_.Color.Green, .int .u8 v_.Color.Blue, .int .u8 v_.Color.Alpha]] _ := hS.join [0] [1] rfl rfl hq
    clear hq
    refine wl_end rfl ?_
    obtain rfl := someE hm
    exact ⟨_, rfl, FrG.keep (ks := [1, 3, 4]) H58 (by kernel_rfl), hS⟩
   replace hm := bF hc hm
   refine s_reg [] [1, 3, 4, 36] [(1, [], .pointer (some ⟨b1, 0, none⟩)), (3, [], .pointer (some ⟨b8, 0, none⟩)), (4, [], .int .i64 1000000000000), (36, [], .bool (v_.Kind == 8))] [] H54 (by kernel_rfl) trivial fun _ wd59 H60 hb => ?_
   clear H54
   replace hS := hS.below hb
   clear hb
   refine w_if H60 rfl (fun hc => ?c63) (fun hc => ?_)
   case c63 =>
    replace hm := bT hc hm
    refine w_skip ?_
    obtain rfl := someE hm
    exact ⟨_, rfl, FrG.keep (ks := [1, 3, 4]) H60 (by kernel_rfl), hS⟩
   replace hm := bF hc hm
   refine s_reg [] [2] [(2, [], .int .i64 8)] [] H60 (by kernel_rfl) trivial fun _ wd61 H62 hb => ?_
   clear H60
   replace hS := hS.below hb
   clear hb
   refine w_ret ?_
   obtain rfl := someE hm
   have hm := hm_z15
   obtain rfl := someE hm
   exact retR1 H62 rfl rfl ⟨_, rfl, rfl, (hS.sel [] rfl)⟩
 ·rintro _ wd79 ⟨s_z15, hz, H, hS⟩
  subst hz
  replace hm := sumR hm_z15
  refine w_seq ?_
  obtain ⟨x69, hx69, hm⟩ := letE hm
  obtain ⟨x70, hx70, hm⟩ := letE hm
  obtain ⟨x71, hx71, hm⟩ := letE hm
  refine s_reg [(.agg ⟨[.int .u8 v_.Kind, .string ⟨⟨v_.Word⟩⟩, .int .i64 v_.Num, .int .u8 v_.Color.Red, .int .u8 v_.Color.Green, .int .u8 v_.Color.Blue, .int .u8 v_.Color.Alpha]⟩), (.agg ⟨[.int .u8 v_.Kind, .string ⟨⟨s_z15.2.1⟩⟩, .int .i64 s_z15.2.2.1, .int .u8 s_z15.2.2.2.1, .int .u8 s_z15.2.2.2.2.1, .int .u8 s_z15.2.2.2.2.2.1, .int .u8 s_z15.2.2.2.2.2.2]⟩), (.int .i64 v_.Num), (.int .i64 v_.Num)] [53] [(53, [], .bool x71)] [fun wz => V.atN b1 0 [.int .u8 v_.Kind, .string ⟨⟨v_.Word⟩⟩, .int .i64 v_.Num, .int .u8 v_.Color.Red, .int .u8 v_.Color.Green, .int .u8 v_.Color.Blue, .int .u8 v_.Color.Alpha] 0 wz, fun wz => V.atN b8 0 [.int .u8 v_.Kind, .string ⟨⟨s_z15.2.1⟩⟩, .int .i64 s_z15.2.2.1, .int .u8 s_z15.2.2.2.1, .int .u8 s_z15.2.2.2.2.1, .int .u8 s_z15.2.2.2.2.2.1, .int .u8 s_z15.2.2.2.2.2.2] 0 wz, fun wz => (x69 = false ∧ True → V.at1 ⟨b1, 2, none⟩ (.int .i64 v_.Num) wz), fun wz => (x70 = false ∧ True → V.at1 ⟨b1, 2, none⟩ (.int .i64 v_.Num) wz)] H (by subst hx69 hx70 hx71; kernel_rfl) ⟨((hS.bk 1 rfl).atD rfl), ((hS.bk 0 rfl).atD rfl), fun hg => (hS.bk 1 rfl).at1 rfl, fun hg => (hS.bk 1 rfl).at1 rfl, trivial⟩ fun _ wd72 H73 hb => ?_
  clear H
  replace hS := hS.below hb
  clear hb
  replace hS : SH M X w [] _ := hS.sel [] rfl
  refine w_if H73 rfl (fun hc => ?c78) (fun hc => ?_)
  case c78 =>
   replace hm := bT hc hm
   refine s_reg [] [2] [(2, [], .int .i64 8)] [] H73 (by kernel_rfl) trivial fun _ wd74 H75 hb => ?_
   clear H73
   replace hS := hS.below hb
   clear hb
   refine w_ret ?_
   obtain rfl := someE hm
   exact retR1 H75 rfl rfl ⟨_, rfl, rfl, (hS.sel [] rfl)⟩
  replace hm := bF hc hm
  refine w_skip ?_
  refine s_reg [] [2] [(2, [], .int .i64 0)] [] H73 (by kernel_rfl) trivial fun _ wd76 H77 hb => ?_
  clear H73
  replace hS := hS.below hb
  clear hb
  refine w_ret ?_
  obtain rfl := someE hm
  exact retR1 H77 rfl rfl ⟨_, rfl, rfl, (hS.sel [] rfl)⟩
theorem r25_Check_ok  (v_ : TVal) (r : Int) (hm : r25_Check v_ = some r) : Ret Tryd.prog 12 ⟨[.agg ⟨[.int .u8 v_.Kind, .string ⟨⟨v_.Word⟩⟩, .int .i64 v_.Num, .int .u8 v_.Color.Red, .int .u8 v_.Color.Green, .int .u8 v_.Color.Blue, .int .u8 v_.Color.Alpha]⟩]⟩ (.int .i64 r) := retP_of (Tryd.call12 _) (fun w h => r25_Check_w F0   v_ r hm w h)

def r26_whole_S (rec_ : Int → Option (Str)) : Prop := ∀  (M : Av) (n_ : Int) (r : Str), rec_ n_ = some r → ∀ w, S0 M [] w → Calls Tryd.prog 22 ⟨[.int .i64 n_]⟩ w (fun e w' => ∃ v, e = .returned v ∧ v = .string ⟨⟨r⟩⟩ ∧ SH M (fpl []) w [] w')
theorem r26_whole_w (m : Nat) : ∀ (k : Nat), r26_whole_S (r26_whole_r m  k) := by
 intro k
 induction k with
 | zero => intro  M n_ r hm; exact noneE hm
 | succ k ih =>
  intro  M n_ r hm w hS
  rw [r26_whole_r] at hm
  have hS0 : SH M (fpl []) w [] w := hS
  generalize hX : fpl [] = X at hS0 ⊢
  clear hS hX
  have hS := hS0
  clear hS0
  refine calls_entryP Tryd.func22 rfl Tryd.ntmps22 rfl fun _ H => ?_
  refine s_reg [] [0] [(0, [], .int .i64 n_)] [] H (by kernel_rfl) trivial fun _ wd1 H2 hb => ?_
  clear H
  replace hS := hS.below hb
  clear hb
  refine w_seq ?_
  refine s_reg [] [0, 4] [(0, [], .int .i64 n_), (4, [], .bool (decide (n_ < 10)))] [] H2 (by kernel_rfl) trivial fun _ wd3 H4 hb => ?_
  clear H2
  replace hS := hS.below hb
  clear hb
  refine w_if H4 rfl (fun hc => ?c23) (fun hc => ?_)
  case c23 =>
   replace hm := bT hc hm
   refine w_seq ?_
   refine wl_start ?_
   refine wl_batch 0 3 [] [7] [(7, [], .int .u8 (wu8 (w64 (48 + n_))))] [] H4 (by decide) (by kernel_rfl) trivial fun _ wd5 H6 hb => ?_
   clear H4
   replace hS := hS.below hb
   clear hb
   have hd := hS.hand [] [] rfl rfl
   refine m_stp [8] [] H6 rfl rfl rfl rfl (o_lit (T := (tI .u8)) (E := 5) (zv := .int .u8 0) [.int .u8 (wu8 (w64 (48 + n_)))] ([wu8 (w64 (48 + n_))] : List Int) [gL []] _ H6 hd rfl (by kernel_rfl) (by kernel_rfl) (by kernel_rfl) (by kernel_rfl) (by kernel_rfl) (by kernel_rfl) (by kernel_rfl) rfl (InnL.cons trivial InnL.nil)) (fun _ => rfl) fun _ wd9 v H10 hq => ?_
   clear H6 hd
   obtain ⟨g7, rfl, hq⟩ := hq
   replace hS : SH M X w [Ent.own 5 (tI .u8) ([wu8 (w64 (48 + n_))] : List Int) g7] _ := hS.join [] [] rfl rfl hq
   clear hq
   refine wl_batch 4 6 [(.string ⟨⟨toB ([wu8 (w64 (48 + n_))] : List Int)⟩⟩)] [2] [(2, [], .string ⟨⟨toB ([wu8 (w64 (48 + n_))] : List Int)⟩⟩)] [fun wz => ∀ w', Below wz.heap.size wz w' → (convert 50 9 (.slice g7.a 1 g7.c)).run Tryd.prog w' = .ok (.string ⟨⟨toB ([wu8 (w64 (48 + n_))] : List Int)⟩⟩) w'] H10 (by decide) (by kernel_rfl) ⟨(conv_slG (E := 5) (by kernel_rfl) (by kernel_rfl) (by kernel_rfl) (hS.osl 0 rfl)), trivial⟩ fun _ wd11 H12 hb => ?_
   clear H10
   replace hS := hS.below hb
   clear hb
   refine wl_end rfl ?_
   replace hS : SH M X w [] _ := hS.sel [] rfl
   refine w_ret ?_
   obtain rfl := someE hm
   exact retR1 H12 rfl rfl ⟨_, rfl, rfl, (hS.sel [] rfl)⟩
  replace hm := bF hc hm
  refine w_skip ?_
  obtain ⟨y14, hy14, hm⟩ := bindE hm
  obtain ⟨x17, hx17, hm⟩ := letE hm
  obtain ⟨ho18, hm⟩ := chkE hm
  refine s_drawS (base := [(0, [], .int .i64 n_)]) (L := []) 11 0 (fun yg13 => [.int .i64 n_, .int .i64 (w64 (Int.tdiv n_ 10)), .string ⟨⟨y14⟩⟩, .int .i64 n_, .int .i64 (Int.tmod n_ 10), .int .i64 (w64 (48 + (Int.tmod n_ 10))), .int .u8 (wu8 (w64 (48 + (Int.tmod n_ 10)))), .slice (yg13 7 0).a 1 (yg13 7 0).c, .string ⟨⟨x17⟩⟩, .string ⟨⟨y14 ++ x17⟩⟩, .string ⟨⟨y14 ++ x17⟩⟩]) (fun yg13 => [[], [], [], [], [], [], [], [Ent.own 5 (tI .u8) ([wu8 (w64 (48 + (Int.tmod n_ 10)))] : List Int) (yg13 7 0)], [], [], []]) [[], [], [], [], [], [], [], [], [7], [], []] [[], [], [], [], [], [], [], [], [], [], []] [[0], [0, 1], [0, 1, 2], [3], [3, 4], [3, 4, 5], [3, 4, 5, 6], [3, 4, 5, 6, 7], [3, 4, 5, 6, 7, 8], [0, 1, 2, 3, 4, 5, 6, 7, 8, 9], [0, 1, 2, 3, 4, 5, 6, 7, 8, 9, 10]] [] (FrG.keep (ks := [0]) H4 (by kernel_rfl)) (fun _ _ h => by cases h) (by kernel_rfl) hS (by kernel_rfl) rfl rfl (by kernel_rfl) (by kernel_rfl) (by kernel_rfl) (gd_none (by kernel_rfl) _ _) ?hloc_yg13 ?hstep_yg13 fun _ wd19 yg13 H20 hv hS => ?hK_yg13
  case hloc_yg13 => exact ⟨(fun _ _ _ _ => ⟨rfl, rfl⟩), (fun _ _ _ _ => ⟨rfl, rfl⟩), (fun _ _ _ _ => ⟨rfl, rfl⟩), (fun _ _ _ _ => ⟨rfl, rfl⟩), (fun _ _ _ _ => ⟨rfl, rfl⟩), (fun _ _ _ _ => ⟨rfl, rfl⟩), (fun _ _ _ _ => ⟨rfl, rfl⟩), (fun yg13 i g hi => by have h7 : updC yg13 i g 7 = yg13 7 := updC_out hi rfl; exact ⟨(show (.slice ((updC yg13 i g) 7 0).a 1 ((updC yg13 i g) 7 0).c : Value) = .slice (yg13 7 0).a 1 (yg13 7 0).c by simp only [h7]), (show ([Ent.own 5 (tI .u8) ([wu8 (w64 (48 + (Int.tmod n_ 10)))] : List Int) ((updC yg13 i g) 7 0)] : List Ent) = [Ent.own 5 (tI .u8) ([wu8 (w64 (48 + (Int.tmod n_ 10)))] : List Int) (yg13 7 0)] by simp only [h7])⟩), (fun _ _ _ _ => ⟨rfl, rfl⟩), (fun _ _ _ _ => ⟨rfl, rfl⟩), (fun _ _ _ _ => ⟨rfl, rfl⟩), trivial⟩
  case hstep_yg13 =>
   refine ⟨?_, ?_, ?_, ?_, ?_, ?_, ?_, ?_, ?_, ?_, ?_, trivial⟩
   ·intro o ho a w yg13 M Hb hv hO hS
    obtain rfl := Option.some.inj ho
    exact Stp.mono (o_evs [] (.int .i64 n_) none [] Hb rfl (by kernel_rfl) (fun q e => by cases e)) fun _ _ hq => ⟨gL [], fun _ _ => hq.1, (hS.below hq.2.below).sel [] rfl⟩
   ·intro o ho a w yg13 M Hb hv hO hS
    obtain rfl := Option.some.inj ho
    exact Stp.mono (o_evs [] (.int .i64 (w64 (Int.tdiv n_ 10))) (some (fun _ => (10 : Int) ≠ 0)) [] ((Hb).add (hv 0 (by decide) (by decide) 10 rfl)) rfl (by kernel_rfl) (fun q e => by cases e; exact (by show (10 : Int) ≠ 0; decide))) fun _ _ hq => ⟨gL [], fun _ _ => hq.1, (hS.below hq.2.below).sel [] rfl⟩
   ·intro o ho a w yg13 M Hb hv hO hS
    obtain rfl := Option.some.inj ho
    exact Stp.mono (o_evs [(.string ⟨⟨y14⟩⟩)] (.string ⟨⟨y14⟩⟩) (some (fun wz => RetB Tryd.prog 22 ⟨[.int .i64 (w64 (Int.tdiv n_ 10))]⟩ (.string ⟨⟨y14⟩⟩) wz)) [] ((Hb).add (hv 1 (by decide) (by decide) 11 rfl)) rfl (by kernel_rfl) (fun q e => by cases e; exact (retB_of s0nil (Tryd.call22 _) (fun w' h' => ih  F0 _ _ hy14 w' h')))) fun _ _ hq => ⟨gL [], fun _ _ => hq.1, (hS.below hq.2.below).sel [] rfl⟩
   ·intro o ho a w yg13 M Hb hv hO hS
    obtain rfl := Option.some.inj ho
    exact Stp.mono (o_evs [] (.int .i64 n_) none [] Hb rfl (by kernel_rfl) (fun q e => by cases e)) fun _ _ hq => ⟨gL [], fun _ _ => hq.1, (hS.below hq.2.below).sel [] rfl⟩
   ·intro o ho a w yg13 M Hb hv hO hS
    obtain rfl := Option.some.inj ho
    exact Stp.mono (o_evs [] (.int .i64 (Int.tmod n_ 10)) (some (fun _ => (10 : Int) ≠ 0)) [] ((Hb).add (hv 3 (by decide) (by decide) 13 rfl)) rfl (by kernel_rfl) (fun q e => by cases e; exact (by show (10 : Int) ≠ 0; decide))) fun _ _ hq => ⟨gL [], fun _ _ => hq.1, (hS.below hq.2.below).sel [] rfl⟩
   ·intro o ho a w yg13 M Hb hv hO hS
    obtain rfl := Option.some.inj ho
    exact Stp.mono (o_evs [] (.int .i64 (w64 (48 + (Int.tmod n_ 10)))) none [] ((Hb).add (hv 4 (by decide) (by decide) 14 rfl)) rfl (by kernel_rfl) (fun q e => by cases e)) fun _ _ hq => ⟨gL [], fun _ _ => hq.1, (hS.below hq.2.below).sel [] rfl⟩
   ·intro o ho a w yg13 M Hb hv hO hS
    obtain rfl := Option.some.inj ho
    exact Stp.mono (o_evs [] (.int .u8 (wu8 (w64 (48 + (Int.tmod n_ 10))))) none [] ((Hb).add (hv 5 (by decide) (by decide) 15 rfl)) rfl (by kernel_rfl) (fun q e => by cases e)) fun _ _ hq => ⟨gL [], fun _ _ => hq.1, (hS.below hq.2.below).sel [] rfl⟩
   ·intro o ho a w yg13 M Hb hv hO hS0
    obtain rfl := Option.some.inj ho
    have H : Fr 20 ([(16, [], .int .u8 (wu8 (w64 (48 + (Int.tmod n_ 10)))))] ++ [(0, [], .int .i64 n_)]) _ := (Hb).add (hv 6 (by decide) (by decide) 16 rfl)
    obtain ⟨X, hX⟩ : ∃ X, X = fpl [] := ⟨_, rfl⟩
    have hS : SH M X w [] w := by rw [hX]; exact hS0
    have hd := hS.hand [] [] rfl rfl
    refine Stp.mono (o_lit (T := (tI .u8)) (E := 5) (zv := .int .u8 0) [.int .u8 (wu8 (w64 (48 + (Int.tmod n_ 10))))] ([wu8 (w64 (48 + (Int.tmod n_ 10)))] : List Int) [gL []] _ H hd rfl (by kernel_rfl) (by kernel_rfl) (by kernel_rfl) (by kernel_rfl) (by kernel_rfl) (by kernel_rfl) (by kernel_rfl) rfl (InnL.cons trivial InnL.nil)) ?_
    rintro v w2 hq
    obtain ⟨g15, rfl, hq⟩ := hq
    replace hS : SH M X w [Ent.own 5 (tI .u8) ([wu8 (w64 (48 + (Int.tmod n_ 10)))] : List Int) g15] _ := hS.join [] [] rfl rfl hq
    clear hq
    rw [hX] at hS
    exact ⟨gL [g15], fun _ _ => rfl, hS.sel [0] rfl⟩
   ·intro o ho a w yg13 M Hb hv hO hS
    obtain rfl := Option.some.inj ho
    exact Stp.mono (o_evs [(.string ⟨⟨toB ([wu8 (w64 (48 + (Int.tmod n_ 10)))] : List Int)⟩⟩)] (.string ⟨⟨x17⟩⟩) (some (fun wz => ∀ w', Below wz.heap.size wz w' → (convert 50 9 (.slice (yg13 7 0).a 1 (yg13 7 0).c)).run Tryd.prog w' = .ok (.string ⟨⟨toB ([wu8 (w64 (48 + (Int.tmod n_ 10)))] : List Int)⟩⟩) w')) [] ((Hb).add (hv 7 (by decide) (by decide) 17 rfl)) rfl (by subst hx17; kernel_rfl) (fun q e => by cases e; exact (conv_slG (E := 5) (by kernel_rfl) (by kernel_rfl) (by kernel_rfl) (hS.osl 0 rfl)))) fun _ _ hq => ⟨gL [], fun _ _ => hq.1, (hS.below hq.2.below).sel [0] rfl⟩
   ·intro o ho a w yg13 M Hb hv hO hS
    obtain rfl := Option.some.inj ho
    exact Stp.mono (o_evs [] (.string ⟨⟨y14 ++ x17⟩⟩) (some (fun _ => ln y14 + ln x17 ≤ 9223372036854775807)) [] (((Hb).add (hv 2 (by decide) (by decide) 12 rfl)).add (hv 8 (by decide) (by decide) 18 rfl)) rfl (by kernel_rfl) (fun q e => by cases e; exact ho18)) fun _ _ hq => ⟨gL [], fun _ _ => hq.1, (hS.below hq.2.below).sel [] rfl⟩
   ·intro o ho a w yg13 M Hb hv hO hS
    obtain rfl := Option.some.inj ho
    exact Stp.mono (o_evs [] (.string ⟨⟨y14 ++ x17⟩⟩) none [] ((Hb).add (hv 9 (by decide) (by decide) 19 rfl)) rfl (by kernel_rfl) (fun q e => by cases e)) fun _ _ hq => ⟨gL [], fun _ _ => hq.1, (hS.below hq.2.below).sel [] rfl⟩
  have H21 : Fr 20 [(2, [], .string ⟨⟨y14 ++ x17⟩⟩)] _ := (FrG.add (FrG.keep (ks := []) H20 (by kernel_rfl)) (hv 10 2 rfl))
  replace hS : SH M X w [Ent.own 5 (tI .u8) ([wu8 (w64 (48 + (Int.tmod n_ 10)))] : List Int) (yg13 7 0)] _ := hS
  clear hv H20
  generalize yg13 7 0 = g22 at H21 hS
  replace hS : SH M X w [] _ := hS.sel [] rfl
  refine w_ret ?_
  obtain rfl := someE hm
  exact retR1 H21 rfl rfl ⟨_, rfl, rfl, (hS.sel [] rfl)⟩
theorem r26_whole_ok  (m : Nat) (n_ : Int) (r : Str) (hm : r26_whole m n_ = some r) : Ret Tryd.prog 22 ⟨[.int .i64 n_]⟩ (.string ⟨⟨r⟩⟩) := retP_of (Tryd.call22 _) (fun w h => r26_whole_w m   m  F0 n_ r hm w h)

def r26_Thousandths_S (rec_ : Int → Option (Str)) : Prop := ∀  (M : Av) (n_ : Int) (r : Str), rec_ n_ = some r → ∀ w, S0 M [] w → Calls Tryd.prog 25 ⟨[.int .i64 n_]⟩ w (fun e w' => ∃ v, e = .returned v ∧ v = .string ⟨⟨r⟩⟩ ∧ SH M (fpl []) w [] w')
theorem r26_Thousandths_w (m : Nat) : ∀ (k : Nat), r26_Thousandths_S (r26_Thousandths_r m  k) := by
 intro k
 induction k with
 | zero => intro  M n_ r hm; exact noneE hm
 | succ k ih =>
  intro  M n_ r hm w hS
  rw [r26_Thousandths_r] at hm
  have hS0 : SH M (fpl []) w [] w := hS
  generalize hX : fpl [] = X at hS0 ⊢
  clear hS hX
  have hS := hS0
  clear hS0
  refine calls_entryP Tryd.func25 rfl Tryd.ntmps25 rfl fun _ H => ?_
  refine s_reg [] [0] [(0, [], .int .i64 n_)] [] H (by kernel_rfl) trivial fun _ wd1 H2 hb => ?_
  clear H
  replace hS := hS.below hb
  clear hb
  refine w_seq ?_
  refine s_reg [] [0, 6] [(0, [], .int .i64 n_), (6, [], .bool (decide (n_ < 0)))] [] H2 (by kernel_rfl) trivial fun _ wd3 H4 hb => ?_
  clear H2
  replace hS := hS.below hb
  clear hb
  refine w_if H4 rfl (fun hc => ?c36) (fun hc => ?_)
  case c36 =>
   replace hm := bT hc hm
   obtain ⟨y5, hy5, hm⟩ := bindE hm
   obtain ⟨ho6, hm⟩ := chkE hm
   refine s_reg [(.string ⟨⟨y5⟩⟩)] [2] [(2, [], .string ⟨⟨[45] ++ y5⟩⟩)] [fun wz => RetB Tryd.prog 25 ⟨[.int .i64 (w64 (0 - n_))]⟩ (.string ⟨⟨y5⟩⟩) wz, fun _ => ln [45] + ln y5 ≤ 9223372036854775807] H4 (by kernel_rfl) ⟨(retB_of s0nil (Tryd.call25 _) (fun w' h' => ih  F0 _ _ hy5 w' h')), ho6, trivial⟩ fun _ wd7 H8 hb => ?_
   clear H4
   replace hS := hS.below hb
   clear hb
   refine w_ret ?_
   obtain rfl := someE hm
   exact retR1 H8 rfl rfl ⟨_, rfl, rfl, (hS.sel [] rfl)⟩
  replace hm := bF hc hm
  refine w_skip ?_
  obtain ⟨y9, hy9, hm⟩ := bindE hm
  refine s_reg [(.string ⟨⟨y9⟩⟩)] [0, 3] [(0, [], .int .i64 n_), (3, [], .string ⟨⟨y9⟩⟩)] [fun _ => (1000 : Int) ≠ 0, fun wz => RetB Tryd.prog 22 ⟨[.int .i64 (w64 (Int.tdiv n_ 1000))]⟩ (.string ⟨⟨y9⟩⟩) wz] H4 (by kernel_rfl) ⟨(by show (1000 : Int) ≠ 0; decide), ((r26_whole_ok m _ _ hy9).b), trivial⟩ fun _ wd10 H11 hb => ?_
  clear H4
  replace hS := hS.below hb
  clear hb
  refine w_seq ?_
  refine s_reg [] [0, 3, 16] [(0, [], .int .i64 n_), (3, [], .string ⟨⟨y9⟩⟩), (16, [], .bool ((Int.tmod n_ 1000) == 0))] [fun _ => (1000 : Int) ≠ 0] H11 (by kernel_rfl) ⟨(by show (1000 : Int) ≠ 0; decide), trivial⟩ fun _ wd12 H13 hb => ?_
  clear H11
  replace hS := hS.below hb
  clear hb
  refine w_if H13 rfl (fun hc => ?c35) (fun hc => ?_)
  case c35 =>
   replace hm := bT hc hm
   refine s_reg [] [2] [(2, [], .string ⟨⟨y9⟩⟩)] [] H13 (by kernel_rfl) trivial fun _ wd14 H15 hb => ?_
   clear H13
   replace hS := hS.below hb
   clear hb
   refine w_ret ?_
   obtain rfl := someE hm
   exact retR1 H15 rfl rfl ⟨_, rfl, rfl, (hS.sel [] rfl)⟩
  replace hm := bF hc hm
  refine w_skip ?_
  obtain ⟨y16, hy16, hm⟩ := bindE hm
  obtain ⟨ho17, hm⟩ := chkE hm
  refine s_reg [(.string ⟨⟨y16⟩⟩)] [3, 4] [(3, [], .string ⟨⟨y9⟩⟩), (4, [], .string ⟨⟨sub y16 1 (ln y16)⟩⟩)] [fun _ => (1000 : Int) ≠ 0, fun wz => RetB Tryd.prog 22 ⟨[.int .i64 (w64 (1000 + (Int.tmod n_ 1000)))]⟩ (.string ⟨⟨y16⟩⟩) wz, fun _ => 0 ≤ (1 : Int) ∧ (1 : Int) ≤ ln y16] H13 (by kernel_rfl) ⟨(by show (1000 : Int) ≠ 0; decide), ((r26_whole_ok m _ _ hy16).b), ho17, trivial⟩ fun _ wd18 H19 hb => ?_
  clear H13
  replace hS := hS.below hb
  clear hb
  obtain ⟨z20, hz, hm⟩ := bindE hm
  refine w_cut (fun a' w' => Fr 38 [(3, [], .string ⟨⟨y9⟩⟩), (4, [], .string ⟨⟨z20⟩⟩)] a' ∧ SH M X w [] w') ?_ ?_
  ·replace hm := hz
   refine w_block ?_
   refine w_loop (fun kk a' w' => ∃ (v21 : Str), r26_Thousandths_L1 m  kk v21 = some _ ∧ Fr 38 [(3, [], .string ⟨⟨y9⟩⟩), (4, [], .string ⟨⟨v21⟩⟩)] a' ∧ SH M X w [] w') ⟨_, sub y16 1 (ln y16), hm, FrG.keep (ks := [3, 4]) H19 (by kernel_rfl), hS⟩ ?_
   clear hm H19 hS
   rintro kk _ wd29 ⟨v21, hm, H, hS⟩
   cases kk with
   | zero => exact noneE hm
   | succ kk =>
    rw [r26_Thousandths_L1] at hm
    refine w_seq ?_
    obtain ⟨ho22, hm⟩ := chkE hm
    refine s_reg [] [3, 4, 28] [(3, [], .string ⟨⟨y9⟩⟩), (4, [], .string ⟨⟨v21⟩⟩), (28, [], .bool ((bat v21 (w64 ((ln v21) - 1))) == 48))] [fun _ => 0 ≤ (w64 ((ln v21) - 1)) ∧ (w64 ((ln v21) - 1)) < ln v21] H (by kernel_rfl) ⟨ho22, trivial⟩ fun _ wd23 H24 hb => ?_
    clear H
    replace hS := hS.below hb
    clear hb
    refine w_if H24 rfl (fun hc => ?_) (fun hc => ?c28)
    case c28 =>
     replace hm := bF hc hm
     refine w_exit rfl ?_
     obtain rfl := someE hm
     exact ⟨FrG.keep (ks := [3, 4]) H24 (by kernel_rfl), hS⟩
    replace hm := bT hc hm
    refine w_skip ?_
    refine w_block ?_
    obtain ⟨ho25, hm⟩ := chkE hm
    refine w_reg [] [3, 4] [(3, [], .string ⟨⟨y9⟩⟩), (4, [], .string ⟨⟨sub v21 0 (w64 ((ln v21) - 1))⟩⟩)] [fun _ => 0 ≤ (w64 ((ln v21) - 1)) ∧ (w64 ((ln v21) - 1)) ≤ ln v21] H24 (by kernel_rfl) ⟨ho25, trivial⟩ fun _ wd26 H27 hb => ?_
    clear H24
    replace hS := hS.below hb
    clear hb
    exact ⟨_, Nat.lt_succ_self _, sub v21 0 (w64 ((ln v21) - 1)), hm, FrG.keep (ks := [3, 4]) H27 (by kernel_rfl), hS⟩
  ·rintro _ wd34 ⟨H, hS⟩
   obtain ⟨ho30, hm⟩ := chkE hm
   obtain ⟨ho31, hm⟩ := chkE hm
   refine s_reg [] [2] [(2, [], .string ⟨⟨(y9 ++ [46]) ++ z20⟩⟩)] [fun _ => ln y9 + ln [46] ≤ 9223372036854775807, fun _ => ln (y9 ++ [46]) + ln z20 ≤ 9223372036854775807] H (by kernel_rfl) ⟨ho30, ho31, trivial⟩ fun _ wd32 H33 hb => ?_
   clear H
   replace hS := hS.below hb
   clear hb
   refine w_ret ?_
   obtain rfl := someE hm
   exact retR1 H33 rfl rfl ⟨_, rfl, rfl, (hS.sel [] rfl)⟩
theorem r26_Thousandths_ok  (m : Nat) (n_ : Int) (r : Str) (hm : r26_Thousandths m n_ = some r) : Ret Tryd.prog 25 ⟨[.int .i64 n_]⟩ (.string ⟨⟨r⟩⟩) := retP_of (Tryd.call25 _) (fun w h => r26_Thousandths_w m   m  F0 n_ r hm w h)

theorem r26_two_w  (M : Av) (n_ : Int) (r : Str) (hm : r26_two n_ = some r) (w : World) (hS : S0 M [] w) : Calls Tryd.prog 23 ⟨[.int .u8 n_]⟩ w (fun e w' => ∃ v, e = .returned v ∧ v = .string ⟨⟨r⟩⟩ ∧ SH M (fpl []) w [] w') := by
 rw [r26_two] at hm
 have hS0 : SH M (fpl []) w [] w := hS
 generalize hX : fpl [] = X at hS0 ⊢
 clear hS hX
 have hS := hS0
 clear hS0
 refine calls_entryP Tryd.func23 rfl Tryd.ntmps23 rfl fun _ H => ?_
 refine s_reg [] [0] [(0, [], .int .u8 n_)] [] H (by kernel_rfl) trivial fun _ wd1 H2 hb => ?_
 clear H
 replace hS := hS.below hb
 clear hb
 obtain ⟨ho3, hm⟩ := chkE hm
 obtain ⟨x4, hx4, hm⟩ := letE hm
 obtain ⟨ho5, hm⟩ := chkE hm
 obtain ⟨x6, hx6, hm⟩ := letE hm
 obtain ⟨ho7, hm⟩ := chkE hm
 refine s_draw [] [2] [(2, [], .string ⟨⟨x4 ++ x6⟩⟩)] [fun _ => (16 : Int) ≠ 0, fun _ => (16 : Int) ≠ 0, fun _ => 0 ≤ (wu8 (Int.tdiv n_ 16)) ∧ (wu8 (Int.tdiv n_ 16)) ≤ (wu8 ((wu8 (Int.tdiv n_ 16)) + 1)) ∧ (wu8 ((wu8 (Int.tdiv n_ 16)) + 1)) ≤ ln [48, 49, 50, 51, 52, 53, 54, 55, 56, 57, 97, 98, 99, 100, 101, 102], fun _ => (16 : Int) ≠ 0, fun _ => (16 : Int) ≠ 0, fun _ => 0 ≤ (Int.tmod n_ 16) ∧ (Int.tmod n_ 16) ≤ (wu8 ((Int.tmod n_ 16) + 1)) ∧ (wu8 ((Int.tmod n_ 16) + 1)) ≤ ln [48, 49, 50, 51, 52, 53, 54, 55, 56, 57, 97, 98, 99, 100, 101, 102], fun _ => ln x4 + ln x6 ≤ 9223372036854775807] H2 (by kernel_rfl) (by kernel_rfl) (by subst hx4 hx6; kernel_rfl) ⟨(by show (16 : Int) ≠ 0; decide), (by show (16 : Int) ≠ 0; decide), ho3, (by show (16 : Int) ≠ 0; decide), (by show (16 : Int) ≠ 0; decide), ho5, ho7, trivial⟩ fun _ wd8 H9 hb => ?_
 clear H2
 replace hS := hS.below hb
 clear hb
 refine w_ret ?_
 obtain rfl := someE hm
 exact retR1 H9 rfl rfl ⟨_, rfl, rfl, (hS.sel [] rfl)⟩
theorem r26_two_ok  (n_ : Int) (r : Str) (hm : r26_two n_ = some r) : Ret Tryd.prog 23 ⟨[.int .u8 n_]⟩ (.string ⟨⟨r⟩⟩) := retP_of (Tryd.call23 _) (fun w h => r26_two_w F0   n_ r hm w h)

theorem r26_Shown_w  (M : Av) (m : Nat) (c_ : TColor) (r : Str) (hm : r26_Shown m c_ = some r) (w : World) (hS : S0 M [] w) : Calls Tryd.prog 9 ⟨[.agg ⟨[.int .u8 c_.Red, .int .u8 c_.Green, .int .u8 c_.Blue, .int .u8 c_.Alpha]⟩]⟩ w (fun e w' => ∃ v, e = .returned v ∧ v = .string ⟨⟨r⟩⟩ ∧ SH M (fpl []) w [] w') := by
 rw [r26_Shown] at hm
 have hS0 : SH M (fpl []) w [] w := hS
 generalize hX : fpl [] = X at hS0 ⊢
 clear hS hX
 have hS := hS0
 clear hS0
 refine calls_entryP Tryd.func9 rfl Tryd.ntmps9 rfl fun _ H => ?_
 refine w_seq ?_
 refine wl_start ?_
 have hd := hS.hand [] [] rfl rfl
 refine m_stp [1] [] H rfl rfl rfl rfl (o_box [.int .u8 c_.Red, .int .u8 c_.Green, .int .u8 c_.Blue, .int .u8 c_.Alpha] H hd rfl rfl) (fun _ => rfl) fun _ wd2 v H3 hq => ?_
 clear H hd
 obtain ⟨b1, rfl, hq⟩ := hq
 replace hS : SH M X w [Ent.blk b1 [.int .u8 c_.Red, .int .u8 c_.Green, .int .u8 c_.Blue, .int .u8 c_.Alpha]] _ := hS.join [] [] rfl rfl hq
 clear hq
 refine wl_batch 1 2 [] [1] [(1, [], .pointer (some ⟨b1, 0, none⟩))] [] H3 (by decide) (by kernel_rfl) trivial fun _ wd4 H5 hb => ?_
 clear H3
 replace hS := hS.below hb
 clear hb
 refine wl_end rfl ?_
 refine w_seq ?_
 refine s_reg [(.int .u8 c_.Alpha)] [1, 5] [(1, [], .pointer (some ⟨b1, 0, none⟩)), (5, [], .bool (c_.Alpha == 255))] [fun wz => V.at1 ⟨b1, 3, none⟩ (.int .u8 c_.Alpha) wz] H5 (by kernel_rfl) ⟨((hS.bk 0 rfl).at1 rfl), trivial⟩ fun _ wd6 H7 hb => ?_
 clear H5
 replace hS := hS.below hb
 clear hb
 refine w_if H7 rfl (fun hc => ?_) (fun hc => ?c30)
 case c30 =>
  replace hm := bF hc hm
  refine w_skip ?_
  obtain ⟨y20, hy20, hm⟩ := bindE hm
  obtain ⟨ho21, hm⟩ := chkE hm
  obtain ⟨y22, hy22, hm⟩ := bindE hm
  obtain ⟨ho23, hm⟩ := chkE hm
  obtain ⟨y24, hy24, hm⟩ := bindE hm
  obtain ⟨ho25, hm⟩ := chkE hm
  obtain ⟨y26, hy26, hm⟩ := bindE hm
  obtain ⟨ho27, hm⟩ := chkE hm
  refine s_draw [(.int .u8 c_.Red), (.string ⟨⟨y20⟩⟩), (.int .u8 c_.Green), (.string ⟨⟨y22⟩⟩), (.int .u8 c_.Blue), (.string ⟨⟨y24⟩⟩), (.int .u8 c_.Alpha), (.string ⟨⟨y26⟩⟩)] [2] [(2, [], .string ⟨⟨((([35] ++ y20) ++ y22) ++ y24) ++ y26⟩⟩)] [fun wz => V.at1 ⟨b1, 0, none⟩ (.int .u8 c_.Red) wz, fun wz => RetB Tryd.prog 23 ⟨[.int .u8 c_.Red]⟩ (.string ⟨⟨y20⟩⟩) wz, fun _ => ln [35] + ln y20 ≤ 9223372036854775807, fun wz => V.at1 ⟨b1, 1, none⟩ (.int .u8 c_.Green) wz, fun wz => RetB Tryd.prog 23 ⟨[.int .u8 c_.Green]⟩ (.string ⟨⟨y22⟩⟩) wz, fun _ => ln ([35] ++ y20) + ln y22 ≤ 9223372036854775807, fun wz => V.at1 ⟨b1, 2, none⟩ (.int .u8 c_.Blue) wz, fun wz => RetB Tryd.prog 23 ⟨[.int .u8 c_.Blue]⟩ (.string ⟨⟨y24⟩⟩) wz, fun _ => ln (([35] ++ y20) ++ y22) + ln y24 ≤ 9223372036854775807, fun wz => V.at1 ⟨b1, 3, none⟩ (.int .u8 c_.Alpha) wz, fun wz => RetB Tryd.prog 23 ⟨[.int .u8 c_.Alpha]⟩ (.string ⟨⟨y26⟩⟩) wz, fun _ => ln ((([35] ++ y20) ++ y22) ++ y24) + ln y26 ≤ 9223372036854775807] H7 (by kernel_rfl) (by kernel_rfl) (by kernel_rfl) ⟨((hS.bk 0 rfl).at1 rfl), ((r26_two_ok _ _ hy20).b), ho21, ((hS.bk 0 rfl).at1 rfl), ((r26_two_ok _ _ hy22).b), ho23, ((hS.bk 0 rfl).at1 rfl), ((r26_two_ok _ _ hy24).b), ho25, ((hS.bk 0 rfl).at1 rfl), ((r26_two_ok _ _ hy26).b), ho27, trivial⟩ fun _ wd28 H29 hb => ?_
  clear H7
  replace hS := hS.below hb
  clear hb
  replace hS : SH M X w [] _ := hS.sel [] rfl
  refine w_ret ?_
  obtain rfl := someE hm
  exact retR1 H29 rfl rfl ⟨_, rfl, rfl, (hS.sel [] rfl)⟩
 replace hm := bT hc hm
 obtain ⟨y8, hy8, hm⟩ := bindE hm
 obtain ⟨ho9, hm⟩ := chkE hm
 obtain ⟨ho10, hm⟩ := chkE hm
 obtain ⟨y11, hy11, hm⟩ := bindE hm
 obtain ⟨ho12, hm⟩ := chkE hm
 obtain ⟨x13, hx13, hm⟩ := letE hm
 obtain ⟨ho14, hm⟩ := chkE hm
 obtain ⟨y15, hy15, hm⟩ := bindE hm
 obtain ⟨ho16, hm⟩ := chkE hm
 obtain ⟨ho17, hm⟩ := chkE hm
 refine s_draw [(.int .u8 c_.Red), (.string ⟨⟨y8⟩⟩), (.int .u8 c_.Green), (.string ⟨⟨y11⟩⟩), (.int .u8 c_.Blue), (.string ⟨⟨y15⟩⟩)] [2] [(2, [], .string ⟨⟨((x13 ++ [44, 32]) ++ y15) ++ [41]⟩⟩)] [fun wz => V.at1 ⟨b1, 0, none⟩ (.int .u8 c_.Red) wz, fun wz => RetB Tryd.prog 22 ⟨[.int .i64 (w64 c_.Red)]⟩ (.string ⟨⟨y8⟩⟩) wz, fun _ => ln [114, 103, 98, 40] + ln y8 ≤ 9223372036854775807, fun _ => ln ([114, 103, 98, 40] ++ y8) + ln [44, 32] ≤ 9223372036854775807, fun wz => V.at1 ⟨b1, 1, none⟩ (.int .u8 c_.Green) wz, fun wz => RetB Tryd.prog 22 ⟨[.int .i64 (w64 c_.Green)]⟩ (.string ⟨⟨y11⟩⟩) wz, fun _ => ln (([114, 103, 98, 40] ++ y8) ++ [44, 32]) + ln y11 ≤ 9223372036854775807, fun _ => ln x13 + ln [44, 32] ≤ 9223372036854775807, fun wz => V.at1 ⟨b1, 2, none⟩ (.int .u8 c_.Blue) wz, fun wz => RetB Tryd.prog 22 ⟨[.int .i64 (w64 c_.Blue)]⟩ (.string ⟨⟨y15⟩⟩) wz, fun _ => ln (x13 ++ [44, 32]) + ln y15 ≤ 9223372036854775807, fun _ => ln ((x13 ++ [44, 32]) ++ y15) + ln [41] ≤ 9223372036854775807] H7 (by kernel_rfl) (by kernel_rfl) (by subst hx13; kernel_rfl) ⟨((hS.bk 0 rfl).at1 rfl), ((r26_whole_ok m _ _ hy8).b), ho9, ho10, ((hS.bk 0 rfl).at1 rfl), ((r26_whole_ok m _ _ hy11).b), ho12, ho14, ((hS.bk 0 rfl).at1 rfl), ((r26_whole_ok m _ _ hy15).b), ho16, ho17, trivial⟩ fun _ wd18 H19 hb => ?_
 clear H7
 replace hS := hS.below hb
 clear hb
 replace hS : SH M X w [] _ := hS.sel [] rfl
 refine w_ret ?_
 obtain rfl := someE hm
 exact retR1 H19 rfl rfl ⟨_, rfl, rfl, (hS.sel [] rfl)⟩
theorem r26_Shown_ok  (m : Nat) (c_ : TColor) (r : Str) (hm : r26_Shown m c_ = some r) : Ret Tryd.prog 9 ⟨[.agg ⟨[.int .u8 c_.Red, .int .u8 c_.Green, .int .u8 c_.Blue, .int .u8 c_.Alpha]⟩]⟩ (.string ⟨⟨r⟩⟩) := retP_of (Tryd.call9 _) (fun w h => r26_Shown_w F0 m   c_ r hm w h)

theorem r26_Text_w  (M : Av) (m : Nat) (v_ : TVal) (r : Str) (hm : r26_Text m v_ = some r) (w : World) (hS : S0 M [] w) : Calls Tryd.prog 13 ⟨[.agg ⟨[.int .u8 v_.Kind, .string ⟨⟨v_.Word⟩⟩, .int .i64 v_.Num, .int .u8 v_.Color.Red, .int .u8 v_.Color.Green, .int .u8 v_.Color.Blue, .int .u8 v_.Color.Alpha]⟩]⟩ w (fun e w' => ∃ v, e = .returned v ∧ v = .string ⟨⟨r⟩⟩ ∧ SH M (fpl []) w [] w') := by
 rw [r26_Text] at hm
 have hS0 : SH M (fpl []) w [] w := hS
 generalize hX : fpl [] = X at hS0 ⊢
 clear hS hX
 have hS := hS0
 clear hS0
 refine calls_entryP Tryd.func13 rfl Tryd.ntmps13 rfl fun _ H => ?_
 refine w_seq ?_
 refine wl_start ?_
 have hd := hS.hand [] [] rfl rfl
 refine m_stp [1] [] H rfl rfl rfl rfl (o_box [.int .u8 v_.Kind, .string ⟨⟨v_.Word⟩⟩, .int .i64 v_.Num, .int .u8 v_.Color.Red, .int .u8 v_.Color.Green, .int .u8 v_.Color.Blue, .int .u8 v_.Color.Alpha] H hd rfl rfl) (fun _ => rfl) fun _ wd2 v H3 hq => ?_
 clear H hd
 obtain ⟨b1, rfl, hq⟩ := hq
 replace hS : SH M X w [Ent.blk b1 [.int .u8 v_.Kind, .string ⟨⟨v_.Word⟩⟩, .int .i64 v_.Num, .int .u8 v_.Color.Red, .int .u8 v_.Color.Green, .int .u8 v_.Color.Blue, .int .u8 v_.Color.Alpha]] _ := hS.join [] [] rfl rfl hq
 clear hq
 refine wl_batch 1 2 [] [1] [(1, [], .pointer (some ⟨b1, 0, none⟩))] [] H3 (by decide) (by kernel_rfl) trivial fun _ wd4 H5 hb => ?_
 clear H3
 replace hS := hS.below hb
 clear hb
 refine wl_end rfl ?_
 refine w_seq ?_
 refine s_reg [(.int .u8 v_.Kind)] [1, 4] [(1, [], .pointer (some ⟨b1, 0, none⟩)), (4, [], .int .u8 v_.Kind)] [fun wz => V.at1 ⟨b1, 0, none⟩ (.int .u8 v_.Kind) wz] H5 (by kernel_rfl) ⟨((hS.bk 0 rfl).at1 rfl), trivial⟩ fun _ wd6 H7 hb => ?_
 clear H5
 replace hS := hS.below hb
 clear hb
 refine w_block ?_
 refine s_reg [] [1, 4, 5] [(1, [], .pointer (some ⟨b1, 0, none⟩)), (4, [], .int .u8 v_.Kind), (5, [], .bool (v_.Kind == 1))] [] H7 (by kernel_rfl) trivial fun _ wd8 H9 hb => ?_
 clear H7
 replace hS := hS.below hb
 clear hb
 refine w_if H9 rfl (fun hc => ?c53) (fun hc => ?_)
 case c53 =>
  replace hm := bT hc hm
  refine s_reg [(.string ⟨⟨v_.Word⟩⟩)] [2] [(2, [], .string ⟨⟨v_.Word⟩⟩)] [fun wz => V.at1 ⟨b1, 1, none⟩ (.string ⟨⟨v_.Word⟩⟩) wz] H9 (by kernel_rfl) ⟨((hS.bk 0 rfl).at1 rfl), trivial⟩ fun _ wd10 H11 hb => ?_
  clear H9
  replace hS := hS.below hb
  clear hb
  replace hS : SH M X w [] _ := hS.sel [] rfl
  refine w_ret ?_
  obtain rfl := someE hm
  exact retR1 H11 rfl rfl ⟨_, rfl, rfl, (hS.sel [] rfl)⟩
 replace hm := bF hc hm
 refine s_reg [] [1, 4, 9] [(1, [], .pointer (some ⟨b1, 0, none⟩)), (4, [], .int .u8 v_.Kind), (9, [], .bool (v_.Kind == 2))] [] H9 (by kernel_rfl) trivial fun _ wd12 H13 hb => ?_
 clear H9
 replace hS := hS.below hb
 clear hb
 refine w_if H13 rfl (fun hc => ?c52) (fun hc => ?_)
 case c52 =>
  replace hm := bT hc hm
  obtain ⟨y14, hy14, hm⟩ := bindE hm
  obtain ⟨ho15, hm⟩ := chkE hm
  refine s_reg [(.int .i64 v_.Num), (.string ⟨⟨y14⟩⟩)] [2] [(2, [], .string ⟨⟨y14 ++ [112, 120]⟩⟩)] [fun wz => V.at1 ⟨b1, 2, none⟩ (.int .i64 v_.Num) wz, fun wz => RetB Tryd.prog 25 ⟨[.int .i64 v_.Num]⟩ (.string ⟨⟨y14⟩⟩) wz, fun _ => ln y14 + ln [112, 120] ≤ 9223372036854775807] H13 (by kernel_rfl) ⟨((hS.bk 0 rfl).at1 rfl), ((r26_Thousandths_ok m _ _ hy14).b), ho15, trivial⟩ fun _ wd16 H17 hb => ?_
  clear H13
  replace hS := hS.below hb
  clear hb
  replace hS : SH M X w [] _ := hS.sel [] rfl
  refine w_ret ?_
  obtain rfl := someE hm
  exact retR1 H17 rfl rfl ⟨_, rfl, rfl, (hS.sel [] rfl)⟩
 replace hm := bF hc hm
 refine s_reg [] [1, 4, 15] [(1, [], .pointer (some ⟨b1, 0, none⟩)), (4, [], .int .u8 v_.Kind), (15, [], .bool (v_.Kind == 3))] [] H13 (by kernel_rfl) trivial fun _ wd18 H19 hb => ?_
 clear H13
 replace hS := hS.below hb
 clear hb
 refine w_if H19 rfl (fun hc => ?c51) (fun hc => ?_)
 case c51 =>
  replace hm := bT hc hm
  obtain ⟨y20, hy20, hm⟩ := bindE hm
  obtain ⟨ho21, hm⟩ := chkE hm
  refine s_reg [(.int .i64 v_.Num), (.string ⟨⟨y20⟩⟩)] [2] [(2, [], .string ⟨⟨y20 ++ [101, 109]⟩⟩)] [fun wz => V.at1 ⟨b1, 2, none⟩ (.int .i64 v_.Num) wz, fun wz => RetB Tryd.prog 25 ⟨[.int .i64 v_.Num]⟩ (.string ⟨⟨y20⟩⟩) wz, fun _ => ln y20 + ln [101, 109] ≤ 9223372036854775807] H19 (by kernel_rfl) ⟨((hS.bk 0 rfl).at1 rfl), ((r26_Thousandths_ok m _ _ hy20).b), ho21, trivial⟩ fun _ wd22 H23 hb => ?_
  clear H19
  replace hS := hS.below hb
  clear hb
  replace hS : SH M X w [] _ := hS.sel [] rfl
  refine w_ret ?_
  obtain rfl := someE hm
  exact retR1 H23 rfl rfl ⟨_, rfl, rfl, (hS.sel [] rfl)⟩
 replace hm := bF hc hm
 refine s_reg [] [1, 4, 21] [(1, [], .pointer (some ⟨b1, 0, none⟩)), (4, [], .int .u8 v_.Kind), (21, [], .bool (v_.Kind == 4))] [] H19 (by kernel_rfl) trivial fun _ wd24 H25 hb => ?_
 clear H19
 replace hS := hS.below hb
 clear hb
 refine w_if H25 rfl (fun hc => ?c50) (fun hc => ?_)
 case c50 =>
  replace hm := bT hc hm
  obtain ⟨y26, hy26, hm⟩ := bindE hm
  obtain ⟨ho27, hm⟩ := chkE hm
  refine s_reg [(.int .i64 v_.Num), (.string ⟨⟨y26⟩⟩)] [2] [(2, [], .string ⟨⟨y26 ++ [114, 101, 109]⟩⟩)] [fun wz => V.at1 ⟨b1, 2, none⟩ (.int .i64 v_.Num) wz, fun wz => RetB Tryd.prog 25 ⟨[.int .i64 v_.Num]⟩ (.string ⟨⟨y26⟩⟩) wz, fun _ => ln y26 + ln [114, 101, 109] ≤ 9223372036854775807] H25 (by kernel_rfl) ⟨((hS.bk 0 rfl).at1 rfl), ((r26_Thousandths_ok m _ _ hy26).b), ho27, trivial⟩ fun _ wd28 H29 hb => ?_
  clear H25
  replace hS := hS.below hb
  clear hb
  replace hS : SH M X w [] _ := hS.sel [] rfl
  refine w_ret ?_
  obtain rfl := someE hm
  exact retR1 H29 rfl rfl ⟨_, rfl, rfl, (hS.sel [] rfl)⟩
 replace hm := bF hc hm
 refine s_reg [] [1, 4, 27] [(1, [], .pointer (some ⟨b1, 0, none⟩)), (4, [], .int .u8 v_.Kind), (27, [], .bool (v_.Kind == 5))] [] H25 (by kernel_rfl) trivial fun _ wd30 H31 hb => ?_
 clear H25
 replace hS := hS.below hb
 clear hb
 refine w_if H31 rfl (fun hc => ?c49) (fun hc => ?_)
 case c49 =>
  replace hm := bT hc hm
  obtain ⟨y32, hy32, hm⟩ := bindE hm
  refine s_reg [(.int .i64 v_.Num), (.string ⟨⟨y32⟩⟩)] [2] [(2, [], .string ⟨⟨y32⟩⟩)] [fun wz => V.at1 ⟨b1, 2, none⟩ (.int .i64 v_.Num) wz, fun wz => RetB Tryd.prog 25 ⟨[.int .i64 v_.Num]⟩ (.string ⟨⟨y32⟩⟩) wz] H31 (by kernel_rfl) ⟨((hS.bk 0 rfl).at1 rfl), ((r26_Thousandths_ok m _ _ hy32).b), trivial⟩ fun _ wd33 H34 hb => ?_
  clear H31
  replace hS := hS.below hb
  clear hb
  replace hS : SH M X w [] _ := hS.sel [] rfl
  refine w_ret ?_
  obtain rfl := someE hm
  exact retR1 H34 rfl rfl ⟨_, rfl, rfl, (hS.sel [] rfl)⟩
 replace hm := bF hc hm
 refine s_reg [] [1, 4, 32] [(1, [], .pointer (some ⟨b1, 0, none⟩)), (4, [], .int .u8 v_.Kind), (32, [], .bool (v_.Kind == 6))] [] H31 (by kernel_rfl) trivial fun _ wd35 H36 hb => ?_
 clear H31
 replace hS := hS.below hb
 clear hb
 refine w_if H36 rfl (fun hc => ?c48) (fun hc => ?_)
 case c48 =>
  replace hm := bT hc hm
  obtain ⟨y37, hy37, hm⟩ := bindE hm
  refine s_reg [(.int .i64 v_.Num), (.string ⟨⟨y37⟩⟩)] [2] [(2, [], .string ⟨⟨y37⟩⟩)] [fun wz => V.at1 ⟨b1, 2, none⟩ (.int .i64 v_.Num) wz, fun wz => RetB Tryd.prog 25 ⟨[.int .i64 (w64 (1000 * v_.Num))]⟩ (.string ⟨⟨y37⟩⟩) wz] H36 (by kernel_rfl) ⟨((hS.bk 0 rfl).at1 rfl), ((r26_Thousandths_ok m _ _ hy37).b), trivial⟩ fun _ wd38 H39 hb => ?_
  clear H36
  replace hS := hS.below hb
  clear hb
  replace hS : SH M X w [] _ := hS.sel [] rfl
  refine w_ret ?_
  obtain rfl := someE hm
  exact retR1 H39 rfl rfl ⟨_, rfl, rfl, (hS.sel [] rfl)⟩
 replace hm := bF hc hm
 refine s_reg [] [1, 38] [(1, [], .pointer (some ⟨b1, 0, none⟩)), (38, [], .bool (v_.Kind == 7))] [] H36 (by kernel_rfl) trivial fun _ wd40 H41 hb => ?_
 clear H36
 replace hS := hS.below hb
 clear hb
 refine w_if H41 rfl (fun hc => ?_) (fun hc => ?c47)
 case c47 =>
  replace hm := bF hc hm
  refine w_skip ?_
  refine s_reg [] [2] [(2, [], .string ⟨⟨[99, 117, 114, 114, 101, 110, 116, 99, 111, 108, 111, 114]⟩⟩)] [] H41 (by kernel_rfl) trivial fun _ wd45 H46 hb => ?_
  clear H41
  replace hS := hS.below hb
  clear hb
  replace hS : SH M X w [] _ := hS.sel [] rfl
  refine w_ret ?_
  obtain rfl := someE hm
  exact retR1 H46 rfl rfl ⟨_, rfl, rfl, (hS.sel [] rfl)⟩
 replace hm := bT hc hm
 obtain ⟨y42, hy42, hm⟩ := bindE hm
 refine s_reg [(.agg ⟨[.int .u8 v_.Color.Red, .int .u8 v_.Color.Green, .int .u8 v_.Color.Blue, .int .u8 v_.Color.Alpha]⟩), (.string ⟨⟨y42⟩⟩)] [2] [(2, [], .string ⟨⟨y42⟩⟩)] [fun wz => V.atN b1 3 [.int .u8 v_.Color.Red, .int .u8 v_.Color.Green, .int .u8 v_.Color.Blue, .int .u8 v_.Color.Alpha] 0 wz, fun wz => RetB Tryd.prog 9 ⟨[.agg ⟨[.int .u8 v_.Color.Red, .int .u8 v_.Color.Green, .int .u8 v_.Color.Blue, .int .u8 v_.Color.Alpha]⟩]⟩ (.string ⟨⟨y42⟩⟩) wz] H41 (by kernel_rfl) ⟨((hS.bk 0 rfl).atD rfl), ((r26_Shown_ok m _ _ hy42).b), trivial⟩ fun _ wd43 H44 hb => ?_
 clear H41
 replace hS := hS.below hb
 clear hb
 replace hS : SH M X w [] _ := hS.sel [] rfl
 refine w_ret ?_
 obtain rfl := someE hm
 exact retR1 H44 rfl rfl ⟨_, rfl, rfl, (hS.sel [] rfl)⟩
theorem r26_Text_ok  (m : Nat) (v_ : TVal) (r : Str) (hm : r26_Text m v_ = some r) : Ret Tryd.prog 13 ⟨[.agg ⟨[.int .u8 v_.Kind, .string ⟨⟨v_.Word⟩⟩, .int .i64 v_.Num, .int .u8 v_.Color.Red, .int .u8 v_.Color.Green, .int .u8 v_.Color.Blue, .int .u8 v_.Color.Alpha]⟩]⟩ (.string ⟨⟨r⟩⟩) := retP_of (Tryd.call13 _) (fun w h => r26_Text_w F0 m   v_ r hm w h)

theorem r26_Write_w  (M : Av) (m : Nat) (v_ : TVal) (r : Str × Int) (hm : r26_Write m v_ = some r) (w : World) (hS : S0 M [] w) : Calls Tryd.prog 5 ⟨[.agg ⟨[.int .u8 v_.Kind, .string ⟨⟨v_.Word⟩⟩, .int .i64 v_.Num, .int .u8 v_.Color.Red, .int .u8 v_.Color.Green, .int .u8 v_.Color.Blue, .int .u8 v_.Color.Alpha]⟩]⟩ w (fun e w' => ∃ v, e = .returned v ∧ v = .tuple ⟨[.string ⟨⟨r.1⟩⟩, .int .i64 r.2]⟩ ∧ SH M (fpl []) w [] w') := by
 rw [r26_Write] at hm
 have hS0 : SH M (fpl []) w [] w := hS
 generalize hX : fpl [] = X at hS0 ⊢
 clear hS hX
 have hS := hS0
 clear hS0
 refine calls_entryP Tryd.func5 rfl Tryd.ntmps5 rfl fun _ H => ?_
 refine w_seq ?_
 refine wl_start ?_
 have hd := hS.hand [] [] rfl rfl
 refine m_stp [1] [] H rfl rfl rfl rfl (o_box [.int .u8 v_.Kind, .string ⟨⟨v_.Word⟩⟩, .int .i64 v_.Num, .int .u8 v_.Color.Red, .int .u8 v_.Color.Green, .int .u8 v_.Color.Blue, .int .u8 v_.Color.Alpha] H hd rfl rfl) (fun _ => rfl) fun _ wd2 v H3 hq => ?_
 clear H hd
 obtain ⟨b1, rfl, hq⟩ := hq
 replace hS : SH M X w [Ent.blk b1 [.int .u8 v_.Kind, .string ⟨⟨v_.Word⟩⟩, .int .i64 v_.Num, .int .u8 v_.Color.Red, .int .u8 v_.Color.Green, .int .u8 v_.Color.Blue, .int .u8 v_.Color.Alpha]] _ := hS.join [] [] rfl rfl hq
 clear hq
 refine wl_batch 1 3 [] [1] [(1, [], .pointer (some ⟨b1, 0, none⟩))] [] H3 (by decide) (by kernel_rfl) trivial fun _ wd4 H5 hb => ?_
 clear H3
 replace hS := hS.below hb
 clear hb
 refine wl_end rfl ?_
 refine w_seq ?_
 obtain ⟨y6, hy6, hm⟩ := bindE hm
 refine s_reg [(.agg ⟨[.int .u8 v_.Kind, .string ⟨⟨v_.Word⟩⟩, .int .i64 v_.Num, .int .u8 v_.Color.Red, .int .u8 v_.Color.Green, .int .u8 v_.Color.Blue, .int .u8 v_.Color.Alpha]⟩), (.int .i64 y6)] [1, 4] [(1, [], .pointer (some ⟨b1, 0, none⟩)), (4, [], .int .i64 y6)] [fun wz => V.atN b1 0 [.int .u8 v_.Kind, .string ⟨⟨v_.Word⟩⟩, .int .i64 v_.Num, .int .u8 v_.Color.Red, .int .u8 v_.Color.Green, .int .u8 v_.Color.Blue, .int .u8 v_.Color.Alpha] 0 wz, fun wz => RetB Tryd.prog 12 ⟨[.agg ⟨[.int .u8 v_.Kind, .string ⟨⟨v_.Word⟩⟩, .int .i64 v_.Num, .int .u8 v_.Color.Red, .int .u8 v_.Color.Green, .int .u8 v_.Color.Blue, .int .u8 v_.Color.Alpha]⟩]⟩ (.int .i64 y6) wz] H5 (by kernel_rfl) ⟨((hS.bk 0 rfl).atD rfl), ((r25_Check_ok _ _ hy6).b), trivial⟩ fun _ wd7 H8 hb => ?_
 clear H5
 replace hS := hS.below hb
 clear hb
 refine s_reg [] [1, 4, 8] [(1, [], .pointer (some ⟨b1, 0, none⟩)), (4, [], .int .i64 y6), (8, [], .bool (y6 != 0))] [] H8 (by kernel_rfl) trivial fun _ wd9 H10 hb => ?_
 clear H8
 replace hS := hS.below hb
 clear hb
 refine w_if H10 rfl (fun hc => ?c16) (fun hc => ?_)
 case c16 =>
  replace hm := bT hc hm
  refine s_reg [] [2, 3] [(2, [], .string ⟨⟨[]⟩⟩), (3, [], .int .i64 y6)] [] H10 (by kernel_rfl) trivial fun _ wd11 H12 hb => ?_
  clear H10
  replace hS := hS.below hb
  clear hb
  replace hS : SH M X w [] _ := hS.sel [] rfl
  refine w_ret ?_
  obtain rfl := someE hm
  exact retR2 H12 rfl rfl rfl ⟨_, rfl, rfl, (hS.sel [] rfl)⟩
 replace hm := bF hc hm
 refine w_skip ?_
 obtain ⟨y13, hy13, hm⟩ := bindE hm
 refine s_reg [(.agg ⟨[.int .u8 v_.Kind, .string ⟨⟨v_.Word⟩⟩, .int .i64 v_.Num, .int .u8 v_.Color.Red, .int .u8 v_.Color.Green, .int .u8 v_.Color.Blue, .int .u8 v_.Color.Alpha]⟩), (.string ⟨⟨y13⟩⟩)] [2, 3] [(2, [], .string ⟨⟨y13⟩⟩), (3, [], .int .i64 0)] [fun wz => V.atN b1 0 [.int .u8 v_.Kind, .string ⟨⟨v_.Word⟩⟩, .int .i64 v_.Num, .int .u8 v_.Color.Red, .int .u8 v_.Color.Green, .int .u8 v_.Color.Blue, .int .u8 v_.Color.Alpha] 0 wz, fun wz => RetB Tryd.prog 13 ⟨[.agg ⟨[.int .u8 v_.Kind, .string ⟨⟨v_.Word⟩⟩, .int .i64 v_.Num, .int .u8 v_.Color.Red, .int .u8 v_.Color.Green, .int .u8 v_.Color.Blue, .int .u8 v_.Color.Alpha]⟩]⟩ (.string ⟨⟨y13⟩⟩) wz] H10 (by kernel_rfl) ⟨((hS.bk 0 rfl).atD rfl), ((r26_Text_ok m _ _ hy13).b), trivial⟩ fun _ wd14 H15 hb => ?_
 clear H10
 replace hS := hS.below hb
 clear hb
 replace hS : SH M X w [] _ := hS.sel [] rfl
 refine w_ret ?_
 obtain rfl := someE hm
 exact retR2 H15 rfl rfl rfl ⟨_, rfl, rfl, (hS.sel [] rfl)⟩
theorem r26_Write_ok  (m : Nat) (v_ : TVal) (r : Str × Int) (hm : r26_Write m v_ = some r) : Ret Tryd.prog 5 ⟨[.agg ⟨[.int .u8 v_.Kind, .string ⟨⟨v_.Word⟩⟩, .int .i64 v_.Num, .int .u8 v_.Color.Red, .int .u8 v_.Color.Green, .int .u8 v_.Color.Blue, .int .u8 v_.Color.Alpha]⟩]⟩ (.tuple ⟨[.string ⟨⟨r.1⟩⟩, .int .i64 r.2]⟩) := retP_of (Tryd.call5 _) (fun w h => r26_Write_w F0 m   v_ r hm w h)

theorem parseval_opaque_w  (M : Av) (r_ : Int) (g_ : Int) (b_ : Int) (r : TColor) (hm : parseval_opaque r_ g_ b_ = r) (w : World) (hS : S0 M [] w) : Calls Tryd.prog 14 ⟨[.int .u8 r_, .int .u8 g_, .int .u8 b_]⟩ w (fun e w' => ∃ v, e = .returned v ∧ v = .agg ⟨[.int .u8 r.Red, .int .u8 r.Green, .int .u8 r.Blue, .int .u8 r.Alpha]⟩ ∧ SH M (fpl []) w [] w') := by
 rw [parseval_opaque] at hm
 have hS0 : SH M (fpl []) w [] w := hS
 generalize hX : fpl [] = X at hS0 ⊢
 clear hS hX
 have hS := hS0
 clear hS0
 refine calls_entryP Tryd.func14 rfl Tryd.ntmps14 rfl fun _ H => ?_
 refine w_seq ?_
 refine wl_start ?_
 have hd := hS.hand [] [] rfl rfl
 refine m_stp [6, 0, 1, 2] [(0, [], .int .u8 r_), (1, [], .int .u8 g_), (2, [], .int .u8 b_)] H rfl rfl rfl rfl (o_alloc [.int .u8 0, .int .u8 0, .int .u8 0, .int .u8 0] (z := .agg ⟨[.int .u8 0, .int .u8 0, .int .u8 0, .int .u8 0]⟩) hd (by kernel_rfl) rfl) (fun _ => rfl) fun _ wd2 v H3 hq => ?_
 clear H hd
 obtain ⟨b1, rfl, hq⟩ := hq
 replace hS : SH M X w [Ent.blk b1 [.int .u8 0, .int .u8 0, .int .u8 0, .int .u8 0]] _ := hS.join [] [] rfl rfl hq
 clear hq
 refine wl_end rfl ?_
 refine w_seq ?_
 refine wl_start ?_
 refine wl_batch 0 4 [] [6, 10] [(6, [], .pointer (some ⟨b1, 0, none⟩)), (10, [], .agg ⟨[.int .u8 r_, .int .u8 g_, .int .u8 b_, .int .u8 255]⟩)] [] H3 (by decide) (by kernel_rfl) trivial fun _ wd4 H5 hb => ?_
 clear H3
 replace hS := hS.below hb
 clear hb
 have hd := hS.hand [0] [] rfl rfl
 refine m_stp0 [6] [(6, [], .pointer (some ⟨b1, 0, none⟩))] H5 rfl rfl rfl (o_store [.int .u8 r_, .int .u8 g_, .int .u8 b_, .int .u8 255] H5 hd rfl rfl (by kernel_rfl) rfl rfl rfl) rfl fun _ wd6 H7 hq => ?_
 clear H5 hd
 obtain ⟨_, hq⟩ := hq
 replace hS : SH M X w [Ent.blk b1 [.int .u8 r_, .int .u8 g_, .int .u8 b_, .int .u8 255]] _ := hS.join [0] [] rfl rfl hq
 clear hq
 refine wl_end rfl ?_
 refine w_ret ?_
 subst hm
 exact retR1 H7 rfl (oneRes_agg rfl (hS.bk 0 rfl) Tryd.underlying23 rfl (by kernel_rfl)) ⟨_, rfl, rfl, (hS.sel [] rfl)⟩
theorem parseval_opaque_ok  (r_ : Int) (g_ : Int) (b_ : Int) : Ret Tryd.prog 14 ⟨[.int .u8 r_, .int .u8 g_, .int .u8 b_]⟩ (.agg ⟨[.int .u8 (parseval_opaque r_ g_ b_).Red, .int .u8 (parseval_opaque r_ g_ b_).Green, .int .u8 (parseval_opaque r_ g_ b_).Blue, .int .u8 (parseval_opaque r_ g_ b_).Alpha]⟩) := retP_of (Tryd.call14 _) (fun w h => parseval_opaque_w F0   r_ g_ b_ _ rfl w h)

theorem parseval_small_w  (M : Av) (m : Nat) (s : Str) (r : Str) (hm : parseval_small m s = some r) (w : World) (hS : S0 M [] w) : Calls Tryd.prog 15 ⟨[.string ⟨⟨s⟩⟩]⟩ w (fun e w' => ∃ v, e = .returned v ∧ v = .string ⟨⟨r⟩⟩ ∧ SH M (fpl []) w [] w') := by
 rw [parseval_small] at hm
 have hS0 : SH M (fpl []) w [] w := hS
 generalize hX : fpl [] = X at hS0 ⊢
 clear hS hX
 have hS := hS0
 clear hS0
 refine calls_entryP Tryd.func15 rfl Tryd.ntmps15 rfl fun _ H => ?_
 refine s_reg [] [0] [(0, [], .string ⟨⟨s⟩⟩)] [] H (by kernel_rfl) trivial fun _ wd1 H2 hb => ?_
 clear H
 replace hS := hS.below hb
 clear hb
 refine w_seq ?_
 refine wl_start ?_
 refine wl_batch 0 1 [] [6] [(6, [], .string ⟨⟨s⟩⟩)] [] H2 (by decide) (by kernel_rfl) trivial fun _ wd3 H4 hb => ?_
 clear H2
 replace hS := hS.below hb
 clear hb
 have hd := hS.hand [] [] rfl rfl
 refine m_stp [7] [] H4 rfl rfl rfl rfl (o_bytes (E := 5) H4 hd rfl (by kernel_rfl) (by kernel_rfl) (by kernel_rfl)) (fun _ => rfl) fun _ wd7 v H8 hq => ?_
 clear H4 hd
 obtain ⟨b5, c6, rfl, hc_b5, hq⟩ := hq
 replace hS : SH M X w [Ent.row .u8 b5 (ofB s) (ln (ofB s))] _ := hS.join [] [] rfl rfl hq
 clear hq
 refine wl_batch 2 3 [] [3] [(3, [], .slice (some ⟨b5, 0, none⟩) ((ofB s).length) c6)] [] H8 (by decide) (by kernel_rfl) trivial fun _ wd9 H10 hb => ?_
 clear H8
 replace hS := hS.below hb
 clear hb
 refine wl_end rfl ?_
 obtain ⟨z11, hz, hm⟩ := bindE hm
 refine w_cut (fun a' w' => Fr 30 [(3, [], .slice (some ⟨b5, 0, none⟩) ((ofB s).length) c6)] a' ∧ SH M X w [Ent.row .u8 b5 z11 (ln (ofB s))] w') ?_ ?_
 ·replace hm := hz
  refine s_reg [] [3, 8, 9, 10] [(3, [], .slice (some ⟨b5, 0, none⟩) ((ofB s).length) c6), (8, [], .slice (some ⟨b5, 0, none⟩) ((ofB s).length) c6), (9, [], .int .i64 (ln (ofB s))), (10, [], .int .i64 0)] [] H10 (by kernel_rfl) trivial fun _ wd12 H13 hb => ?_
  clear H10
  replace hS := hS.below hb
  clear hb
  refine w_block ?_
  refine w_loop (fun kk a' w' => ∃ (v14 : Int) (v15 : List Int), parseval_small_L1 m s kk v14 v15 = some _ ∧ Fr 30 [(3, [], .slice (some ⟨b5, 0, none⟩) ((ofB s).length) c6), (8, [], .slice (some ⟨b5, 0, none⟩) ((ofB s).length) c6), (9, [], .int .i64 (ln (ofB s))), (10, [], .int .i64 v14)] a' ∧ SH M X w [Ent.row .u8 b5 v15 (ln (ofB s))] w') ⟨_, 0, ofB s, hm, FrG.keep (ks := [3, 8, 9, 10]) H13 (by kernel_rfl), hS⟩ ?_
  clear hm H13 hS
  rintro kk _ wd35 ⟨v14, v15, hm, H, hS⟩
  cases kk with
  | zero => exact noneE hm
  | succ kk =>
   rw [parseval_small_L1] at hm
   refine s_reg [] [3, 8, 9, 10, 11] [(3, [], .slice (some ⟨b5, 0, none⟩) ((ofB s).length) c6), (8, [], .slice (some ⟨b5, 0, none⟩) ((ofB s).length) c6), (9, [], .int .i64 (ln (ofB s))), (10, [], .int .i64 v14), (11, [], .bool (decide (v14 < (ln (ofB s)))))] [] H (by kernel_rfl) trivial fun _ wd16 H17 hb => ?_
   clear H
   replace hS := hS.below hb
   clear hb
   refine w_seq ?_
   refine w_if H17 rfl (fun hc => ?_) (fun hc => ?c34)
   case c34 =>
    replace hm := bF hc hm
    refine w_exit rfl ?_
    obtain rfl := someE hm
    exact ⟨FrG.keep (ks := [3]) H17 (by kernel_rfl), hS⟩
   replace hm := bT hc hm
   refine w_skip ?_
   obtain ⟨z18, hz, hm⟩ := bindE hm
   refine w_cut (fun a' w' => Fr 30 [(3, [], .slice (some ⟨b5, 0, none⟩) ((ofB s).length) c6), (8, [], .slice (some ⟨b5, 0, none⟩) ((ofB s).length) c6), (9, [], .int .i64 (ln (ofB s))), (10, [], .int .i64 v14)] a' ∧ SH M X w [Ent.row .u8 b5 z18 (ln (ofB s))] w') ?_ ?_
   ·replace hm := hz
    refine w_block ?_
    obtain ⟨ho19, hm⟩ := chkE hm
    refine s_reg [(.int .u8 (gi v15 v14))] [3, 4, 5, 8, 9, 10] [(3, [], .slice (some ⟨b5, 0, none⟩) ((ofB s).length) c6), (4, [], .int .i64 v14), (5, [], .int .u8 (gi v15 v14)), (8, [], .slice (some ⟨b5, 0, none⟩) ((ofB s).length) c6), (9, [], .int .i64 (ln (ofB s))), (10, [], .int .i64 v14)] [fun _ => oka (some ⟨b5, 0, none⟩) ∧ 0 ≤ v14 ∧ v14 < ln (ofB s), fun wz => V.at1 ⟨b5, 0 + (v14).toNat * 1, none⟩ (.int .u8 (gi v15 v14)) wz] H17 (by kernel_rfl) ⟨(⟨rfl, ho19⟩), (Rw.ixn (hS.rw 0 rfl) ho19), trivial⟩ fun _ wd20 H21 hb => ?_
    clear H17
    replace hS := hS.below hb
    clear hb
    obtain ⟨x22, hx22, hm⟩ := letE hm
    refine s_reg [] [3, 4, 5, 8, 9, 10, 20] [(3, [], .slice (some ⟨b5, 0, none⟩) ((ofB s).length) c6), (4, [], .int .i64 v14), (5, [], .int .u8 (gi v15 v14)), (8, [], .slice (some ⟨b5, 0, none⟩) ((ofB s).length) c6), (9, [], .int .i64 (ln (ofB s))), (10, [], .int .i64 v14), (20, [], .bool x22)] [] H21 (by subst hx22; kernel_rfl) trivial fun _ wd23 H24 hb => ?_
    clear H21
    replace hS := hS.below hb
    clear hb
    refine w_if H24 rfl (fun hc => ?_) (fun hc => ?c30)
    case c30 =>
     replace hm := bF hc hm
     refine w_skip ?_
     obtain rfl := someE hm
     exact ⟨FrG.keep (ks := [3, 8, 9, 10]) H24 (by kernel_rfl), hS⟩
    replace hm := bT hc hm
    refine wl_start ?_
    refine wl_batch 0 6 [] [3, 8, 9, 10, 25, 26] [(3, [], .slice (some ⟨b5, 0, none⟩) ((ofB s).length) c6), (8, [], .slice (some ⟨b5, 0, none⟩) ((ofB s).length) c6), (9, [], .int .i64 (ln (ofB s))), (10, [], .int .i64 v14), (25, [], .int .u8 (wu8 ((wu8 ((gi v15 v14) + 97)) - 65))), (26, [], .pointer (some ⟨b5, 0 + (v14).toNat * 1, none⟩))] [fun _ => oka (some ⟨b5, 0, none⟩) ∧ 0 ≤ v14 ∧ v14 < ln (ofB s)] H24 (by decide) (by kernel_rfl) ⟨(⟨rfl, ho19⟩), trivial⟩ fun _ wd25 H26 hb => ?_
    clear H24
    replace hS := hS.below hb
    clear hb
    have hd := hS.hand [0] [] rfl rfl
    refine m_stp0 [3, 8, 9, 10] [(3, [], .slice (some ⟨b5, 0, none⟩) ((ofB s).length) c6), (8, [], .slice (some ⟨b5, 0, none⟩) ((ofB s).length) c6), (9, [], .int .i64 (ln (ofB s))), (10, [], .int .i64 v14)] H26 rfl rfl rfl (o_rstore H26 hd rfl rfl (by kernel_rfl) ho19) rfl fun _ wd27 H28 hq => ?_
    clear H26 hd
    obtain ⟨_, hq⟩ := hq
    obtain ⟨q29, hq29, hm⟩ := letE hm
    rw [← hq29] at hq
    replace hS : SH M X w [Ent.row .u8 b5 q29 (ln (ofB s))] _ := hS.join [0] [] rfl rfl hq
    clear hq
    refine wl_end rfl ?_
    obtain rfl := someE hm
    exact ⟨FrG.keep (ks := [3, 8, 9, 10]) H28 (by kernel_rfl), hS⟩
   ·rintro _ wd33 ⟨H, hS⟩
    refine w_reg [] [3, 8, 9, 10] [(3, [], .slice (some ⟨b5, 0, none⟩) ((ofB s).length) c6), (8, [], .slice (some ⟨b5, 0, none⟩) ((ofB s).length) c6), (9, [], .int .i64 (ln (ofB s))), (10, [], .int .i64 (w64 (v14 + 1)))] [] H (by kernel_rfl) trivial fun _ wd31 H32 hb => ?_
    clear H
    replace hS := hS.below hb
    clear hb
    exact ⟨_, Nat.lt_succ_self _, w64 (v14 + 1), z18, hm, FrG.keep (ks := [3, 8, 9, 10]) H32 (by kernel_rfl), hS⟩
 ·rintro _ wd38 ⟨H, hS⟩
  refine s_reg [(.string ⟨⟨toB z11⟩⟩)] [2] [(2, [], .string ⟨⟨toB z11⟩⟩)] [fun wz => ∀ w', Below wz.heap.size wz w' → (convert 50 9 (.slice (some ⟨b5, 0, none⟩) ((ofB s).length) c6)).run Tryd.prog w' = .ok (.string ⟨⟨toB z11⟩⟩) w'] H (by kernel_rfl) ⟨(conv_row (E := 5) (by kernel_rfl) (by kernel_rfl) (by kernel_rfl) (hS.rw 0 rfl).1 (hS.rw 0 rfl).2), trivial⟩ fun _ wd36 H37 hb => ?_
  clear H
  replace hS := hS.below hb
  clear hb
  replace hS : SH M X w [] _ := hS.sel [] rfl
  refine w_ret ?_
  obtain rfl := someE hm
  exact retR1 H37 rfl rfl ⟨_, rfl, rfl, (hS.sel [] rfl)⟩
theorem parseval_small_ok  (m : Nat) (s : Str) (r : Str) (hm : parseval_small m s = some r) : Ret Tryd.prog 15 ⟨[.string ⟨⟨s⟩⟩]⟩ (.string ⟨⟨r⟩⟩) := retP_of (Tryd.call15 _) (fun w h => parseval_small_w F0 m   s r hm w h)

theorem parseval_Named_w  (M : Av) (m : Nat) (name_ : Str) (r : TColor × Int) (hm : parseval_Named m name_ = some r) (w : World) (hS : S0 M [] w) : Calls Tryd.prog 6 ⟨[.string ⟨⟨name_⟩⟩]⟩ w (fun e w' => ∃ v, e = .returned v ∧ v = .tuple ⟨[.agg ⟨[.int .u8 r.1.Red, .int .u8 r.1.Green, .int .u8 r.1.Blue, .int .u8 r.1.Alpha]⟩, .int .i64 r.2]⟩ ∧ SH M (fpl []) w [] w') := by
 rw [parseval_Named] at hm
 have hS0 : SH M (fpl []) w [] w := hS
 generalize hX : fpl [] = X at hS0 ⊢
 clear hS hX
 have hS := hS0
 clear hS0
 refine calls_entryP Tryd.func6 rfl Tryd.ntmps6 rfl fun _ H => ?_
 refine w_seq ?_
 refine wl_start ?_
 have hd := hS.hand [] [] rfl rfl
 refine m_stp [2, 0] [(0, [], .string ⟨⟨name_⟩⟩)] H rfl rfl rfl rfl (o_alloc [.int .u8 0, .int .u8 0, .int .u8 0, .int .u8 0] (z := .agg ⟨[.int .u8 0, .int .u8 0, .int .u8 0, .int .u8 0]⟩) hd (by kernel_rfl) rfl) (fun _ => rfl) fun _ wd2 v H3 hq => ?_
 clear H hd
 obtain ⟨b1, rfl, hq⟩ := hq
 replace hS : SH M X w [Ent.blk b1 [.int .u8 0, .int .u8 0, .int .u8 0, .int .u8 0]] _ := hS.join [] [] rfl rfl hq
 clear hq
 refine wl_batch 1 2 [] [0, 2] [(0, [], .string ⟨⟨name_⟩⟩), (2, [], .pointer (some ⟨b1, 0, none⟩))] [] H3 (by decide) (by kernel_rfl) trivial fun _ wd4 H5 hb => ?_
 clear H3
 replace hS := hS.below hb
 clear hb
 refine wl_end rfl ?_
 refine w_seq ?_
 refine wl_start ?_
 have hd := hS.hand [] [0] rfl rfl
 refine m_stp [7, 0, 2] [(0, [], .string ⟨⟨name_⟩⟩), (2, [], .pointer (some ⟨b1, 0, none⟩))] H5 rfl rfl rfl rfl (o_mkmap hd) (fun _ => rfl) fun _ wd7 v H8 hq => ?_
 clear H5 hd
 obtain ⟨b6, rfl, hq⟩ := hq
 replace hS : SH M X w [Ent.mpo b6 [], Ent.blk b1 [.int .u8 0, .int .u8 0, .int .u8 0, .int .u8 0]] _ := hS.join [] [0] rfl rfl hq
 clear hq
 obtain ⟨y9, hy9, hm⟩ := letE hm
 refine wl_batch 1 2 [(.agg ⟨[.int .u8 y9.Red, .int .u8 y9.Green, .int .u8 y9.Blue, .int .u8 y9.Alpha]⟩)] [0, 2, 7, 8] [(0, [], .string ⟨⟨name_⟩⟩), (2, [], .pointer (some ⟨b1, 0, none⟩)), (7, [], .map (some b6)), (8, [], .agg ⟨[.int .u8 y9.Red, .int .u8 y9.Green, .int .u8 y9.Blue, .int .u8 y9.Alpha]⟩)] [fun wz => RetB Tryd.prog 14 ⟨[.int .u8 0, .int .u8 0, .int .u8 0]⟩ (.agg ⟨[.int .u8 y9.Red, .int .u8 y9.Green, .int .u8 y9.Blue, .int .u8 y9.Alpha]⟩) wz] H8 (by decide) (by subst hy9; kernel_rfl) ⟨((by rw [hy9]; exact (parseval_opaque_ok _ _ _).b)), trivial⟩ fun _ wd10 H11 hb => ?_
 clear H8
 replace hS := hS.below hb
 clear hb
 have hd := hS.hand [0] [1] rfl rfl
 refine m_stp0 [0, 2, 7] [(0, [], .string ⟨⟨name_⟩⟩), (2, [], .pointer (some ⟨b1, 0, none⟩)), (7, [], .map (some b6))] H11 rfl rfl rfl (o_ins (kt := 9) (et := 23) H11 hd rfl rfl rfl (by kernel_rfl) (by kernel_rfl) rfl) rfl fun _ wd12 H13 hq => ?_
 clear H11 hd
 obtain ⟨_, hq⟩ := hq
 replace hS : SH M X w [Ent.mpo b6 [([98, 108, 97, 99, 107], .agg ⟨[.int .u8 y9.Red, .int .u8 y9.Green, .int .u8 y9.Blue, .int .u8 y9.Alpha]⟩)], Ent.blk b1 [.int .u8 0, .int .u8 0, .int .u8 0, .int .u8 0]] _ := hS.join [0] [1] rfl rfl hq
 clear hq
 obtain ⟨y14, hy14, hm⟩ := letE hm
 refine wl_batch 3 4 [(.agg ⟨[.int .u8 y14.Red, .int .u8 y14.Green, .int .u8 y14.Blue, .int .u8 y14.Alpha]⟩)] [0, 2, 7, 9] [(0, [], .string ⟨⟨name_⟩⟩), (2, [], .pointer (some ⟨b1, 0, none⟩)), (7, [], .map (some b6)), (9, [], .agg ⟨[.int .u8 y14.Red, .int .u8 y14.Green, .int .u8 y14.Blue, .int .u8 y14.Alpha]⟩)] [fun wz => RetB Tryd.prog 14 ⟨[.int .u8 255, .int .u8 255, .int .u8 255]⟩ (.agg ⟨[.int .u8 y14.Red, .int .u8 y14.Green, .int .u8 y14.Blue, .int .u8 y14.Alpha]⟩) wz] H13 (by decide) (by subst hy14; kernel_rfl) ⟨((by rw [hy14]; exact (parseval_opaque_ok _ _ _).b)), trivial⟩ fun _ wd15 H16 hb => ?_
 clear H13
 replace hS := hS.below hb
 clear hb
 have hd := hS.hand [0] [1] rfl rfl
 refine m_stp0 [0, 2, 7] [(0, [], .string ⟨⟨name_⟩⟩), (2, [], .pointer (some ⟨b1, 0, none⟩)), (7, [], .map (some b6))] H16 rfl rfl rfl (o_ins (kt := 9) (et := 23) H16 hd rfl rfl rfl (by kernel_rfl) (by kernel_rfl) rfl) rfl fun _ wd17 H18 hq => ?_
 clear H16 hd
 obtain ⟨_, hq⟩ := hq
 replace hS : SH M X w [Ent.mpo b6 [([98, 108, 97, 99, 107], .agg ⟨[.int .u8 y9.Red, .int .u8 y9.Green, .int .u8 y9.Blue, .int .u8 y9.Alpha]⟩), ([119, 104, 105, 116, 101], .agg ⟨[.int .u8 y14.Red, .int .u8 y14.Green, .int .u8 y14.Blue, .int .u8 y14.Alpha]⟩)], Ent.blk b1 [.int .u8 0, .int .u8 0, .int .u8 0, .int .u8 0]] _ := hS.join [0] [1] rfl rfl hq
 clear hq
 obtain ⟨y19, hy19, hm⟩ := letE hm
 refine wl_batch 5 6 [(.agg ⟨[.int .u8 y19.Red, .int .u8 y19.Green, .int .u8 y19.Blue, .int .u8 y19.Alpha]⟩)] [0, 2, 7, 10] [(0, [], .string ⟨⟨name_⟩⟩), (2, [], .pointer (some ⟨b1, 0, none⟩)), (7, [], .map (some b6)), (10, [], .agg ⟨[.int .u8 y19.Red, .int .u8 y19.Green, .int .u8 y19.Blue, .int .u8 y19.Alpha]⟩)] [fun wz => RetB Tryd.prog 14 ⟨[.int .u8 255, .int .u8 0, .int .u8 0]⟩ (.agg ⟨[.int .u8 y19.Red, .int .u8 y19.Green, .int .u8 y19.Blue, .int .u8 y19.Alpha]⟩) wz] H18 (by decide) (by subst hy19; kernel_rfl) ⟨((by rw [hy19]; exact (parseval_opaque_ok _ _ _).b)), trivial⟩ fun _ wd20 H21 hb => ?_
 clear H18
 replace hS := hS.below hb
 clear hb
 have hd := hS.hand [0] [1] rfl rfl
 refine m_stp0 [0, 2, 7] [(0, [], .string ⟨⟨name_⟩⟩), (2, [], .pointer (some ⟨b1, 0, none⟩)), (7, [], .map (some b6))] H21 rfl rfl rfl (o_ins (kt := 9) (et := 23) H21 hd rfl rfl rfl (by kernel_rfl) (by kernel_rfl) rfl) rfl fun _ wd22 H23 hq => ?_
 clear H21 hd
 obtain ⟨_, hq⟩ := hq
 replace hS : SH M X w [Ent.mpo b6 [([98, 108, 97, 99, 107], .agg ⟨[.int .u8 y9.Red, .int .u8 y9.Green, .int .u8 y9.Blue, .int .u8 y9.Alpha]⟩), ([119, 104, 105, 116, 101], .agg ⟨[.int .u8 y14.Red, .int .u8 y14.Green, .int .u8 y14.Blue, .int .u8 y14.Alpha]⟩), ([114, 101, 100], .agg ⟨[.int .u8 y19.Red, .int .u8 y19.Green, .int .u8 y19.Blue, .int .u8 y19.Alpha]⟩)], Ent.blk b1 [.int .u8 0, .int .u8 0, .int .u8 0, .int .u8 0]] _ := hS.join [0] [1] rfl rfl hq
 clear hq
 obtain ⟨y24, hy24, hm⟩ := letE hm
 refine wl_batch 7 8 [(.agg ⟨[.int .u8 y24.Red, .int .u8 y24.Green, .int .u8 y24.Blue, .int .u8 y24.Alpha]⟩)] [0, 2, 7, 11] [(0, [], .string ⟨⟨name_⟩⟩), (2, [], .pointer (some ⟨b1, 0, none⟩)), (7, [], .map (some b6)), (11, [], .agg ⟨[.int .u8 y24.Red, .int .u8 y24.Green, .int .u8 y24.Blue, .int .u8 y24.Alpha]⟩)] [fun wz => RetB Tryd.prog 14 ⟨[.int .u8 0, .int .u8 255, .int .u8 0]⟩ (.agg ⟨[.int .u8 y24.Red, .int .u8 y24.Green, .int .u8 y24.Blue, .int .u8 y24.Alpha]⟩) wz] H23 (by decide) (by subst hy24; kernel_rfl) ⟨((by rw [hy24]; exact (parseval_opaque_ok _ _ _).b)), trivial⟩ fun _ wd25 H26 hb => ?_
 clear H23
 replace hS := hS.below hb
 clear hb
 have hd := hS.hand [0] [1] rfl rfl
 refine m_stp0 [0, 2, 7] [(0, [], .string ⟨⟨name_⟩⟩), (2, [], .pointer (some ⟨b1, 0, none⟩)), (7, [], .map (some b6))] H26 rfl rfl rfl (o_ins (kt := 9) (et := 23) H26 hd rfl rfl rfl (by kernel_rfl) (by kernel_rfl) rfl) rfl fun _ wd27 H28 hq => ?_
 clear H26 hd
 obtain ⟨_, hq⟩ := hq
 replace hS : SH M X w [Ent.mpo b6 [([98, 108, 97, 99, 107], .agg ⟨[.int .u8 y9.Red, .int .u8 y9.Green, .int .u8 y9.Blue, .int .u8 y9.Alpha]⟩), ([119, 104, 105, 116, 101], .agg ⟨[.int .u8 y14.Red, .int .u8 y14.Green, .int .u8 y14.Blue, .int .u8 y14.Alpha]⟩), ([114, 101, 100], .agg ⟨[.int .u8 y19.Red, .int .u8 y19.Green, .int .u8 y19.Blue, .int .u8 y19.Alpha]⟩), ([108, 105, 109, 101], .agg ⟨[.int .u8 y24.Red, .int .u8 y24.Green, .int .u8 y24.Blue, .int .u8 y24.Alpha]⟩)], Ent.blk b1 [.int .u8 0, .int .u8 0, .int .u8 0, .int .u8 0]] _ := hS.join [0] [1] rfl rfl hq
 clear hq
 obtain ⟨y29, hy29, hm⟩ := letE hm
 refine wl_batch 9 10 [(.agg ⟨[.int .u8 y29.Red, .int .u8 y29.Green, .int .u8 y29.Blue, .int .u8 y29.Alpha]⟩)] [0, 2, 7, 12] [(0, [], .string ⟨⟨name_⟩⟩), (2, [], .pointer (some ⟨b1, 0, none⟩)), (7, [], .map (some b6)), (12, [], .agg ⟨[.int .u8 y29.Red, .int .u8 y29.Green, .int .u8 y29.Blue, .int .u8 y29.Alpha]⟩)] [fun wz => RetB Tryd.prog 14 ⟨[.int .u8 0, .int .u8 0, .int .u8 255]⟩ (.agg ⟨[.int .u8 y29.Red, .int .u8 y29.Green, .int .u8 y29.Blue, .int .u8 y29.Alpha]⟩) wz] H28 (by decide) (by subst hy29; kernel_rfl) ⟨((by rw [hy29]; exact (parseval_opaque_ok _ _ _).b)), trivial⟩ fun _ wd30 H31 hb => ?_
 clear H28
 replace hS := hS.below hb
 clear hb
 have hd := hS.hand [0] [1] rfl rfl
 refine m_stp0 [0, 2, 7] [(0, [], .string ⟨⟨name_⟩⟩), (2, [], .pointer (some ⟨b1, 0, none⟩)), (7, [], .map (some b6))] H31 rfl rfl rfl (o_ins (kt := 9) (et := 23) H31 hd rfl rfl rfl (by kernel_rfl) (by kernel_rfl) rfl) rfl fun _ wd32 H33 hq => ?_
 clear H31 hd
 obtain ⟨_, hq⟩ := hq
 replace hS : SH M X w [Ent.mpo b6 [([98, 108, 97, 99, 107], .agg ⟨[.int .u8 y9.Red, .int .u8 y9.Green, .int .u8 y9.Blue, .int .u8 y9.Alpha]⟩), ([119, 104, 105, 116, 101], .agg ⟨[.int .u8 y14.Red, .int .u8 y14.Green, .int .u8 y14.Blue, .int .u8 y14.Alpha]⟩), ([114, 101, 100], .agg ⟨[.int .u8 y19.Red, .int .u8 y19.Green, .int .u8 y19.Blue, .int .u8 y19.Alpha]⟩), ([108, 105, 109, 101], .agg ⟨[.int .u8 y24.Red, .int .u8 y24.Green, .int .u8 y24.Blue, .int .u8 y24.Alpha]⟩), ([98, 108, 117, 101], .agg ⟨[.int .u8 y29.Red, .int .u8 y29.Green, .int .u8 y29.Blue, .int .u8 y29.Alpha]⟩)], Ent.blk b1 [.int .u8 0, .int .u8 0, .int .u8 0, .int .u8 0]] _ := hS.join [0] [1] rfl rfl hq
 clear hq
 obtain ⟨y34, hy34, hm⟩ := letE hm
 refine wl_batch 11 12 [(.agg ⟨[.int .u8 y34.Red, .int .u8 y34.Green, .int .u8 y34.Blue, .int .u8 y34.Alpha]⟩)] [0, 2, 7, 13] [(0, [], .string ⟨⟨name_⟩⟩), (2, [], .pointer (some ⟨b1, 0, none⟩)), (7, [], .map (some b6)), (13, [], .agg ⟨[.int .u8 y34.Red, .int .u8 y34.Green, .int .u8 y34.Blue, .int .u8 y34.Alpha]⟩)] [fun wz => RetB Tryd.prog 14 ⟨[.int .u8 255, .int .u8 255, .int .u8 0]⟩ (.agg ⟨[.int .u8 y34.Red, .int .u8 y34.Green, .int .u8 y34.Blue, .int .u8 y34.Alpha]⟩) wz] H33 (by decide) (by subst hy34; kernel_rfl) ⟨((by rw [hy34]; exact (parseval_opaque_ok _ _ _).b)), trivial⟩ fun _ wd35 H36 hb => ?_
 clear H33
 replace hS := hS.below hb
 clear hb
 have hd := hS.hand [0] [1] rfl rfl
 refine m_stp0 [0, 2, 7] [(0, [], .string ⟨⟨name_⟩⟩), (2, [], .pointer (some ⟨b1, 0, none⟩)), (7, [], .map (some b6))] H36 rfl rfl rfl (o_ins (kt := 9) (et := 23) H36 hd rfl rfl rfl (by kernel_rfl) (by kernel_rfl) rfl) rfl fun _ wd37 H38 hq => ?_
 clear H36 hd
 obtain ⟨_, hq⟩ := hq
 replace hS : SH M X w [Ent.mpo b6 [([98, 108, 97, 99, 107], .agg ⟨[.int .u8 y9.Red, .int .u8 y9.Green, .int .u8 y9.Blue, .int .u8 y9.Alpha]⟩), ([119, 104, 105, 116, 101], .agg ⟨[.int .u8 y14.Red, .int .u8 y14.Green, .int .u8 y14.Blue, .int .u8 y14.Alpha]⟩), ([114, 101, 100], .agg ⟨[.int .u8 y19.Red, .int .u8 y19.Green, .int .u8 y19.Blue, .int .u8 y19.Alpha]⟩), ([108, 105, 109, 101], .agg ⟨[.int .u8 y24.Red, .int .u8 y24.Green, .int .u8 y24.Blue, .int .u8 y24.Alpha]⟩), ([98, 108, 117, 101], .agg ⟨[.int .u8 y29.Red, .int .u8 y29.Green, .int .u8 y29.Blue, .int .u8 y29.Alpha]⟩), ([121, 101, 108, 108, 111, 119], .agg ⟨[.int .u8 y34.Red, .int .u8 y34.Green, .int .u8 y34.Blue, .int .u8 y34.Alpha]⟩)], Ent.blk b1 [.int .u8 0, .int .u8 0, .int .u8 0, .int .u8 0]] _ := hS.join [0] [1] rfl rfl hq
 clear hq
 obtain ⟨y39, hy39, hm⟩ := letE hm
 refine wl_batch 13 14 [(.agg ⟨[.int .u8 y39.Red, .int .u8 y39.Green, .int .u8 y39.Blue, .int .u8 y39.Alpha]⟩)] [0, 2, 7, 14] [(0, [], .string ⟨⟨name_⟩⟩), (2, [], .pointer (some ⟨b1, 0, none⟩)), (7, [], .map (some b6)), (14, [], .agg ⟨[.int .u8 y39.Red, .int .u8 y39.Green, .int .u8 y39.Blue, .int .u8 y39.Alpha]⟩)] [fun wz => RetB Tryd.prog 14 ⟨[.int .u8 128, .int .u8 128, .int .u8 128]⟩ (.agg ⟨[.int .u8 y39.Red, .int .u8 y39.Green, .int .u8 y39.Blue, .int .u8 y39.Alpha]⟩) wz] H38 (by decide) (by subst hy39; kernel_rfl) ⟨((by rw [hy39]; exact (parseval_opaque_ok _ _ _).b)), trivial⟩ fun _ wd40 H41 hb => ?_
 clear H38
 replace hS := hS.below hb
 clear hb
 have hd := hS.hand [0] [1] rfl rfl
 refine m_stp0 [0, 2, 7] [(0, [], .string ⟨⟨name_⟩⟩), (2, [], .pointer (some ⟨b1, 0, none⟩)), (7, [], .map (some b6))] H41 rfl rfl rfl (o_ins (kt := 9) (et := 23) H41 hd rfl rfl rfl (by kernel_rfl) (by kernel_rfl) rfl) rfl fun _ wd42 H43 hq => ?_
 clear H41 hd
 obtain ⟨_, hq⟩ := hq
 replace hS : SH M X w [Ent.mpo b6 [([98, 108, 97, 99, 107], .agg ⟨[.int .u8 y9.Red, .int .u8 y9.Green, .int .u8 y9.Blue, .int .u8 y9.Alpha]⟩), ([119, 104, 105, 116, 101], .agg ⟨[.int .u8 y14.Red, .int .u8 y14.Green, .int .u8 y14.Blue, .int .u8 y14.Alpha]⟩), ([114, 101, 100], .agg ⟨[.int .u8 y19.Red, .int .u8 y19.Green, .int .u8 y19.Blue, .int .u8 y19.Alpha]⟩), ([108, 105, 109, 101], .agg ⟨[.int .u8 y24.Red, .int .u8 y24.Green, .int .u8 y24.Blue, .int .u8 y24.Alpha]⟩), ([98, 108, 117, 101], .agg ⟨[.int .u8 y29.Red, .int .u8 y29.Green, .int .u8 y29.Blue, .int .u8 y29.Alpha]⟩), ([121, 101, 108, 108, 111, 119], .agg ⟨[.int .u8 y34.Red, .int .u8 y34.Green, .int .u8 y34.Blue, .int .u8 y34.Alpha]⟩), ([103, 114, 97, 121], .agg ⟨[.int .u8 y39.Red, .int .u8 y39.Green, .int .u8 y39.Blue, .int .u8 y39.Alpha]⟩)], Ent.blk b1 [.int .u8 0, .int .u8 0, .int .u8 0, .int .u8 0]] _ := hS.join [0] [1] rfl rfl hq
 clear hq
 refine wl_batch 15 16 [] [0, 2, 7, 15] [(0, [], .string ⟨⟨name_⟩⟩), (2, [], .pointer (some ⟨b1, 0, none⟩)), (7, [], .map (some b6)), (15, [], .agg ⟨[.int .u8 0, .int .u8 0, .int .u8 0, .int .u8 0]⟩)] [] H43 (by decide) (by kernel_rfl) trivial fun _ wd44 H45 hb => ?_
 clear H43
 replace hS := hS.below hb
 clear hb
 have hd := hS.hand [0] [1] rfl rfl
 refine m_stp0 [0, 2, 7] [(0, [], .string ⟨⟨name_⟩⟩), (2, [], .pointer (some ⟨b1, 0, none⟩)), (7, [], .map (some b6))] H45 rfl rfl rfl (o_ins (kt := 9) (et := 23) H45 hd rfl rfl rfl (by kernel_rfl) (by kernel_rfl) rfl) rfl fun _ wd46 H47 hq => ?_
 clear H45 hd
 obtain ⟨_, hq⟩ := hq
 replace hS : SH M X w [Ent.mpo b6 [([98, 108, 97, 99, 107], .agg ⟨[.int .u8 y9.Red, .int .u8 y9.Green, .int .u8 y9.Blue, .int .u8 y9.Alpha]⟩), ([119, 104, 105, 116, 101], .agg ⟨[.int .u8 y14.Red, .int .u8 y14.Green, .int .u8 y14.Blue, .int .u8 y14.Alpha]⟩), ([114, 101, 100], .agg ⟨[.int .u8 y19.Red, .int .u8 y19.Green, .int .u8 y19.Blue, .int .u8 y19.Alpha]⟩), ([108, 105, 109, 101], .agg ⟨[.int .u8 y24.Red, .int .u8 y24.Green, .int .u8 y24.Blue, .int .u8 y24.Alpha]⟩), ([98, 108, 117, 101], .agg ⟨[.int .u8 y29.Red, .int .u8 y29.Green, .int .u8 y29.Blue, .int .u8 y29.Alpha]⟩), ([121, 101, 108, 108, 111, 119], .agg ⟨[.int .u8 y34.Red, .int .u8 y34.Green, .int .u8 y34.Blue, .int .u8 y34.Alpha]⟩), ([103, 114, 97, 121], .agg ⟨[.int .u8 y39.Red, .int .u8 y39.Green, .int .u8 y39.Blue, .int .u8 y39.Alpha]⟩), ([116, 114, 97, 110, 115, 112, 97, 114, 101, 110, 116], .agg ⟨[.int .u8 0, .int .u8 0, .int .u8 0, .int .u8 0]⟩)], Ent.blk b1 [.int .u8 0, .int .u8 0, .int .u8 0, .int .u8 0]] _ := hS.join [0] [1] rfl rfl hq
 clear hq
 obtain ⟨y48, hy48, hm⟩ := bindE hm
 refine wl_batch 17 20 [(.string ⟨⟨y48⟩⟩)] [2, 16, 18] [(2, [], .pointer (some ⟨b1, 0, none⟩)), (16, [], .map (some b6)), (18, [], .string ⟨⟨y48⟩⟩)] [fun wz => RetB Tryd.prog 15 ⟨[.string ⟨⟨name_⟩⟩]⟩ (.string ⟨⟨y48⟩⟩) wz] H47 (by decide) (by kernel_rfl) ⟨((parseval_small_ok m _ _ hy48).b), trivial⟩ fun _ wd49 H50 hb => ?_
 clear H47
 replace hS := hS.below hb
 clear hb
 obtain ⟨x51, hx51, hm⟩ := letE hm
 have hd := hS.hand [0] [1] rfl rfl
 refine m_stp [19, 2] [(2, [], .pointer (some ⟨b1, 0, none⟩))] H50 rfl rfl rfl rfl (o_look (kt := 9) (et := 23) (z := .agg ⟨[.int .u8 0, .int .u8 0, .int .u8 0, .int .u8 0]⟩) (ix := x51) (fun q => .agg ⟨[.int .u8 (gi ([y9.Red, y14.Red, y19.Red, y24.Red, y29.Red, y34.Red, y39.Red, 0, 0] : List Int) q), .int .u8 (gi ([y9.Green, y14.Green, y19.Green, y24.Green, y29.Green, y34.Green, y39.Green, 0, 0] : List Int) q), .int .u8 (gi ([y9.Blue, y14.Blue, y19.Blue, y24.Blue, y29.Blue, y34.Blue, y39.Blue, 0, 0] : List Int) q), .int .u8 (gi ([y9.Alpha, y14.Alpha, y19.Alpha, y24.Alpha, y29.Alpha, y34.Alpha, y39.Alpha, 0, 0] : List Int) q)]⟩) (.tuple ⟨[.agg ⟨[.int .u8 (gi ([y9.Red, y14.Red, y19.Red, y24.Red, y29.Red, y34.Red, y39.Red, 0, 0] : List Int) x51), .int .u8 (gi ([y9.Green, y14.Green, y19.Green, y24.Green, y29.Green, y34.Green, y39.Green, 0, 0] : List Int) x51), .int .u8 (gi ([y9.Blue, y14.Blue, y19.Blue, y24.Blue, y29.Blue, y34.Blue, y39.Blue, 0, 0] : List Int) x51), .int .u8 (gi ([y9.Alpha, y14.Alpha, y19.Alpha, y24.Alpha, y29.Alpha, y34.Alpha, y39.Alpha, 0, 0] : List Int) x51)]⟩, .bool (decide (x51 < 8))]⟩) H50 hd hx51 rfl rfl rfl (by kernel_rfl) (by kernel_rfl) (by kernel_rfl) rfl) (fun _ => rfl) fun _ wd52 v H53 hq => ?_
 clear H50 hd
 obtain ⟨rfl, hq⟩ := hq
 replace hS : SH M X w [Ent.mpo b6 [([98, 108, 97, 99, 107], .agg ⟨[.int .u8 y9.Red, .int .u8 y9.Green, .int .u8 y9.Blue, .int .u8 y9.Alpha]⟩), ([119, 104, 105, 116, 101], .agg ⟨[.int .u8 y14.Red, .int .u8 y14.Green, .int .u8 y14.Blue, .int .u8 y14.Alpha]⟩), ([114, 101, 100], .agg ⟨[.int .u8 y19.Red, .int .u8 y19.Green, .int .u8 y19.Blue, .int .u8 y19.Alpha]⟩), ([108, 105, 109, 101], .agg ⟨[.int .u8 y24.Red, .int .u8 y24.Green, .int .u8 y24.Blue, .int .u8 y24.Alpha]⟩), ([98, 108, 117, 101], .agg ⟨[.int .u8 y29.Red, .int .u8 y29.Green, .int .u8 y29.Blue, .int .u8 y29.Alpha]⟩), ([121, 101, 108, 108, 111, 119], .agg ⟨[.int .u8 y34.Red, .int .u8 y34.Green, .int .u8 y34.Blue, .int .u8 y34.Alpha]⟩), ([103, 114, 97, 121], .agg ⟨[.int .u8 y39.Red, .int .u8 y39.Green, .int .u8 y39.Blue, .int .u8 y39.Alpha]⟩), ([116, 114, 97, 110, 115, 112, 97, 114, 101, 110, 116], .agg ⟨[.int .u8 0, .int .u8 0, .int .u8 0, .int .u8 0]⟩)], Ent.blk b1 [.int .u8 0, .int .u8 0, .int .u8 0, .int .u8 0]] _ := hS.join [0] [1] rfl rfl hq
 clear hq
 obtain ⟨x54, hx54, hm⟩ := letE hm
 obtain ⟨x55, hx55, hm⟩ := letE hm
 obtain ⟨x56, hx56, hm⟩ := letE hm
 obtain ⟨x57, hx57, hm⟩ := letE hm
 refine wl_batch 21 24 [] [2, 20, 21] [(2, [], .pointer (some ⟨b1, 0, none⟩)), (20, [], .agg ⟨[.int .u8 x54, .int .u8 x55, .int .u8 x56, .int .u8 x57]⟩), (21, [], .bool (decide (x51 < 8)))] [] H53 (by decide) (by subst hx54 hx55 hx56 hx57; kernel_rfl) trivial fun _ wd58 H59 hb => ?_
 clear H53
 replace hS := hS.below hb
 clear hb
 have hd := hS.hand [] [0, 1] rfl rfl
 refine m_stp [4, 2, 20, 21] [(2, [], .pointer (some ⟨b1, 0, none⟩)), (20, [], .agg ⟨[.int .u8 x54, .int .u8 x55, .int .u8 x56, .int .u8 x57]⟩), (21, [], .bool (decide (x51 < 8)))] H59 rfl rfl rfl rfl (o_alloc [.int .u8 0, .int .u8 0, .int .u8 0, .int .u8 0] (z := .agg ⟨[.int .u8 0, .int .u8 0, .int .u8 0, .int .u8 0]⟩) hd (by kernel_rfl) rfl) (fun _ => rfl) fun _ wd61 v H62 hq => ?_
 clear H59 hd
 obtain ⟨b60, rfl, hq⟩ := hq
 replace hS : SH M X w [Ent.blk b60 [.int .u8 0, .int .u8 0, .int .u8 0, .int .u8 0], Ent.mpo b6 [([98, 108, 97, 99, 107], .agg ⟨[.int .u8 y9.Red, .int .u8 y9.Green, .int .u8 y9.Blue, .int .u8 y9.Alpha]⟩), ([119, 104, 105, 116, 101], .agg ⟨[.int .u8 y14.Red, .int .u8 y14.Green, .int .u8 y14.Blue, .int .u8 y14.Alpha]⟩), ([114, 101, 100], .agg ⟨[.int .u8 y19.Red, .int .u8 y19.Green, .int .u8 y19.Blue, .int .u8 y19.Alpha]⟩), ([108, 105, 109, 101], .agg ⟨[.int .u8 y24.Red, .int .u8 y24.Green, .int .u8 y24.Blue, .int .u8 y24.Alpha]⟩), ([98, 108, 117, 101], .agg ⟨[.int .u8 y29.Red, .int .u8 y29.Green, .int .u8 y29.Blue, .int .u8 y29.Alpha]⟩), ([121, 101, 108, 108, 111, 119], .agg ⟨[.int .u8 y34.Red, .int .u8 y34.Green, .int .u8 y34.Blue, .int .u8 y34.Alpha]⟩), ([103, 114, 97, 121], .agg ⟨[.int .u8 y39.Red, .int .u8 y39.Green, .int .u8 y39.Blue, .int .u8 y39.Alpha]⟩), ([116, 114, 97, 110, 115, 112, 97, 114, 101, 110, 116], .agg ⟨[.int .u8 0, .int .u8 0, .int .u8 0, .int .u8 0]⟩)], Ent.blk b1 [.int .u8 0, .int .u8 0, .int .u8 0, .int .u8 0]] _ := hS.join [] [0, 1] rfl rfl hq
 clear hq
 have hd := hS.hand [0] [1, 2] rfl rfl
 refine m_stp0 [2, 4, 21] [(2, [], .pointer (some ⟨b1, 0, none⟩)), (4, [], .pointer (some ⟨b60, 0, none⟩)), (21, [], .bool (decide (x51 < 8)))] H62 rfl rfl rfl (o_store [.int .u8 x54, .int .u8 x55, .int .u8 x56, .int .u8 x57] H62 hd rfl rfl (by kernel_rfl) rfl rfl rfl) rfl fun _ wd63 H64 hq => ?_
 clear H62 hd
 obtain ⟨_, hq⟩ := hq
 replace hS : SH M X w [Ent.blk b60 [.int .u8 x54, .int .u8 x55, .int .u8 x56, .int .u8 x57], Ent.mpo b6 [([98, 108, 97, 99, 107], .agg ⟨[.int .u8 y9.Red, .int .u8 y9.Green, .int .u8 y9.Blue, .int .u8 y9.Alpha]⟩), ([119, 104, 105, 116, 101], .agg ⟨[.int .u8 y14.Red, .int .u8 y14.Green, .int .u8 y14.Blue, .int .u8 y14.Alpha]⟩), ([114, 101, 100], .agg ⟨[.int .u8 y19.Red, .int .u8 y19.Green, .int .u8 y19.Blue, .int .u8 y19.Alpha]⟩), ([108, 105, 109, 101], .agg ⟨[.int .u8 y24.Red, .int .u8 y24.Green, .int .u8 y24.Blue, .int .u8 y24.Alpha]⟩), ([98, 108, 117, 101], .agg ⟨[.int .u8 y29.Red, .int .u8 y29.Green, .int .u8 y29.Blue, .int .u8 y29.Alpha]⟩), ([121, 101, 108, 108, 111, 119], .agg ⟨[.int .u8 y34.Red, .int .u8 y34.Green, .int .u8 y34.Blue, .int .u8 y34.Alpha]⟩), ([103, 114, 97, 121], .agg ⟨[.int .u8 y39.Red, .int .u8 y39.Green, .int .u8 y39.Blue, .int .u8 y39.Alpha]⟩), ([116, 114, 97, 110, 115, 112, 97, 114, 101, 110, 116], .agg ⟨[.int .u8 0, .int .u8 0, .int .u8 0, .int .u8 0]⟩)], Ent.blk b1 [.int .u8 0, .int .u8 0, .int .u8 0, .int .u8 0]] _ := hS.join [0] [1, 2] rfl rfl hq
 clear hq
 refine wl_batch 26 27 [] [2, 4, 5] [(2, [], .pointer (some ⟨b1, 0, none⟩)), (4, [], .pointer (some ⟨b60, 0, none⟩)), (5, [], .bool (decide (x51 < 8)))] [] H64 (by decide) (by kernel_rfl) trivial fun _ wd65 H66 hb => ?_
 clear H64
 replace hS := hS.below hb
 clear hb
 refine wl_end rfl ?_
 replace hS : SH M X w [Ent.blk b60 [.int .u8 x54, .int .u8 x55, .int .u8 x56, .int .u8 x57], Ent.blk b1 [.int .u8 0, .int .u8 0, .int .u8 0, .int .u8 0]] _ := hS.sel [0, 2] rfl
 refine w_seq ?_
 refine s_reg [] [2, 4, 23] [(2, [], .pointer (some ⟨b1, 0, none⟩)), (4, [], .pointer (some ⟨b60, 0, none⟩)), (23, [], .bool (!(decide (x51 < 8))))] [] H66 (by kernel_rfl) trivial fun _ wd67 H68 hb => ?_
 clear H66
 replace hS := hS.below hb
 clear hb
 refine w_if H68 rfl (fun hc => ?c81) (fun hc => ?_)
 case c81 =>
  replace hm := bT hc hm
  refine w_seq ?_
  refine wl_start ?_
  refine wl_batch 0 1 [] [2, 24] [(2, [], .pointer (some ⟨b1, 0, none⟩)), (24, [], .agg ⟨[.int .u8 0, .int .u8 0, .int .u8 0, .int .u8 0]⟩)] [] H68 (by decide) (by kernel_rfl) trivial fun _ wd69 H70 hb => ?_
  clear H68
  replace hS := hS.below hb
  clear hb
  have hd := hS.hand [1] [0] rfl rfl
  refine m_stp0 [2] [(2, [], .pointer (some ⟨b1, 0, none⟩))] H70 rfl rfl rfl (o_store [.int .u8 0, .int .u8 0, .int .u8 0, .int .u8 0] H70 hd rfl rfl (by kernel_rfl) rfl rfl rfl) rfl fun _ wd71 H72 hq => ?_
  clear H70 hd
  obtain ⟨_, hq⟩ := hq
  replace hS : SH M X w [Ent.blk b1 [.int .u8 0, .int .u8 0, .int .u8 0, .int .u8 0], Ent.blk b60 [.int .u8 x54, .int .u8 x55, .int .u8 x56, .int .u8 x57]] _ := hS.join [1] [0] rfl rfl hq
  clear hq
  refine wl_batch 2 3 [] [2, 3] [(2, [], .pointer (some ⟨b1, 0, none⟩)), (3, [], .int .i64 6)] [] H72 (by decide) (by kernel_rfl) trivial fun _ wd73 H74 hb => ?_
  clear H72
  replace hS := hS.below hb
  clear hb
  refine wl_end rfl ?_
  replace hS : SH M X w [Ent.blk b1 [.int .u8 0, .int .u8 0, .int .u8 0, .int .u8 0]] _ := hS.sel [0] rfl
  refine w_ret ?_
  obtain rfl := someE hm
  exact retR2 H74 rfl (oneRes_agg rfl (hS.bk 0 rfl) Tryd.underlying23 rfl (by kernel_rfl)) rfl ⟨_, rfl, rfl, (hS.sel [] rfl)⟩
 replace hm := bF hc hm
 refine w_skip ?_
 refine w_seq ?_
 refine wl_start ?_
 refine wl_batch 0 1 [(.agg ⟨[.int .u8 x54, .int .u8 x55, .int .u8 x56, .int .u8 x57]⟩)] [2, 25] [(2, [], .pointer (some ⟨b1, 0, none⟩)), (25, [], .agg ⟨[.int .u8 x54, .int .u8 x55, .int .u8 x56, .int .u8 x57]⟩)] [fun wz => V.atN b60 0 [.int .u8 x54, .int .u8 x55, .int .u8 x56, .int .u8 x57] 0 wz] H68 (by decide) (by kernel_rfl) ⟨((hS.bk 0 rfl).atD rfl), trivial⟩ fun _ wd75 H76 hb => ?_
 clear H68
 replace hS := hS.below hb
 clear hb
 have hd := hS.hand [1] [0] rfl rfl
 refine m_stp0 [2] [(2, [], .pointer (some ⟨b1, 0, none⟩))] H76 rfl rfl rfl (o_store [.int .u8 x54, .int .u8 x55, .int .u8 x56, .int .u8 x57] H76 hd rfl rfl (by kernel_rfl) rfl rfl rfl) rfl fun _ wd77 H78 hq => ?_
 clear H76 hd
 obtain ⟨_, hq⟩ := hq
 replace hS : SH M X w [Ent.blk b1 [.int .u8 x54, .int .u8 x55, .int .u8 x56, .int .u8 x57], Ent.blk b60 [.int .u8 x54, .int .u8 x55, .int .u8 x56, .int .u8 x57]] _ := hS.join [1] [0] rfl rfl hq
 clear hq
 refine wl_batch 2 3 [] [2, 3] [(2, [], .pointer (some ⟨b1, 0, none⟩)), (3, [], .int .i64 0)] [] H78 (by decide) (by kernel_rfl) trivial fun _ wd79 H80 hb => ?_
 clear H78
 replace hS := hS.below hb
 clear hb
 refine wl_end rfl ?_
 replace hS : SH M X w [Ent.blk b1 [.int .u8 x54, .int .u8 x55, .int .u8 x56, .int .u8 x57]] _ := hS.sel [0] rfl
 refine w_ret ?_
 obtain rfl := someE hm
 exact retR2 H80 rfl (oneRes_agg rfl (hS.bk 0 rfl) Tryd.underlying23 rfl (by kernel_rfl)) rfl ⟨_, rfl, rfl, (hS.sel [] rfl)⟩
theorem parseval_Named_ok  (m : Nat) (name_ : Str) (r : TColor × Int) (hm : parseval_Named m name_ = some r) : Ret Tryd.prog 6 ⟨[.string ⟨⟨name_⟩⟩]⟩ (.tuple ⟨[.agg ⟨[.int .u8 r.1.Red, .int .u8 r.1.Green, .int .u8 r.1.Blue, .int .u8 r.1.Alpha]⟩, .int .i64 r.2]⟩) := retP_of (Tryd.call6 _) (fun w h => parseval_Named_w F0 m   name_ r hm w h)

theorem r26_names_w  (M : Av)  (r : List Str) (hm : r26_names = r) (w : World) (hS : S0 M [] w) : Calls Tryd.prog 16 ⟨[]⟩ w (fun e w' => ∃ v, e = .returned v ∧ ∃ (g901 : Gh), v = .slice g901.a r.length g901.c ∧ SH M (fpl []) w [Ent.own 9 tS r g901] w') := by
 rw [r26_names] at hm
 have hS0 : SH M (fpl []) w [] w := hS
 generalize hX : fpl [] = X at hS0 ⊢
 clear hS hX
 have hS := hS0
 clear hS0
 refine calls_entryP Tryd.func16 rfl Tryd.ntmps16 rfl fun _ H => ?_
 refine s_reg [] [] [] [] H (by kernel_rfl) trivial fun _ wd1 H2 hb => ?_
 clear H
 replace hS := hS.below hb
 clear hb
 refine w_seq ?_
 refine wl_start ?_
 have hd := hS.hand [] [] rfl rfl
 refine m_stp [1] [] H2 rfl rfl rfl rfl (o_lit (T := tS) (E := 9) (zv := .string ⟨⟨[]⟩⟩) [.string ⟨⟨[98, 108, 97, 99, 107]⟩⟩, .string ⟨⟨[119, 104, 105, 116, 101]⟩⟩, .string ⟨⟨[114, 101, 100]⟩⟩, .string ⟨⟨[108, 105, 109, 101]⟩⟩, .string ⟨⟨[98, 108, 117, 101]⟩⟩, .string ⟨⟨[121, 101, 108, 108, 111, 119]⟩⟩, .string ⟨⟨[103, 114, 97, 121]⟩⟩, .string ⟨⟨[116, 114, 97, 110, 115, 112, 97, 114, 101, 110, 116]⟩⟩] ([[98, 108, 97, 99, 107], [119, 104, 105, 116, 101], [114, 101, 100], [108, 105, 109, 101], [98, 108, 117, 101], [121, 101, 108, 108, 111, 119], [103, 114, 97, 121], [116, 114, 97, 110, 115, 112, 97, 114, 101, 110, 116]] : List Str) [gL [], gL [], gL [], gL [], gL [], gL [], gL [], gL []] _ H2 hd rfl (by kernel_rfl) (by kernel_rfl) (by kernel_rfl) (by kernel_rfl) (by kernel_rfl) (by kernel_rfl) (by kernel_rfl) rfl (InnL.cons trivial (InnL.cons trivial (InnL.cons trivial (InnL.cons trivial (InnL.cons trivial (InnL.cons trivial (InnL.cons trivial (InnL.cons trivial InnL.nil))))))))) (fun _ => rfl) fun _ wd5 v H6 hq => ?_
 clear H2 hd
 obtain ⟨g3, rfl, hq⟩ := hq
 replace hS : SH M X w [Ent.own 9 tS ([[98, 108, 97, 99, 107], [119, 104, 105, 116, 101], [114, 101, 100], [108, 105, 109, 101], [98, 108, 117, 101], [121, 101, 108, 108, 111, 119], [103, 114, 97, 121], [116, 114, 97, 110, 115, 112, 97, 114, 101, 110, 116]] : List Str) g3] _ := hS.join [] [] rfl rfl hq
 clear hq
 refine wl_batch 1 2 [] [0] [(0, [], .slice g3.a 8 g3.c)] [] H6 (by decide) (by kernel_rfl) trivial fun _ wd7 H8 hb => ?_
 clear H6
 replace hS := hS.below hb
 clear hb
 refine wl_end rfl ?_
 refine w_ret ?_
 subst hm
 exact retR1 H8 rfl rfl ⟨_, rfl, g3, rfl, (hS.sel [0] rfl)⟩
theorem r26_names_ok   (r : List Str) (hm : r26_names = r) (M : Av) (w : World) (hS : S0 M [] w) : DoesX Tryd.prog 16 ⟨[]⟩ w (fun v w' => ∃ (g901 : Gh), v = .slice g901.a r.length g901.c ∧ SH M (fpl []) w [Ent.own 9 tS r g901] w') := ⟨Tryd.call16 _, r26_names_w M    r hm w hS⟩

theorem r26_colors_w  (M : Av)  (r : List TColor) (hm : r26_colors = r) (w : World) (hS : S0 M [] w) : Calls Tryd.prog 17 ⟨[]⟩ w (fun e w' => ∃ v, e = .returned v ∧ ∃ (g901 : Gh), v = .slice g901.a r.length g901.c ∧ SH M (fpl []) w [Ent.own 23 tyColor r g901] w') := by
 rw [r26_colors] at hm
 have hS0 : SH M (fpl []) w [] w := hS
 generalize hX : fpl [] = X at hS0 ⊢
 clear hS hX
 have hS := hS0
 clear hS0
 refine calls_entryP Tryd.func17 rfl Tryd.ntmps17 rfl fun _ H => ?_
 refine s_reg [] [] [] [] H (by kernel_rfl) trivial fun _ wd1 H2 hb => ?_
 clear H
 replace hS := hS.below hb
 clear hb
 refine w_seq ?_
 refine wl_start ?_
 refine wl_batch 0 8 [] [1, 2, 3, 4, 5, 6, 7, 8] [(1, [], .agg ⟨[.int .u8 0, .int .u8 0, .int .u8 0, .int .u8 255]⟩), (2, [], .agg ⟨[.int .u8 255, .int .u8 255, .int .u8 255, .int .u8 255]⟩), (3, [], .agg ⟨[.int .u8 255, .int .u8 0, .int .u8 0, .int .u8 255]⟩), (4, [], .agg ⟨[.int .u8 0, .int .u8 255, .int .u8 0, .int .u8 255]⟩), (5, [], .agg ⟨[.int .u8 0, .int .u8 0, .int .u8 255, .int .u8 255]⟩), (6, [], .agg ⟨[.int .u8 255, .int .u8 255, .int .u8 0, .int .u8 255]⟩), (7, [], .agg ⟨[.int .u8 128, .int .u8 128, .int .u8 128, .int .u8 255]⟩), (8, [], .agg ⟨[.int .u8 0, .int .u8 0, .int .u8 0, .int .u8 0]⟩)] [] H2 (by decide) (by kernel_rfl) trivial fun _ wd3 H4 hb => ?_
 clear H2
 replace hS := hS.below hb
 clear hb
 have hd := hS.hand [] [] rfl rfl
 refine m_stp [9] [] H4 rfl rfl rfl rfl (o_lit (T := tyColor) (E := 23) (zv := .agg ⟨[.int .u8 0, .int .u8 0, .int .u8 0, .int .u8 0]⟩) [.int .u8 0, .int .u8 0, .int .u8 0, .int .u8 255, .int .u8 255, .int .u8 255, .int .u8 255, .int .u8 255, .int .u8 255, .int .u8 0, .int .u8 0, .int .u8 255, .int .u8 0, .int .u8 255, .int .u8 0, .int .u8 255, .int .u8 0, .int .u8 0, .int .u8 255, .int .u8 255, .int .u8 255, .int .u8 255, .int .u8 0, .int .u8 255, .int .u8 128, .int .u8 128, .int .u8 128, .int .u8 255, .int .u8 0, .int .u8 0, .int .u8 0, .int .u8 0] ([(TColor.mk 0 0 0 255), (TColor.mk 255 255 255 255), (TColor.mk 255 0 0 255), (TColor.mk 0 255 0 255), (TColor.mk 0 0 255 255), (TColor.mk 255 255 0 255), (TColor.mk 128 128 128 255), (TColor.mk 0 0 0 0)] : List TColor) [gL [], gL [], gL [], gL [], gL [], gL [], gL [], gL []] _ H4 hd rfl (by kernel_rfl) (by kernel_rfl) (by kernel_rfl) (by kernel_rfl) (by kernel_rfl) (by kernel_rfl) (by kernel_rfl) rfl (InnL.cons trivial (InnL.cons trivial (InnL.cons trivial (InnL.cons trivial (InnL.cons trivial (InnL.cons trivial (InnL.cons trivial (InnL.cons trivial InnL.nil))))))))) (fun _ => rfl) fun _ wd7 v H8 hq => ?_
 clear H4 hd
 obtain ⟨g5, rfl, hq⟩ := hq
 replace hS : SH M X w [Ent.own 23 tyColor ([(TColor.mk 0 0 0 255), (TColor.mk 255 255 255 255), (TColor.mk 255 0 0 255), (TColor.mk 0 255 0 255), (TColor.mk 0 0 255 255), (TColor.mk 255 255 0 255), (TColor.mk 128 128 128 255), (TColor.mk 0 0 0 0)] : List TColor) g5] _ := hS.join [] [] rfl rfl hq
 clear hq
 refine wl_batch 9 10 [] [0] [(0, [], .slice g5.a 8 g5.c)] [] H8 (by decide) (by kernel_rfl) trivial fun _ wd9 H10 hb => ?_
 clear H8
 replace hS := hS.below hb
 clear hb
 refine wl_end rfl ?_
 refine w_ret ?_
 subst hm
 exact retR1 H10 rfl rfl ⟨_, rfl, g5, rfl, (hS.sel [0] rfl)⟩
theorem r26_colors_ok   (r : List TColor) (hm : r26_colors = r) (M : Av) (w : World) (hS : S0 M [] w) : DoesX Tryd.prog 17 ⟨[]⟩ w (fun v w' => ∃ (g901 : Gh), v = .slice g901.a r.length g901.c ∧ SH M (fpl []) w [Ent.own 23 tyColor r g901] w') := ⟨Tryd.call17 _, r26_colors_w M    r hm w hS⟩

theorem r26_Small_w  (M : Av) (m : Nat) (s : Str) (r : Str) (hm : r26_Small m s = some r) (w : World) (hS : S0 M [] w) : Calls Tryd.prog 18 ⟨[.string ⟨⟨s⟩⟩]⟩ w (fun e w' => ∃ v, e = .returned v ∧ v = .string ⟨⟨r⟩⟩ ∧ SH M (fpl []) w [] w') := by
 rw [r26_Small] at hm
 have hS0 : SH M (fpl []) w [] w := hS
 generalize hX : fpl [] = X at hS0 ⊢
 clear hS hX
 have hS := hS0
 clear hS0
 refine calls_entryP Tryd.func18 rfl Tryd.ntmps18 rfl fun _ H => ?_
 refine s_reg [] [0] [(0, [], .string ⟨⟨s⟩⟩)] [] H (by kernel_rfl) trivial fun _ wd1 H2 hb => ?_
 clear H
 replace hS := hS.below hb
 clear hb
 refine w_seq ?_
 refine wl_start ?_
 refine wl_batch 0 1 [] [5] [(5, [], .string ⟨⟨s⟩⟩)] [] H2 (by decide) (by kernel_rfl) trivial fun _ wd3 H4 hb => ?_
 clear H2
 replace hS := hS.below hb
 clear hb
 have hd := hS.hand [] [] rfl rfl
 refine m_stp [6] [] H4 rfl rfl rfl rfl (o_bytes (E := 5) H4 hd rfl (by kernel_rfl) (by kernel_rfl) (by kernel_rfl)) (fun _ => rfl) fun _ wd7 v H8 hq => ?_
 clear H4 hd
 obtain ⟨b5, c6, rfl, hc_b5, hq⟩ := hq
 replace hS : SH M X w [Ent.row .u8 b5 (ofB s) (ln (ofB s))] _ := hS.join [] [] rfl rfl hq
 clear hq
 refine wl_batch 2 3 [] [3] [(3, [], .slice (some ⟨b5, 0, none⟩) ((ofB s).length) c6)] [] H8 (by decide) (by kernel_rfl) trivial fun _ wd9 H10 hb => ?_
 clear H8
 replace hS := hS.below hb
 clear hb
 refine wl_end rfl ?_
 obtain ⟨z11, hz, hm⟩ := bindE hm
 refine w_cut (fun a' w' => Fr 33 [(3, [], .slice (some ⟨b5, 0, none⟩) ((ofB s).length) c6)] a' ∧ SH M X w [Ent.row .u8 b5 z11 (ln (ofB s))] w') ?_ ?_
 ·replace hm := hz
  refine s_reg [] [3, 4] [(3, [], .slice (some ⟨b5, 0, none⟩) ((ofB s).length) c6), (4, [], .int .i64 0)] [] H10 (by kernel_rfl) trivial fun _ wd12 H13 hb => ?_
  clear H10
  replace hS := hS.below hb
  clear hb
  refine w_block ?_
  refine w_loop (fun kk a' w' => ∃ (v14 : Int) (v15 : List Int), r26_Small_L1 m s kk v14 v15 = some _ ∧ Fr 33 [(3, [], .slice (some ⟨b5, 0, none⟩) ((ofB s).length) c6), (4, [], .int .i64 v14)] a' ∧ SH M X w [Ent.row .u8 b5 v15 (ln (ofB s))] w') ⟨_, 0, ofB s, hm, FrG.keep (ks := [3, 4]) H13 (by kernel_rfl), hS⟩ ?_
  clear hm H13 hS
  rintro kk _ wd33 ⟨v14, v15, hm, H, hS⟩
  cases kk with
  | zero => exact noneE hm
  | succ kk =>
   rw [r26_Small_L1] at hm
   refine w_seq ?_
   refine s_reg [] [3, 4, 10] [(3, [], .slice (some ⟨b5, 0, none⟩) ((ofB s).length) c6), (4, [], .int .i64 v14), (10, [], .bool (decide (v14 < (ln (ofB s)))))] [] H (by kernel_rfl) trivial fun _ wd16 H17 hb => ?_
   clear H
   replace hS := hS.below hb
   clear hb
   refine w_if H17 rfl (fun hc => ?_) (fun hc => ?c32)
   case c32 =>
    replace hm := bF hc hm
    refine w_exit rfl ?_
    obtain rfl := someE hm
    exact ⟨FrG.keep (ks := [3]) H17 (by kernel_rfl), hS⟩
   replace hm := bT hc hm
   refine w_skip ?_
   obtain ⟨z18, hz, hm⟩ := bindE hm
   refine w_cut (fun a' w' => Fr 33 [(3, [], .slice (some ⟨b5, 0, none⟩) ((ofB s).length) c6), (4, [], .int .i64 v14)] a' ∧ SH M X w [Ent.row .u8 b5 z18 (ln (ofB s))] w') ?_ ?_
   ·replace hm := hz
    refine w_block ?_
    obtain ⟨ho19, hm⟩ := chkE hm
    obtain ⟨x20, hx20, hm⟩ := letE hm
    refine s_reg [(.int .u8 (gi v15 v14)), (.int .u8 (gi v15 v14))] [3, 4, 24] [(3, [], .slice (some ⟨b5, 0, none⟩) ((ofB s).length) c6), (4, [], .int .i64 v14), (24, [], .bool x20)] [fun _ => oka (some ⟨b5, 0, none⟩) ∧ 0 ≤ v14 ∧ v14 < ln (ofB s), fun wz => V.at1 ⟨b5, 0 + (v14).toNat * 1, none⟩ (.int .u8 (gi v15 v14)) wz, fun _ => ((decide (65 ≤ (gi v15 v14))) = true ∧ True → oka (some ⟨b5, 0, none⟩) ∧ 0 ≤ v14 ∧ v14 < ln (ofB s)), fun wz => ((decide (65 ≤ (gi v15 v14))) = true ∧ True → V.at1 ⟨b5, 0 + (v14).toNat * 1, none⟩ (.int .u8 (gi v15 v14)) wz)] H17 (by subst hx20; kernel_rfl) ⟨(⟨rfl, ho19⟩), (Rw.ixn (hS.rw 0 rfl) ho19), fun hg => ⟨rfl, ho19⟩, fun hg => (Rw.ixn (hS.rw 0 rfl) ho19), trivial⟩ fun _ wd21 H22 hb => ?_
    clear H17
    replace hS := hS.below hb
    clear hb
    refine w_if H22 rfl (fun hc => ?_) (fun hc => ?c28)
    case c28 =>
     replace hm := bF hc hm
     refine w_skip ?_
     obtain rfl := someE hm
     exact ⟨FrG.keep (ks := [3, 4]) H22 (by kernel_rfl), hS⟩
    replace hm := bT hc hm
    refine wl_start ?_
    refine wl_batch 0 6 [(.int .u8 (gi v15 v14))] [3, 4, 29, 30] [(3, [], .slice (some ⟨b5, 0, none⟩) ((ofB s).length) c6), (4, [], .int .i64 v14), (29, [], .int .u8 (wu8 ((gi v15 v14) + 32))), (30, [], .pointer (some ⟨b5, 0 + (v14).toNat * 1, none⟩))] [fun _ => oka (some ⟨b5, 0, none⟩) ∧ 0 ≤ v14 ∧ v14 < ln (ofB s), fun wz => V.at1 ⟨b5, 0 + (v14).toNat * 1, none⟩ (.int .u8 (gi v15 v14)) wz, fun _ => oka (some ⟨b5, 0, none⟩) ∧ 0 ≤ v14 ∧ v14 < ln (ofB s)] H22 (by decide) (by kernel_rfl) ⟨(⟨rfl, ho19⟩), (Rw.ixn (hS.rw 0 rfl) ho19), (⟨rfl, ho19⟩), trivial⟩ fun _ wd23 H24 hb => ?_
    clear H22
    replace hS := hS.below hb
    clear hb
    have hd := hS.hand [0] [] rfl rfl
    refine m_stp0 [3, 4] [(3, [], .slice (some ⟨b5, 0, none⟩) ((ofB s).length) c6), (4, [], .int .i64 v14)] H24 rfl rfl rfl (o_rstore H24 hd rfl rfl (by kernel_rfl) ho19) rfl fun _ wd25 H26 hq => ?_
    clear H24 hd
    obtain ⟨_, hq⟩ := hq
    obtain ⟨q27, hq27, hm⟩ := letE hm
    rw [← hq27] at hq
    replace hS : SH M X w [Ent.row .u8 b5 q27 (ln (ofB s))] _ := hS.join [0] [] rfl rfl hq
    clear hq
    refine wl_end rfl ?_
    obtain rfl := someE hm
    exact ⟨FrG.keep (ks := [3, 4]) H26 (by kernel_rfl), hS⟩
   ·rintro _ wd31 ⟨H, hS⟩
    refine w_reg [] [3, 4] [(3, [], .slice (some ⟨b5, 0, none⟩) ((ofB s).length) c6), (4, [], .int .i64 (w64 (v14 + 1)))] [] H (by kernel_rfl) trivial fun _ wd29 H30 hb => ?_
    clear H
    replace hS := hS.below hb
    clear hb
    exact ⟨_, Nat.lt_succ_self _, w64 (v14 + 1), z18, hm, FrG.keep (ks := [3, 4]) H30 (by kernel_rfl), hS⟩
 ·rintro _ wd36 ⟨H, hS⟩
  refine s_reg [(.string ⟨⟨toB z11⟩⟩)] [2] [(2, [], .string ⟨⟨toB z11⟩⟩)] [fun wz => ∀ w', Below wz.heap.size wz w' → (convert 50 9 (.slice (some ⟨b5, 0, none⟩) ((ofB s).length) c6)).run Tryd.prog w' = .ok (.string ⟨⟨toB z11⟩⟩) w'] H (by kernel_rfl) ⟨(conv_row (E := 5) (by kernel_rfl) (by kernel_rfl) (by kernel_rfl) (hS.rw 0 rfl).1 (hS.rw 0 rfl).2), trivial⟩ fun _ wd34 H35 hb => ?_
  clear H
  replace hS := hS.below hb
  clear hb
  replace hS : SH M X w [] _ := hS.sel [] rfl
  refine w_ret ?_
  obtain rfl := someE hm
  exact retR1 H35 rfl rfl ⟨_, rfl, rfl, (hS.sel [] rfl)⟩
theorem r26_Small_ok  (m : Nat) (s : Str) (r : Str) (hm : r26_Small m s = some r) : Ret Tryd.prog 18 ⟨[.string ⟨⟨s⟩⟩]⟩ (.string ⟨⟨r⟩⟩) := retP_of (Tryd.call18 _) (fun w h => r26_Small_w F0 m   s r hm w h)

theorem r26_Named_w  (M : Av) (m : Nat) (s : Str) (r : TColor × Int) (hm : r26_Named m s = some r) (w : World) (hS : S0 M [] w) : Calls Tryd.prog 7 ⟨[.string ⟨⟨s⟩⟩]⟩ w (fun e w' => ∃ v, e = .returned v ∧ v = .tuple ⟨[.agg ⟨[.int .u8 r.1.Red, .int .u8 r.1.Green, .int .u8 r.1.Blue, .int .u8 r.1.Alpha]⟩, .int .i64 r.2]⟩ ∧ SH M (fpl []) w [] w') := by
 rw [r26_Named] at hm
 have hS0 : SH M (fpl []) w [] w := hS
 generalize hX : fpl [] = X at hS0 ⊢
 clear hS hX
 have hS := hS0
 clear hS0
 refine calls_entryP Tryd.func7 rfl Tryd.ntmps7 rfl fun _ H => ?_
 refine w_seq ?_
 refine wl_start ?_
 have hd := hS.hand [] [] rfl rfl
 refine m_stp [2, 0] [(0, [], .string ⟨⟨s⟩⟩)] H rfl rfl rfl rfl (o_alloc [.int .u8 0, .int .u8 0, .int .u8 0, .int .u8 0] (z := .agg ⟨[.int .u8 0, .int .u8 0, .int .u8 0, .int .u8 0]⟩) hd (by kernel_rfl) rfl) (fun _ => rfl) fun _ wd2 v H3 hq => ?_
 clear H hd
 obtain ⟨b1, rfl, hq⟩ := hq
 replace hS : SH M X w [Ent.blk b1 [.int .u8 0, .int .u8 0, .int .u8 0, .int .u8 0]] _ := hS.join [] [] rfl rfl hq
 clear hq
 refine wl_batch 1 2 [] [0, 2] [(0, [], .string ⟨⟨s⟩⟩), (2, [], .pointer (some ⟨b1, 0, none⟩))] [] H3 (by decide) (by kernel_rfl) trivial fun _ wd4 H5 hb => ?_
 clear H3
 replace hS := hS.below hb
 clear hb
 refine wl_end rfl ?_
 refine w_seq ?_
 refine wl_start ?_
 obtain ⟨y6, hy6, hm⟩ := letE hm
 have hd := hS.hand [] [0] rfl rfl
 refine m_stp [7, 0, 2] [(0, [], .string ⟨⟨s⟩⟩), (2, [], .pointer (some ⟨b1, 0, none⟩))] H5 rfl rfl rfl rfl (o_callx H5 rfl rfl (r26_names_ok _ hy6.symm _ _ hd)) (fun _ => rfl) fun _ wd9 v H10 hq => ?_
 clear H5 hd
 obtain ⟨g7, rfl, hq⟩ := hq
 replace hS : SH M X w [Ent.own 9 tS y6 g7, Ent.blk b1 [.int .u8 0, .int .u8 0, .int .u8 0, .int .u8 0]] _ := hS.join [] [0] rfl rfl hq
 clear hq
 obtain ⟨y11, hy11, hm⟩ := letE hm
 have hd := hS.hand [] [0, 1] rfl rfl
 refine m_stp [8, 0, 2, 7] [(0, [], .string ⟨⟨s⟩⟩), (2, [], .pointer (some ⟨b1, 0, none⟩)), (7, [], .slice g7.a y6.length g7.c)] H10 rfl rfl rfl rfl (o_callx H10 rfl rfl (r26_colors_ok _ hy11.symm _ _ hd)) (fun _ => rfl) fun _ wd14 v H15 hq => ?_
 clear H10 hd
 obtain ⟨g12, rfl, hq⟩ := hq
 replace hS : SH M X w [Ent.own 23 tyColor y11 g12, Ent.own 9 tS y6 g7, Ent.blk b1 [.int .u8 0, .int .u8 0, .int .u8 0, .int .u8 0]] _ := hS.join [] [0, 1] rfl rfl hq
 clear hq
 refine wl_batch 2 4 [] [0, 2, 4, 5] [(0, [], .string ⟨⟨s⟩⟩), (2, [], .pointer (some ⟨b1, 0, none⟩)), (4, [], .slice g7.a y6.length g7.c), (5, [], .slice g12.a y11.length g12.c)] [] H15 (by decide) (by kernel_rfl) trivial fun _ wd16 H17 hb => ?_
 clear H15
 replace hS := hS.below hb
 clear hb
 refine wl_end rfl ?_
 obtain ⟨z18, hz, hm_z18⟩ := bindE hm
 refine w_cut (fun a' w' => ∃ s_z18 : Unit, z18 = Sum.inr s_z18 ∧ Fr 27 [(2, [], .pointer (some ⟨b1, 0, none⟩))] a' ∧ SH M X w [Ent.own 23 tyColor y11 g12, Ent.own 9 tS y6 g7, Ent.blk b1 [.int .u8 0, .int .u8 0, .int .u8 0, .int .u8 0]] w') ?_ ?_
 ·replace hm := hz
  refine s_reg [] [0, 2, 4, 5, 6] [(0, [], .string ⟨⟨s⟩⟩), (2, [], .pointer (some ⟨b1, 0, none⟩)), (4, [], .slice g7.a y6.length g7.c), (5, [], .slice g12.a y11.length g12.c), (6, [], .int .i64 0)] [] H17 (by kernel_rfl) trivial fun _ wd19 H20 hb => ?_
  clear H17
  replace hS := hS.below hb
  clear hb
  refine w_block ?_
  refine w_loop (fun kk a' w' => ∃ (v21 : Int), r26_Named_L1 m s y6 y11 kk v21 = some _ ∧ Fr 27 [(0, [], .string ⟨⟨s⟩⟩), (2, [], .pointer (some ⟨b1, 0, none⟩)), (4, [], .slice g7.a y6.length g7.c), (5, [], .slice g12.a y11.length g12.c), (6, [], .int .i64 v21)] a' ∧ SH M X w [Ent.own 23 tyColor y11 g12, Ent.own 9 tS y6 g7, Ent.blk b1 [.int .u8 0, .int .u8 0, .int .u8 0, .int .u8 0]] w') ⟨_, 0, hm, FrG.keep (ks := [0, 2, 4, 5, 6]) H20 (by kernel_rfl), hS⟩ ?_
  clear hm H20 hS
  rintro kk _ wd39 ⟨v21, hm, H, hS⟩
  cases kk with
  | zero => exact noneE hm
  | succ kk =>
   rw [r26_Named_L1] at hm
   refine w_seq ?_
   refine s_reg [] [0, 2, 4, 5, 6, 12] [(0, [], .string ⟨⟨s⟩⟩), (2, [], .pointer (some ⟨b1, 0, none⟩)), (4, [], .slice g7.a y6.length g7.c), (5, [], .slice g12.a y11.length g12.c), (6, [], .int .i64 v21), (12, [], .bool (decide (v21 < (ln y6))))] [] H (by kernel_rfl) trivial fun _ wd22 H23 hb => ?_
   clear H
   replace hS := hS.below hb
   clear hb
   refine w_if H23 rfl (fun hc => ?_) (fun hc => ?c38)
   case c38 =>
    replace hm := bF hc hm
    refine w_exit rfl ?_
    obtain rfl := someE hm
    exact ⟨_, rfl, FrG.keep (ks := [2]) H23 (by kernel_rfl), hS⟩
   replace hm := bT hc hm
   refine w_skip ?_
   refine w_seq ?_
   refine w_block ?_
   obtain ⟨ho24, hm⟩ := chkE hm
   obtain ⟨y25, hy25, hm⟩ := bindE hm
   refine s_draw [(.string ⟨⟨(gi y6 v21)⟩⟩), (.string ⟨⟨y25⟩⟩)] [0, 2, 4, 5, 6, 21] [(0, [], .string ⟨⟨s⟩⟩), (2, [], .pointer (some ⟨b1, 0, none⟩)), (4, [], .slice g7.a y6.length g7.c), (5, [], .slice g12.a y11.length g12.c), (6, [], .int .i64 v21), (21, [], .bool ((gi y6 v21) == y25))] [fun _ => oka g7.a ∧ 0 ≤ v21 ∧ v21 < ln y6, fun wz => V.at1 ⟨ab g7.a, ao g7.a + (v21).toNat * 1, none⟩ (.string ⟨⟨(gi y6 v21)⟩⟩) wz, fun wz => RetB Tryd.prog 18 ⟨[.string ⟨⟨s⟩⟩]⟩ (.string ⟨⟨y25⟩⟩) wz] H23 (by kernel_rfl) (by kernel_rfl) (by kernel_rfl) ⟨((hS.osl 1 rfl).oki ho24), ((hS.osl 1 rfl).at1 ho24 0 rfl), ((r26_Small_ok m _ _ hy25).b), trivial⟩ fun _ wd26 H27 hb => ?_
   clear H23
   replace hS := hS.below hb
   clear hb
   refine w_if H27 rfl (fun hc => ?_) (fun hc => ?c37)
   case c37 =>
    replace hm := bF hc hm
    refine w_skip ?_
    refine w_reg [] [0, 2, 4, 5, 6] [(0, [], .string ⟨⟨s⟩⟩), (2, [], .pointer (some ⟨b1, 0, none⟩)), (4, [], .slice g7.a y6.length g7.c), (5, [], .slice g12.a y11.length g12.c), (6, [], .int .i64 (w64 (v21 + 1)))] [] H27 (by kernel_rfl) trivial fun _ wd35 H36 hb => ?_
    clear H27
    replace hS := hS.below hb
    clear hb
    exact ⟨_, Nat.lt_succ_self _, w64 (v21 + 1), hm, FrG.keep (ks := [0, 2, 4, 5, 6]) H36 (by kernel_rfl), hS⟩
   replace hm := bT hc hm
   refine w_seq ?_
   refine wl_start ?_
   obtain ⟨ho28, hm⟩ := chkE hm
   refine wl_batch 0 4 [(.agg ⟨[.int .u8 ((gi y11 v21).Red), .int .u8 ((gi y11 v21).Green), .int .u8 ((gi y11 v21).Blue), .int .u8 ((gi y11 v21).Alpha)]⟩)] [2, 25] [(2, [], .pointer (some ⟨b1, 0, none⟩)), (25, [], .agg ⟨[.int .u8 ((gi y11 v21).Red), .int .u8 ((gi y11 v21).Green), .int .u8 ((gi y11 v21).Blue), .int .u8 ((gi y11 v21).Alpha)]⟩)] [fun _ => oka g12.a ∧ 0 ≤ v21 ∧ v21 < ln y11, fun wz => V.atN (ab g12.a) (ao g12.a + (v21).toNat * 4) [.int .u8 ((gi y11 v21).Red), .int .u8 ((gi y11 v21).Green), .int .u8 ((gi y11 v21).Blue), .int .u8 ((gi y11 v21).Alpha)] 0 wz] H27 (by decide) (by kernel_rfl) ⟨((hS.osl 0 rfl).oki ho28), ((hS.osl 0 rfl).atA ho28 0 rfl), trivial⟩ fun _ wd29 H30 hb => ?_
   clear H27
   replace hS := hS.below hb
   clear hb
   have hd := hS.hand [2] [0, 1] rfl rfl
   refine m_stp0 [2] [(2, [], .pointer (some ⟨b1, 0, none⟩))] H30 rfl rfl rfl (o_store [.int .u8 ((gi y11 v21).Red), .int .u8 ((gi y11 v21).Green), .int .u8 ((gi y11 v21).Blue), .int .u8 ((gi y11 v21).Alpha)] H30 hd rfl rfl (by kernel_rfl) rfl rfl rfl) rfl fun _ wd31 H32 hq => ?_
   clear H30 hd
   obtain ⟨_, hq⟩ := hq
   replace hS : SH M X w [Ent.blk b1 [.int .u8 ((gi y11 v21).Red), .int .u8 ((gi y11 v21).Green), .int .u8 ((gi y11 v21).Blue), .int .u8 ((gi y11 v21).Alpha)], Ent.own 23 tyColor y11 g12, Ent.own 9 tS y6 g7] _ := hS.join [2] [0, 1] rfl rfl hq
   clear hq
   refine wl_batch 5 6 [] [2, 3] [(2, [], .pointer (some ⟨b1, 0, none⟩)), (3, [], .int .i64 0)] [] H32 (by decide) (by kernel_rfl) trivial fun _ wd33 H34 hb => ?_
   clear H32
   replace hS := hS.below hb
   clear hb
   refine wl_end rfl ?_
   refine w_ret ?_
   obtain rfl := someE hm
   have hm := hm_z18
   obtain rfl := someE hm
   exact retR2 H34 rfl (oneRes_agg rfl (hS.bk 0 rfl) Tryd.underlying23 rfl (by kernel_rfl)) rfl ⟨_, rfl, rfl, (hS.sel [] rfl)⟩
 ·rintro _ wd46 ⟨s_z18, hz, H, hS⟩
  subst hz
  replace hm := sumR hm_z18
  replace hS : SH M X w [Ent.blk b1 [.int .u8 0, .int .u8 0, .int .u8 0, .int .u8 0]] _ := hS.sel [2] rfl
  refine w_seq ?_
  refine wl_start ?_
  refine wl_batch 0 1 [] [2, 26] [(2, [], .pointer (some ⟨b1, 0, none⟩)), (26, [], .agg ⟨[.int .u8 0, .int .u8 0, .int .u8 0, .int .u8 0]⟩)] [] H (by decide) (by kernel_rfl) trivial fun _ wd40 H41 hb => ?_
  clear H
  replace hS := hS.below hb
  clear hb
  have hd := hS.hand [0] [] rfl rfl
  refine m_stp0 [2] [(2, [], .pointer (some ⟨b1, 0, none⟩))] H41 rfl rfl rfl (o_store [.int .u8 0, .int .u8 0, .int .u8 0, .int .u8 0] H41 hd rfl rfl (by kernel_rfl) rfl rfl rfl) rfl fun _ wd42 H43 hq => ?_
  clear H41 hd
  obtain ⟨_, hq⟩ := hq
  replace hS : SH M X w [Ent.blk b1 [.int .u8 0, .int .u8 0, .int .u8 0, .int .u8 0]] _ := hS.join [0] [] rfl rfl hq
  clear hq
  refine wl_batch 2 3 [] [2, 3] [(2, [], .pointer (some ⟨b1, 0, none⟩)), (3, [], .int .i64 6)] [] H43 (by decide) (by kernel_rfl) trivial fun _ wd44 H45 hb => ?_
  clear H43
  replace hS := hS.below hb
  clear hb
  refine wl_end rfl ?_
  refine w_ret ?_
  obtain rfl := someE hm
  exact retR2 H45 rfl (oneRes_agg rfl (hS.bk 0 rfl) Tryd.underlying23 rfl (by kernel_rfl)) rfl ⟨_, rfl, rfl, (hS.sel [] rfl)⟩
theorem r26_Named_ok  (m : Nat) (s : Str) (r : TColor × Int) (hm : r26_Named m s = some r) : Ret Tryd.prog 7 ⟨[.string ⟨⟨s⟩⟩]⟩ (.tuple ⟨[.agg ⟨[.int .u8 r.1.Red, .int .u8 r.1.Green, .int .u8 r.1.Blue, .int .u8 r.1.Alpha]⟩, .int .i64 r.2]⟩) := retP_of (Tryd.call7 _) (fun w h => r26_Named_w F0 m   s r hm w h)

theorem law26_ParsevalWrites_w  (M : Av) (m : Nat) (v_ : TVal) (c_ : TColor) (name_ : Str) (r : Bool) (hm : law26_ParsevalWrites m v_ c_ name_ = some r) (w : World) (hS : S0 M [Ent.tab 0 (Lib.pow10Tab.map fun z => Value.int .u64 z), gE3] w) : Calls Tryd.prog 3 ⟨[.agg ⟨[.int .u8 v_.Kind, .string ⟨⟨v_.Word⟩⟩, .int .i64 v_.Num, .int .u8 v_.Color.Red, .int .u8 v_.Color.Green, .int .u8 v_.Color.Blue, .int .u8 v_.Color.Alpha]⟩, .agg ⟨[.int .u8 c_.Red, .int .u8 c_.Green, .int .u8 c_.Blue, .int .u8 c_.Alpha]⟩, .string ⟨⟨name_⟩⟩]⟩ w (fun e w' => ∃ v, e = .returned v ∧ v = .bool r ∧ SH M (fpl [Ent.tab 0 (Lib.pow10Tab.map fun z => Value.int .u64 z), gE3]) w [] w') := by
 rw [law26_ParsevalWrites] at hm
 have hS0 : SH M (fpl [Ent.tab 0 (Lib.pow10Tab.map fun z => Value.int .u64 z), gE3]) w [Ent.tab 0 (Lib.pow10Tab.map fun z => Value.int .u64 z), gE3] w := hS
 generalize hX : fpl [Ent.tab 0 (Lib.pow10Tab.map fun z => Value.int .u64 z), gE3] = X at hS0 ⊢
 clear hS hX
 have hS := hS0
 clear hS0
 refine calls_entryP Tryd.func3 rfl Tryd.ntmps3 rfl fun _ H => ?_
 refine w_seq ?_
 refine wl_start ?_
 have hd := hS.hand [] [0, 1] rfl rfl
 refine m_stp [3, 1, 2] [(1, [], .agg ⟨[.int .u8 c_.Red, .int .u8 c_.Green, .int .u8 c_.Blue, .int .u8 c_.Alpha]⟩), (2, [], .string ⟨⟨name_⟩⟩)] H rfl rfl rfl rfl (o_box [.int .u8 v_.Kind, .string ⟨⟨v_.Word⟩⟩, .int .i64 v_.Num, .int .u8 v_.Color.Red, .int .u8 v_.Color.Green, .int .u8 v_.Color.Blue, .int .u8 v_.Color.Alpha] H hd rfl rfl) (fun _ => rfl) fun _ wd2 v H3 hq => ?_
 clear H hd
 obtain ⟨b1, rfl, hq⟩ := hq
 replace hS : SH M X w [Ent.blk b1 [.int .u8 v_.Kind, .string ⟨⟨v_.Word⟩⟩, .int .i64 v_.Num, .int .u8 v_.Color.Red, .int .u8 v_.Color.Green, .int .u8 v_.Color.Blue, .int .u8 v_.Color.Alpha], Ent.tab 0 (Lib.pow10Tab.map fun z => Value.int .u64 z), gE3] _ := hS.join [] [0, 1] rfl rfl hq
 clear hq
 have hd := hS.hand [] [0, 1, 2] rfl rfl
 refine m_stp [4, 2, 3] [(2, [], .string ⟨⟨name_⟩⟩), (3, [], .pointer (some ⟨b1, 0, none⟩))] H3 rfl rfl rfl rfl (o_box [.int .u8 c_.Red, .int .u8 c_.Green, .int .u8 c_.Blue, .int .u8 c_.Alpha] H3 hd rfl rfl) (fun _ => rfl) fun _ wd5 v H6 hq => ?_
 clear H3 hd
 obtain ⟨b4, rfl, hq⟩ := hq
 replace hS : SH M X w [Ent.blk b4 [.int .u8 c_.Red, .int .u8 c_.Green, .int .u8 c_.Blue, .int .u8 c_.Alpha], Ent.blk b1 [.int .u8 v_.Kind, .string ⟨⟨v_.Word⟩⟩, .int .i64 v_.Num, .int .u8 v_.Color.Red, .int .u8 v_.Color.Green, .int .u8 v_.Color.Blue, .int .u8 v_.Color.Alpha], Ent.tab 0 (Lib.pow10Tab.map fun z => Value.int .u64 z), gE3] _ := hS.join [] [0, 1, 2] rfl rfl hq
 clear hq
 refine wl_batch 2 3 [] [2, 3, 4] [(2, [], .string ⟨⟨name_⟩⟩), (3, [], .pointer (some ⟨b1, 0, none⟩)), (4, [], .pointer (some ⟨b4, 0, none⟩))] [] H6 (by decide) (by kernel_rfl) trivial fun _ wd7 H8 hb => ?_
 clear H6
 replace hS := hS.below hb
 clear hb
 refine wl_end rfl ?_
 refine w_seq ?_
 obtain ⟨x9, hx9, hm⟩ := letE hm
 refine s_reg [(.string ⟨⟨v_.Word⟩⟩)] [2, 3, 4, 23] [(2, [], .string ⟨⟨name_⟩⟩), (3, [], .pointer (some ⟨b1, 0, none⟩)), (4, [], .pointer (some ⟨b4, 0, none⟩)), (23, [], .bool x9)] [fun wz => V.at1 ⟨b1, 1, none⟩ (.string ⟨⟨v_.Word⟩⟩) wz] H8 (by subst hx9; kernel_rfl) ⟨((hS.bk 1 rfl).at1 rfl), trivial⟩ fun _ wd10 H11 hb => ?_
 clear H8
 replace hS := hS.below hb
 clear hb
 refine w_if H11 rfl (fun hc => ?c47) (fun hc => ?_)
 case c47 =>
  replace hm := bT hc hm
  refine s_reg [] [6] [(6, [], .bool true)] [] H11 (by kernel_rfl) trivial fun _ wd12 H13 hb => ?_
  clear H11
  replace hS := hS.below hb
  clear hb
  replace hS : SH M X w [Ent.tab 0 (Lib.pow10Tab.map fun z => Value.int .u64 z), gE3] _ := hS.sel [2, 3] rfl
  refine w_ret ?_
  obtain rfl := someE hm
  exact retR1 H13 rfl rfl ⟨_, rfl, rfl, (hS.sel [] rfl)⟩
 replace hm := bF hc hm
 refine w_skip ?_
 obtain ⟨y14, hy14, hm⟩ := bindE hm
 refine s_reg [(.agg ⟨[.int .u8 v_.Kind, .string ⟨⟨v_.Word⟩⟩, .int .i64 v_.Num, .int .u8 v_.Color.Red, .int .u8 v_.Color.Green, .int .u8 v_.Color.Blue, .int .u8 v_.Color.Alpha]⟩), (.tuple ⟨[.string ⟨⟨y14.1⟩⟩, .int .i64 y14.2]⟩)] [2, 3, 4, 7, 8] [(2, [], .string ⟨⟨name_⟩⟩), (3, [], .pointer (some ⟨b1, 0, none⟩)), (4, [], .pointer (some ⟨b4, 0, none⟩)), (7, [], .string ⟨⟨y14.1⟩⟩), (8, [], .int .i64 y14.2)] [fun wz => V.atN b1 0 [.int .u8 v_.Kind, .string ⟨⟨v_.Word⟩⟩, .int .i64 v_.Num, .int .u8 v_.Color.Red, .int .u8 v_.Color.Green, .int .u8 v_.Color.Blue, .int .u8 v_.Color.Alpha] 0 wz, fun wz => RetB Tryd.prog 4 ⟨[.agg ⟨[.int .u8 v_.Kind, .string ⟨⟨v_.Word⟩⟩, .int .i64 v_.Num, .int .u8 v_.Color.Red, .int .u8 v_.Color.Green, .int .u8 v_.Color.Blue, .int .u8 v_.Color.Alpha]⟩]⟩ (.tuple ⟨[.string ⟨⟨y14.1⟩⟩, .int .i64 y14.2]⟩) wz] H11 (by kernel_rfl) ⟨((hS.bk 1 rfl).atD rfl), (parseval_Write_ok m _ _ hy14 _ (s0tab (s0im s0nil (hS.im 3 rfl)) (hS.at 2 rfl))), trivial⟩ fun _ wd15 H16 hb => ?_
 clear H11
 replace hS := hS.below hb
 clear hb
 obtain ⟨y17, hy17, hm⟩ := bindE hm
 refine s_reg [(.agg ⟨[.int .u8 v_.Kind, .string ⟨⟨v_.Word⟩⟩, .int .i64 v_.Num, .int .u8 v_.Color.Red, .int .u8 v_.Color.Green, .int .u8 v_.Color.Blue, .int .u8 v_.Color.Alpha]⟩), (.tuple ⟨[.string ⟨⟨y17.1⟩⟩, .int .i64 y17.2]⟩)] [2, 4, 7, 8, 9, 10] [(2, [], .string ⟨⟨name_⟩⟩), (4, [], .pointer (some ⟨b4, 0, none⟩)), (7, [], .string ⟨⟨y14.1⟩⟩), (8, [], .int .i64 y14.2), (9, [], .string ⟨⟨y17.1⟩⟩), (10, [], .int .i64 y17.2)] [fun wz => V.atN b1 0 [.int .u8 v_.Kind, .string ⟨⟨v_.Word⟩⟩, .int .i64 v_.Num, .int .u8 v_.Color.Red, .int .u8 v_.Color.Green, .int .u8 v_.Color.Blue, .int .u8 v_.Color.Alpha] 0 wz, fun wz => RetB Tryd.prog 5 ⟨[.agg ⟨[.int .u8 v_.Kind, .string ⟨⟨v_.Word⟩⟩, .int .i64 v_.Num, .int .u8 v_.Color.Red, .int .u8 v_.Color.Green, .int .u8 v_.Color.Blue, .int .u8 v_.Color.Alpha]⟩]⟩ (.tuple ⟨[.string ⟨⟨y17.1⟩⟩, .int .i64 y17.2]⟩) wz] H16 (by kernel_rfl) ⟨((hS.bk 1 rfl).atD rfl), ((r26_Write_ok m _ _ hy17).b), trivial⟩ fun _ wd18 H19 hb => ?_
 clear H16
 replace hS := hS.below hb
 clear hb
 replace hS : SH M X w [Ent.blk b4 [.int .u8 c_.Red, .int .u8 c_.Green, .int .u8 c_.Blue, .int .u8 c_.Alpha], Ent.tab 0 (Lib.pow10Tab.map fun z => Value.int .u64 z), gE3] _ := hS.sel [0, 2, 3] rfl
 refine w_seq ?_
 refine wl_start ?_
 obtain ⟨y20, hy20, hm⟩ := bindE hm
 refine wl_batch 0 5 [(.tuple ⟨[.agg ⟨[.int .u8 y20.1.Red, .int .u8 y20.1.Green, .int .u8 y20.1.Blue, .int .u8 y20.1.Alpha]⟩, .int .i64 y20.2]⟩)] [2, 4, 7, 8, 9, 10, 37, 38] [(2, [], .string ⟨⟨name_⟩⟩), (4, [], .pointer (some ⟨b4, 0, none⟩)), (7, [], .string ⟨⟨y14.1⟩⟩), (8, [], .int .i64 y14.2), (9, [], .string ⟨⟨y17.1⟩⟩), (10, [], .int .i64 y17.2), (37, [], .agg ⟨[.int .u8 y20.1.Red, .int .u8 y20.1.Green, .int .u8 y20.1.Blue, .int .u8 y20.1.Alpha]⟩), (38, [], .int .i64 y20.2)] [fun wz => RetB Tryd.prog 6 ⟨[.string ⟨⟨name_⟩⟩]⟩ (.tuple ⟨[.agg ⟨[.int .u8 y20.1.Red, .int .u8 y20.1.Green, .int .u8 y20.1.Blue, .int .u8 y20.1.Alpha]⟩, .int .i64 y20.2]⟩) wz] H19 (by decide) (by kernel_rfl) ⟨((parseval_Named_ok m _ _ hy20).b), trivial⟩ fun _ wd21 H22 hb => ?_
 clear H19
 replace hS := hS.below hb
 clear hb
 have hd := hS.hand [] [0, 1, 2] rfl rfl
 refine m_stp [11, 2, 4, 7, 8, 9, 10, 37, 38] [(2, [], .string ⟨⟨name_⟩⟩), (4, [], .pointer (some ⟨b4, 0, none⟩)), (7, [], .string ⟨⟨y14.1⟩⟩), (8, [], .int .i64 y14.2), (9, [], .string ⟨⟨y17.1⟩⟩), (10, [], .int .i64 y17.2), (37, [], .agg ⟨[.int .u8 y20.1.Red, .int .u8 y20.1.Green, .int .u8 y20.1.Blue, .int .u8 y20.1.Alpha]⟩), (38, [], .int .i64 y20.2)] H22 rfl rfl rfl rfl (o_alloc [.int .u8 0, .int .u8 0, .int .u8 0, .int .u8 0] (z := .agg ⟨[.int .u8 0, .int .u8 0, .int .u8 0, .int .u8 0]⟩) hd (by kernel_rfl) rfl) (fun _ => rfl) fun _ wd24 v H25 hq => ?_
 clear H22 hd
 obtain ⟨b23, rfl, hq⟩ := hq
 replace hS : SH M X w [Ent.blk b23 [.int .u8 0, .int .u8 0, .int .u8 0, .int .u8 0], Ent.blk b4 [.int .u8 c_.Red, .int .u8 c_.Green, .int .u8 c_.Blue, .int .u8 c_.Alpha], Ent.tab 0 (Lib.pow10Tab.map fun z => Value.int .u64 z), gE3] _ := hS.join [] [0, 1, 2] rfl rfl hq
 clear hq
 have hd := hS.hand [0] [1, 2, 3] rfl rfl
 refine m_stp0 [2, 4, 7, 8, 9, 10, 11, 38] [(2, [], .string ⟨⟨name_⟩⟩), (4, [], .pointer (some ⟨b4, 0, none⟩)), (7, [], .string ⟨⟨y14.1⟩⟩), (8, [], .int .i64 y14.2), (9, [], .string ⟨⟨y17.1⟩⟩), (10, [], .int .i64 y17.2), (11, [], .pointer (some ⟨b23, 0, none⟩)), (38, [], .int .i64 y20.2)] H25 rfl rfl rfl (o_store [.int .u8 y20.1.Red, .int .u8 y20.1.Green, .int .u8 y20.1.Blue, .int .u8 y20.1.Alpha] H25 hd rfl rfl (by kernel_rfl) rfl rfl rfl) rfl fun _ wd26 H27 hq => ?_
 clear H25 hd
 obtain ⟨_, hq⟩ := hq
 replace hS : SH M X w [Ent.blk b23 [.int .u8 y20.1.Red, .int .u8 y20.1.Green, .int .u8 y20.1.Blue, .int .u8 y20.1.Alpha], Ent.blk b4 [.int .u8 c_.Red, .int .u8 c_.Green, .int .u8 c_.Blue, .int .u8 c_.Alpha], Ent.tab 0 (Lib.pow10Tab.map fun z => Value.int .u64 z), gE3] _ := hS.join [0] [1, 2, 3] rfl rfl hq
 clear hq
 refine wl_batch 7 8 [] [2, 4, 7, 8, 9, 10, 11, 12] [(2, [], .string ⟨⟨name_⟩⟩), (4, [], .pointer (some ⟨b4, 0, none⟩)), (7, [], .string ⟨⟨y14.1⟩⟩), (8, [], .int .i64 y14.2), (9, [], .string ⟨⟨y17.1⟩⟩), (10, [], .int .i64 y17.2), (11, [], .pointer (some ⟨b23, 0, none⟩)), (12, [], .int .i64 y20.2)] [] H27 (by decide) (by kernel_rfl) trivial fun _ wd28 H29 hb => ?_
 clear H27
 replace hS := hS.below hb
 clear hb
 refine wl_end rfl ?_
 refine w_seq ?_
 refine wl_start ?_
 obtain ⟨y30, hy30, hm⟩ := bindE hm
 refine wl_batch 0 5 [(.tuple ⟨[.agg ⟨[.int .u8 y30.1.Red, .int .u8 y30.1.Green, .int .u8 y30.1.Blue, .int .u8 y30.1.Alpha]⟩, .int .i64 y30.2]⟩)] [4, 7, 8, 9, 10, 11, 12, 42, 43] [(4, [], .pointer (some ⟨b4, 0, none⟩)), (7, [], .string ⟨⟨y14.1⟩⟩), (8, [], .int .i64 y14.2), (9, [], .string ⟨⟨y17.1⟩⟩), (10, [], .int .i64 y17.2), (11, [], .pointer (some ⟨b23, 0, none⟩)), (12, [], .int .i64 y20.2), (42, [], .agg ⟨[.int .u8 y30.1.Red, .int .u8 y30.1.Green, .int .u8 y30.1.Blue, .int .u8 y30.1.Alpha]⟩), (43, [], .int .i64 y30.2)] [fun wz => RetB Tryd.prog 7 ⟨[.string ⟨⟨name_⟩⟩]⟩ (.tuple ⟨[.agg ⟨[.int .u8 y30.1.Red, .int .u8 y30.1.Green, .int .u8 y30.1.Blue, .int .u8 y30.1.Alpha]⟩, .int .i64 y30.2]⟩) wz] H29 (by decide) (by kernel_rfl) ⟨((r26_Named_ok m _ _ hy30).b), trivial⟩ fun _ wd31 H32 hb => ?_
 clear H29
 replace hS := hS.below hb
 clear hb
 have hd := hS.hand [] [0, 1, 2, 3] rfl rfl
 refine m_stp [13, 4, 7, 8, 9, 10, 11, 12, 42, 43] [(4, [], .pointer (some ⟨b4, 0, none⟩)), (7, [], .string ⟨⟨y14.1⟩⟩), (8, [], .int .i64 y14.2), (9, [], .string ⟨⟨y17.1⟩⟩), (10, [], .int .i64 y17.2), (11, [], .pointer (some ⟨b23, 0, none⟩)), (12, [], .int .i64 y20.2), (42, [], .agg ⟨[.int .u8 y30.1.Red, .int .u8 y30.1.Green, .int .u8 y30.1.Blue, .int .u8 y30.1.Alpha]⟩), (43, [], .int .i64 y30.2)] H32 rfl rfl rfl rfl (o_alloc [.int .u8 0, .int .u8 0, .int .u8 0, .int .u8 0] (z := .agg ⟨[.int .u8 0, .int .u8 0, .int .u8 0, .int .u8 0]⟩) hd (by kernel_rfl) rfl) (fun _ => rfl) fun _ wd34 v H35 hq => ?_
 clear H32 hd
 obtain ⟨b33, rfl, hq⟩ := hq
 replace hS : SH M X w [Ent.blk b33 [.int .u8 0, .int .u8 0, .int .u8 0, .int .u8 0], Ent.blk b23 [.int .u8 y20.1.Red, .int .u8 y20.1.Green, .int .u8 y20.1.Blue, .int .u8 y20.1.Alpha], Ent.blk b4 [.int .u8 c_.Red, .int .u8 c_.Green, .int .u8 c_.Blue, .int .u8 c_.Alpha], Ent.tab 0 (Lib.pow10Tab.map fun z => Value.int .u64 z), gE3] _ := hS.join [] [0, 1, 2, 3] rfl rfl hq
 clear hq
 have hd := hS.hand [0] [1, 2, 3, 4] rfl rfl
 refine m_stp0 [4, 7, 8, 9, 10, 11, 12, 13, 43] [(4, [], .pointer (some ⟨b4, 0, none⟩)), (7, [], .string ⟨⟨y14.1⟩⟩), (8, [], .int .i64 y14.2), (9, [], .string ⟨⟨y17.1⟩⟩), (10, [], .int .i64 y17.2), (11, [], .pointer (some ⟨b23, 0, none⟩)), (12, [], .int .i64 y20.2), (13, [], .pointer (some ⟨b33, 0, none⟩)), (43, [], .int .i64 y30.2)] H35 rfl rfl rfl (o_store [.int .u8 y30.1.Red, .int .u8 y30.1.Green, .int .u8 y30.1.Blue, .int .u8 y30.1.Alpha] H35 hd rfl rfl (by kernel_rfl) rfl rfl rfl) rfl fun _ wd36 H37 hq => ?_
 clear H35 hd
 obtain ⟨_, hq⟩ := hq
 replace hS : SH M X w [Ent.blk b33 [.int .u8 y30.1.Red, .int .u8 y30.1.Green, .int .u8 y30.1.Blue, .int .u8 y30.1.Alpha], Ent.blk b23 [.int .u8 y20.1.Red, .int .u8 y20.1.Green, .int .u8 y20.1.Blue, .int .u8 y20.1.Alpha], Ent.blk b4 [.int .u8 c_.Red, .int .u8 c_.Green, .int .u8 c_.Blue, .int .u8 c_.Alpha], Ent.tab 0 (Lib.pow10Tab.map fun z => Value.int .u64 z), gE3] _ := hS.join [0] [1, 2, 3, 4] rfl rfl hq
 clear hq
 refine wl_batch 7 8 [] [4, 7, 8, 9, 10, 11, 12, 13, 14] [(4, [], .pointer (some ⟨b4, 0, none⟩)), (7, [], .string ⟨⟨y14.1⟩⟩), (8, [], .int .i64 y14.2), (9, [], .string ⟨⟨y17.1⟩⟩), (10, [], .int .i64 y17.2), (11, [], .pointer (some ⟨b23, 0, none⟩)), (12, [], .int .i64 y20.2), (13, [], .pointer (some ⟨b33, 0, none⟩)), (14, [], .int .i64 y30.2)] [] H37 (by decide) (by kernel_rfl) trivial fun _ wd38 H39 hb => ?_
 clear H37
 replace hS := hS.below hb
 clear hb
 refine wl_end rfl ?_
 obtain ⟨x40, hx40, hm⟩ := letE hm
 obtain ⟨x41, hx41, hm⟩ := letE hm
 obtain ⟨y42, hy42, hm⟩ := bindE hm
 obtain ⟨y43, hy43, hm⟩ := bindE hm
 obtain ⟨x44, hx44, hm⟩ := letE hm
 refine s_draw [(.agg ⟨[.int .u8 y20.1.Red, .int .u8 y20.1.Green, .int .u8 y20.1.Blue, .int .u8 y20.1.Alpha]⟩), (.agg ⟨[.int .u8 y30.1.Red, .int .u8 y30.1.Green, .int .u8 y30.1.Blue, .int .u8 y30.1.Alpha]⟩), (.agg ⟨[.int .u8 c_.Red, .int .u8 c_.Green, .int .u8 c_.Blue, .int .u8 c_.Alpha]⟩), (.string ⟨⟨y42⟩⟩), (.agg ⟨[.int .u8 c_.Red, .int .u8 c_.Green, .int .u8 c_.Blue, .int .u8 c_.Alpha]⟩), (.string ⟨⟨y43⟩⟩)] [6] [(6, [], .bool x44)] [fun wz => (x40 = true ∧ True → V.atN b23 0 [.int .u8 y20.1.Red, .int .u8 y20.1.Green, .int .u8 y20.1.Blue, .int .u8 y20.1.Alpha] 0 wz), fun wz => (x40 = true ∧ True → V.atN b33 0 [.int .u8 y30.1.Red, .int .u8 y30.1.Green, .int .u8 y30.1.Blue, .int .u8 y30.1.Alpha] 0 wz), fun wz => ((cond x41 (y20.2 == y30.2) false) = true ∧ True → V.atN b4 0 [.int .u8 c_.Red, .int .u8 c_.Green, .int .u8 c_.Blue, .int .u8 c_.Alpha] 0 wz), fun wz => ((cond x41 (y20.2 == y30.2) false) = true ∧ True → RetB Tryd.prog 8 ⟨[.agg ⟨[.int .u8 c_.Red, .int .u8 c_.Green, .int .u8 c_.Blue, .int .u8 c_.Alpha]⟩]⟩ (.string ⟨⟨y42⟩⟩) wz), fun wz => ((cond x41 (y20.2 == y30.2) false) = true ∧ True → V.atN b4 0 [.int .u8 c_.Red, .int .u8 c_.Green, .int .u8 c_.Blue, .int .u8 c_.Alpha] 0 wz), fun wz => ((cond x41 (y20.2 == y30.2) false) = true ∧ True → RetB Tryd.prog 9 ⟨[.agg ⟨[.int .u8 c_.Red, .int .u8 c_.Green, .int .u8 c_.Blue, .int .u8 c_.Alpha]⟩]⟩ (.string ⟨⟨y43⟩⟩) wz)] H39 (by kernel_rfl) (by kernel_rfl) (by subst hx40 hx41 hx44; kernel_rfl) ⟨fun hg => (hS.bk 1 rfl).atD rfl, fun hg => (hS.bk 0 rfl).atD rfl, fun hg => (hS.bk 2 rfl).atD rfl, fun hg => parseval_Shown_ok m _ _ (bT (hg.1) hy42) _ (s0tab (s0im s0nil (hS.im 4 rfl)) (hS.at 3 rfl)), fun hg => (hS.bk 2 rfl).atD rfl, fun hg => (r26_Shown_ok m _ _ (bT (hg.1) hy43)).b, trivial⟩ fun _ wd45 H46 hb => ?_
 clear H39
 replace hS := hS.below hb
 clear hb
 replace hS : SH M X w [Ent.tab 0 (Lib.pow10Tab.map fun z => Value.int .u64 z), gE3] _ := hS.sel [3, 4] rfl
 refine w_ret ?_
 obtain rfl := someE hm
 exact retR1 H46 rfl rfl ⟨_, rfl, rfl, (hS.sel [] rfl)⟩
theorem law26_ParsevalWrites_ok  (m : Nat) (v_ : TVal) (c_ : TColor) (name_ : Str) (r : Bool) (hm : law26_ParsevalWrites m v_ c_ name_ = some r) (w : World) (hL : S0 F0 [Ent.tab 0 (Lib.pow10Tab.map fun z => Value.int .u64 z), gE3] w ∧ fpl [Ent.tab 0 (Lib.pow10Tab.map fun z => Value.int .u64 z), gE3] = []) : RetB Tryd.prog 3 ⟨[.agg ⟨[.int .u8 v_.Kind, .string ⟨⟨v_.Word⟩⟩, .int .i64 v_.Num, .int .u8 v_.Color.Red, .int .u8 v_.Color.Green, .int .u8 v_.Color.Blue, .int .u8 v_.Color.Alpha]⟩, .agg ⟨[.int .u8 c_.Red, .int .u8 c_.Green, .int .u8 c_.Blue, .int .u8 c_.Alpha]⟩, .string ⟨⟨name_⟩⟩]⟩ (.bool r) w := retB_of hL (Tryd.call3 _) (fun w' h => law26_ParsevalWrites_w F0 m   v_ c_ name_ r hm w' h)

end Go.Proofs.YtemchjneoalnoaaDoor
